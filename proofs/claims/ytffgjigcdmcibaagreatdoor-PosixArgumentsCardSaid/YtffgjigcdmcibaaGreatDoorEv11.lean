/- What is proved here: pieces of the evaluator's soundness: if the evaluator comes to a value, the model's run comes to it, for every world and tape; no conditions beyond the hypotheses of each theorem. -/
import Derived.Test.YtffgjigcdmcibaaGreatDoorEv10
set_option linter.unusedSimpArgs false
set_option linter.unusedVariables false
set_option linter.defProp false
namespace Go.Proofs.YtffgjigcdmcibaaGreatDoor.Ev
open Go
noncomputable section
section
variable{Φ:Nat→Option CF}{rd:Option Nat}{fn:Nat}{F:RO}
def WpD(base:Nat)(ops:List (Nat×Nat×CO))(k:Kn)(s:DS)(R:DS→Prop):Prop:=∃s',dOps k base ops s=some s'∧R s'
def dregQ(d:List Nat)(Q:Ex→St→Prop):DS→Prop
 | .mk t M c pend _=>Q .nrm (.mk t d (mergeAll pend M) c)
theorem wp_dreg(n:Nat)(ops:List (Nat×Nat×CO))(k:Kn)(t:T)(d:List Nat)(M:Mem)(c:Nat)(Q:Ex→St→Prop):
 Wp (.dreg n ops) k (.mk t d M c) Q=WpD c ops k (.mk t M (c+n) [] []) (dregQ d Q):=by
 have he:execC (.dreg n ops) k (.mk t d M c)=dEnd d (dOps k c ops (.mk t M (c+n) [] [])):=by
  show(fN (Nat.add c n) fun c'=>dEnd d (dOps k c ops (.mk t M c' [] [])))=_;rw[fN_eq];rfl
 apply propext;constructor
 ·rintro⟨e,s',h,q⟩;rw[he]at h;cases hs:dOps k c ops (.mk t M (c+n) [] [])with
  |none=>rw[hs]at h;cases h
  |some s1=>
   rw[hs]at h;obtain⟨t1,M1,c1,p1,r1⟩:=s1;have h2:((mergeAll p1 M1).force fun M=>Rs.k .nrm (.mk t1 d M c1))= .k e s':=h;rw[Tr.force_eq]at h2;injection h2 with a1 a2
   subst a1 a2;exact⟨_,hs,q⟩
 ·rintro⟨s1,hs,q⟩;obtain⟨t1,M1,c1,p1,r1⟩:=s1;refine⟨_,_,?_,q⟩;rw[he,hs];show((mergeAll p1 M1).force fun M=>Rs.k .nrm (.mk t1 d M c1))=_;rw[Tr.force_eq]
theorem dregQ_eq(d:List Nat)(Q:Ex→St→Prop)(t:T)(M:Mem)(c:Nat)(pend:List (Nat×Nat×Blk))(reads:List (Nat×Nat)):dregQ d Q (.mk t M c pend reads)=Q .nrm (.mk t d (mergeAll pend M) c):=Eq.trans rfl (Eq.refl _)
theorem mergeAll_nil(M:Mem):mergeAll [] M=M:=Eq.trans rfl (Eq.refl _)
theorem wd_nil(base:Nat)(k:Kn)(s:DS)(R:DS→Prop):WpD base [] k s R=R s:=by
 apply propext;constructor
 ·rintro⟨s',h,q⟩;cases h;exact q
 ·exact fun q=>⟨_,rfl,q⟩
theorem wd_cons(base:Nat)(o:Nat×Nat×CO)(r:List (Nat×Nat×CO))(k:Kn)(s:DS)(R:DS→Prop):WpD base (o::r) k s R↔ ∃s',dOp k base o s=some s'∧WpD base r k s' R:=by
 constructor
 ·rintro⟨s',h,q⟩;rw[dOps]at h;cases hs:dOp k base o s with
  |none=>rw[hs]at h;cases h
  |some s1=>rw[hs]at h;exact⟨s1,rfl,s',h,q⟩
 ·rintro⟨s1,h1,s',h2,q⟩;exact⟨s',by rw[dOps,h1];exact h2,q⟩
def dqR(o:QO)(F:RO)(M:Mem)(t:T):QR:=d_q0 o F M t (qop o F M t)
def PutD(q:QR)(base i:Nat)(p:Pos)(r:List (Nat×Nat×CO))(k:Kn)(t:T)(M:Mem)(c:Nat)(pend:List (Nat×Nat×Blk))(reads:List (Nat×Nat))(R:DS→Prop):Prop:=match q with
 | .f=>False
 | .v x=>WpD base r k (.mk (t.setP p x) M c pend reads) R
 | .r x b=>WpD base r k (.mk (t.setP p x) M c pend ((i,b)::reads)) R
theorem putD_v(x:V)(base i:Nat)(p:Pos)(r:List (Nat×Nat×CO))(k:Kn)(t:T)(M:Mem)(c:Nat)(pend:List (Nat×Nat×Blk))(reads:List (Nat×Nat))(R:DS→Prop):
 PutD (.v x) base i p r k t M c pend reads R=WpD base r k (.mk (t.setP p x) M c pend reads) R:=Eq.trans rfl (Eq.refl _)
theorem putD_r(x:V)(b base i:Nat)(p:Pos)(r:List (Nat×Nat×CO))(k:Kn)(t:T)(M:Mem)(c:Nat)(pend:List (Nat×Nat×Blk))(reads:List (Nat×Nat))(R:DS→Prop):
 PutD (.r x b) base i p r k t M c pend reads R=WpD base r k (.mk (t.setP p x) M c pend ((i,b)::reads)) R:=Eq.trans rfl (Eq.refl _)
theorem wd_q(base i mask:Nat)(p:Pos)(o:QO)(r:List (Nat×Nat×CO))(t:T)(M:Mem)(c:Nat)(pend:List (Nat×Nat×Blk))(reads:List (Nat×Nat))(R:DS→Prop):
 WpD base ((i,mask,.mk (some p) (.q o) none)::r) (K Φ rd fn F) (.mk t M c pend reads) R=PutD (dqR o F M t) base i p r (K Φ rd fn F) t M c pend reads R:=by
 have he:dOp (K Φ rd fn F) base (i,mask,.mk (some p) (.q o) none) (.mk t M c pend reads)=d_q1 i (some p) t M c pend reads (dqR o F M t):=rfl
 apply propext
 rw[wd_cons,he]
 cases dqR o F M t with
 |f=>exact⟨fun⟨s',h,_⟩=>(by cases h),False.elim⟩
 |v x=>
  have:d_q1 i (some p) t M c pend reads (.v x)=some (.mk (t.setP p x) M c pend reads):=by
   show((setT t (some p) x).force fun t=>some (DS.mk t M c pend reads))=_;rw[Tr.force_eq];rfl
  rw[this];constructor
  ·rintro⟨s',h,q⟩;obtain rfl:=Option.some.inj h;exact q
  ·exact fun q=>⟨_,rfl,q⟩
 |r x b=>
  have:d_q1 i (some p) t M c pend reads (.r x b)=some (.mk (t.setP p x) M c pend ((i,b)::reads)):=by
   show((setT t (some p) x).force fun t=>some (DS.mk t M c pend ((i,b)::reads)))=_;rw[Tr.force_eq];rfl
  rw[this];constructor
  ·rintro⟨s',h,q⟩;obtain rfl:=Option.some.inj h;exact q
  ·exact fun q=>⟨_,rfl,q⟩
def oV:Option V→QR
 |none=> .f
 |some x=> .v x
theorem oV_some(x:V):oV (some x)= .v x:=Eq.trans rfl (Eq.refl _)
theorem dq_of{o:QO}{M:Mem}{t:T}(h:∀F' M',qop o F' M' t=oV (qop o [] .e t).val):dqR o F M t=oV (qop o F M t).val:=by
 have h1:=h F M
 have h0:=h [] .e
 unfold dqR
 rw[h1]
 cases hv:(qop o [] .e t).val with
 |none=>rfl
 |some x=>
  show qop o [] .e t= .v x;rw[h0,hv];rfl
theorem vI_oV(k:IntKind)(n:Int):vI k n=oV (vI k n).val:=by rw[vI_eq];rfl
theorem dq_mv(x:X)(M:Mem)(t:T):dqR (.mv x) F M t= .v (x.ev t):=Eq.trans rfl (Eq.refl _)
theorem dq_ci(k:IntKind)(x:X)(M:Mem)(t:T):dqR (.ci k x) F M t=oV (match x.ev t with| .i _ n=>some (.i k (k.wrap n))|_=>none):=by
 refine(dq_of ?_).trans (congrArg oV (v_ci (F:=F) k x M t))
 intro F' M'
 show(onI (x.ev t) QR.f fun _ n=>vI k (wr k n))=oV (onI (x.ev t) QR.f fun _ n=>vI k (wr k n)).val
 cases x.ev t with
 |i k' n=>exact vI_oV _ _
 |_=>rfl
theorem qv_oV{q:QR}(h:q= .f∨ ∃x,q= .v x):q=oV q.val:=by
 rcases h with rfl|⟨x,rfl⟩<;>rfl
theorem biq_ok(op:BinOp)(k:IntKind)(a:Int)(k':IntKind)(b:Int):q_bii op k a k' b= .f∨ ∃x,q_bii op k a k' b= .v x:=by
 have hb:∀(c:Bool) (q:QR),(q= .f∨ ∃x,q= .v x)→(Bool.rec (motive:=fun _=>QR) .f q c= .f∨ ∃x,(Bool.rec (motive:=fun _=>QR) .f q c:QR)= .v x):=by
  intro c q h;cases c
  ·exact .inl rfl
  ·exact h
 have vi:∀k n,vI k n= .f∨ ∃x,vI k n= .v x:=fun k n=> .inr ⟨_,vI_eq k n⟩
 have vb:∀b,vB b= .f∨ ∃x,vB b= .v x:=fun b=> .inr ⟨_,vB_eq b⟩
 cases op with
 |add=>exact hb _ _ (vi _ _)
 |sub=>exact hb _ _ (vi _ _)
 |mul=>exact hb _ _ (vi _ _)
 |quo=>
  refine hb _ _ ?_;have e:b_quo k a b= .f∨ ∃x,b_quo k a b= .v x:=by
   unfold b_quo;cases eqI b 0
   ·exact vi _ _
   ·exact .inl rfl
  exact e
 |rem=>
  refine hb _ _ ?_;have e:b_rem k a b= .f∨ ∃x,b_rem k a b= .v x:=by
   unfold b_rem;cases eqI b 0
   ·exact vi _ _
   ·exact .inl rfl
  exact e
 |and=>exact hb _ _ (vi _ _)
 |or=>exact hb _ _ (vi _ _)
 |xor=>exact hb _ _ (vi _ _)
 |andNot=>exact hb _ _ (vi _ _)
 |eql=>exact hb _ _ (vb _)
 |neq=>exact hb _ _ (vb _)
 |lss=>exact hb _ _ (vb _)
 |leq=>exact hb _ _ (vb _)
 |gtr=>exact hb _ _ (vb _)
 |geq=>exact hb _ _ (vb _)
 |shl=>
  show shlI k a b= .f∨ ∃x,shlI k a b= .v x;cases b with
  |ofNat n=>exact vi _ _
  |negSucc n=>exact .inl rfl
 |shr=>
  show shrI k a b= .f∨ ∃x,shrI k a b= .v x;cases b with
  |ofNat n=>exact vi _ _
  |negSucc n=>exact .inl rfl
theorem dq_bi(op:BinOp)(x y:X)(M:Mem)(t:T){k k':IntKind}{a b:Int}(hx:x.ev t= .i k a)(hy:y.ev t= .i k' b):dqR (.bi op x y) F M t=oV (biV op (x.ev t) (y.ev t)):=by
 rw[←v_bi (F:=F) op x y M t]
 refine dq_of ?_
 intro F' M'
 have e:∀F' M',qop (.bi op x y) F' M' t=q_bii op k a k' b:=by
  intro F' M';show q_bi op x y F' M' t=_;unfold q_bi;rw[hx];show(onI (y.ev t) QR.f fun k' b=>q_bii op k a k' b)=_;rw[hy];rfl
 rw[e,e]
 exact qv_oV (biq_ok op k a k' b)
theorem dq_ex(i:Nat)(x:X)(M:Mem)(t:T):dqR (.ex i x) F M t=oV (match x.ev t with| .t cs=>cs[i]?|_=>none):=by
 refine(dq_of ?_).trans (congrArg oV (v_ex (F:=F) i x M t))
 intro F' M'
 show q_ex i x F' M' t=oV (q_ex i x [] .e t).val
 unfold q_ex
 cases x.ev t with
 |t cs=>
  show qr (nth cs i)=oV (qr (nth cs i)).val;cases nth cs i<;>rfl
 |_=>rfl
theorem dq_ld1(x:X)(M:Mem)(t:T){b o:Nat}{v:V}(hx:x.ev t= .p b o)(h:load1 F M b o=some v):dqR (.ld1 x) F M t= .r v b:=by
 have hq:∀F' M',qop (.ld1 x) F' M' t=qrb b (load1 F' M' b o):=by
  intro F' M';show(onP (x.ev t) QR.f fun b o=>qrb b (load1 F' M' b o))=_;rw[hx];rfl
 unfold dqR
 rw[hq,h]
 show d_q2 (.ld1 x) t b (look F M b)=_
 unfold load1 at h
 cases hl:look F M b with
 |none=>rw[hl]at h;cases h
 |some blk=>
  rw[hl]at h;show rOnly b (qop (.ld1 x) [(b,blk)] .e t)=_;rw[hq];have h2:load1 [(b,blk)] .e b o=some v:=by
   unfold load1;have:look [(b,blk)] (.e:Mem) b=some blk:=by
    rw[look_none_M (show(Tr.e:Mem).get b=none from rfl)];show Bool.rec (motive:=fun _=>Option Blk) _ (some blk) (Nat.beq b b)=_;rw[bb,beqN];simp
   rw[this];exact h
  rw[h2];rfl
theorem roFree_nil(M:Mem):roFree M []=true:=Eq.trans rfl (Eq.refl _)
theorem protect_cons(mask i b:Nat)(r:List (Nat×Nat))(h:testBit mask i=true)(F:RO)(M:Mem)(s:List (Nat×Blk)):protect mask ((i,b)::r) F M s=protect mask r F M s:=by
 rw[protect,h];rfl
def befB(mask:Nat):List (Nat×Nat)→Bool
 |[]=>true
 |(i,_)::r=>(mask/2^i%2==1)&&befB mask r
theorem befB_nil(mask:Nat):befB mask []=true:=Eq.trans rfl (Eq.refl _)
theorem befB_cons(mask i b:Nat)(r:List (Nat×Nat)):befB mask ((i,b)::r)=((mask/2^i%2==1)&&befB mask r):=Eq.trans rfl (Eq.refl _)
theorem befB_protect{mask:Nat}:∀{reads:List (Nat×Nat)},befB mask reads=true→ ∀F M s,protect mask reads F M s=Pr.mk F M s
 |[],_,F,M,s=>rfl
 |(i,b)::r,h,F,M,s=>by
  rw[befB_cons,Bool.and_eq_true]at h;rw[protect_cons mask i b r (by show Nat.beq (Nat.mod (Nat.div mask (Nat.pow 2 i)) 2) 1=true;rw[beqN];exact decide_eq_true (show mask/2^i%2=1 by simpa using h.1))];exact befB_protect h.2 F M s
def PutDE(o:RC)(F:RO)(p:Option Pos)(base:Nat)(r:List (Nat×Nat×CO))(k:Kn)(t:T)(reads:List (Nat×Nat))(R:DS→Prop):Prop:=match o with
 | .f=>False
 | .k v M c=>roFree M F=true∧WpD base r k (.mk (setT t p v) M c [] reads) R
theorem putDE(v:V)(M:Mem)(c:Nat)(F:RO)(p:Option Pos)(base:Nat)(r:List (Nat×Nat×CO))(k:Kn)(t:T)(reads:List (Nat×Nat))(R:DS→Prop):
 PutDE (.k v M c) F p base r k t reads R=(roFree M F=true∧WpD base r k (.mk (setT t p v) M c [] reads) R):=Eq.trans rfl (Eq.refl _)
theorem wd_e1(base i mask:Nat)(dst:Option Pos)(o:EO)(r:List (Nat×Nat×CO))(t:T)(M:Mem)(c:Nat)(reads:List (Nat×Nat))(R:DS→Prop)(hb:befB mask reads=true):
 WpD base ((i,mask,.mk dst (.e o) none)::r) (K Φ rd fn F) (.mk t M c [] reads) R=PutDE (doE o (K Φ rd fn F) M c t) F dst base r (K Φ rd fn F) t reads R:=by
 have hp:=befB_protect hb
 have he:dOp (K Φ rd fn F) base (i,mask,.mk dst (.e o) none) (.mk t M c [] reads)=d_e2 F dst t [] reads [] (doE o (K Φ rd fn F) M c t):=by
  show d_e1 o (K Φ rd fn F) dst t c [] reads (protect mask reads F M [])=_;rw[hp];rfl
 apply propext
 rw[wd_cons,he]
 cases hd:doE o (K Φ rd fn F) M c t with
 |f=>exact⟨fun⟨s',h,_⟩=>(by cases h),False.elim⟩
 |k v M' c'=>
  have h2:d_e2 F dst t [] reads [] (.k v M' c')=if roFree M' F=true then some (DS.mk (setT t dst v) M' c' [] reads)else none:=by
   show(bif roFree M' F&&pendFree F M' []then(unprotect [] M').force fun M=>(setT t dst v).force fun t=>some (DS.mk t M c' [] reads)else none)=_;cases roFree M' F with
   |false=>rfl
   |true=>
    show((unprotect [] M').force fun M=>(setT t dst v).force fun t=>some (DS.mk t M c' [] reads))=_;rw[Tr.force_eq,Tr.force_eq];rfl
  rw[h2,putDE];constructor
  ·rintro⟨s',h,q⟩;split at h
   ·rename_i hr;obtain rfl:=Option.some.inj h;exact⟨hr,q⟩
   ·cases h
  ·rintro⟨hr,q⟩;exact⟨_,if_pos hr,q⟩
theorem roFree_cons(M:Mem)(b:Nat)(x:Blk)(F:RO):roFree M ((b,x)::F)=((M.get b).isNone&&roFree M F):=by
 show(bif (M.get b).isNone then roFree M F else false)=_
 cases(M.get b).isNone<;>rfl
theorem get_ne(M:Mem){b b':Nat}(x:Blk)(h:b'≠b):(M.set b x).get b'=M.get b':=by rw[Tr.get_set,if_neg h]
theorem isNone_none':(none:Option Blk).isNone=true:=Eq.trans rfl (Eq.refl _)
def biQ(op:BinOp)(X Y:V)(F:RO)(M:Mem):QR:=dqR (.bi op (.c X) (.c Y)) F M .e
theorem dq_bi0(op:BinOp)(x y:X)(M:Mem)(t:T):dqR (.bi op x y) F M t=biQ op (x.ev t) (y.ev t) F M:=Eq.trans rfl (Eq.refl _)
theorem biQ_i(op:BinOp)(k k':IntKind)(a b:Int)(M:Mem):biQ op (.i k a) (.i k' b) F M=oV (biV op (.i k a) (.i k' b)):=dq_bi op _ _ M .e rfl rfl
def ldQ(X:V)(F:RO)(M:Mem):QR:=dqR (.ld1 (.c X)) F M .e
def ldR(b:Nat):Option V→QR
 |some v=> .r v b
 |none=> .f
theorem ldR_some(b:Nat)(v:V):ldR b (some v)= .r v b:=Eq.trans rfl (Eq.refl _)
theorem dq_ld0(x:X)(M:Mem)(t:T):dqR (.ld1 x) F M t=ldQ (x.ev t) F M:=Eq.trans rfl (Eq.refl _)
theorem ldQ_p(b o:Nat)(M:Mem):ldQ (.p b o) F M=ldR b (load1 F M b o):=by
 cases h:load1 F M b o with
 |some v=>exact dq_ld1 _ M .e rfl h
 |none=>
  show d_q0 (.ld1 (.c (.p b o))) F M .e (qrb b (load1 F M b o))=_;rw[h];rfl
theorem dq_iaS(sz:Nat)(x i:X)(M:Mem)(t:T):dqR (.iaS sz x i) F M t=oV ((qop (.iaS sz x i) F M t).val):=by
 refine dq_of fun F' M'=>?_
 show q_iaS sz x i F' M' t=oV (q_iaS sz x i [] .e t).val
 have key:∀(b o n:Nat) (y:V),q_iaS1 sz b o n y=oV (q_iaS1 sz b o n y).val:=by
  intro b o n y;unfold q_iaS1;cases y with
  |i k m=>
   show q_ia sz b o n m=oV (q_ia sz b o n m).val;cases m with
   |ofNat m=>
    show(Bool.rec (motive:=fun _=>QR) .f (mkP b (Nat.add o (Nat.mul m sz))) (Nat.blt m n))=oV (Bool.rec (motive:=fun _=>QR) .f (mkP b (Nat.add o (Nat.mul m sz))) (Nat.blt m n):QR).val;cases Nat.blt m n with
    |true=>
     show mkP b (Nat.add o (Nat.mul m sz))=oV (mkP b (Nat.add o (Nat.mul m sz))).val;unfold mkP;rw[fN_eq];rfl
    |false=>rfl
   |negSucc m=>rfl
  |_=>rfl
 unfold q_iaS
 cases x.ev t with
 |l b o n c=>exact key b o n _
 |u b o n e k=>exact key b o n _
 |_=>rfl
def lnL(x:V):Option V:=(qop (.ln .slice (.c x)) [] .e .e).val
theorem lnSl(M:Mem)(x:V):lnV .slice F M x=lnL x:=Eq.trans rfl (Eq.refl _)
theorem lnL_l(b o n c:Nat):lnL (.l b o n c)=some (.i .i64 (n:Int)):=Eq.trans rfl (Eq.refl _)
theorem lnL_u(b o n e k:Nat):lnL (.u b o n e k)=some (.i .i64 (n:Int)):=Eq.trans rfl (Eq.refl _)
theorem lnL_l0:lnL .l0=some (.i .i64 0):=Eq.trans rfl (Eq.refl _)
theorem lnL_ue(b o n:Nat):lnL (.ue b o n)=some (.i .i64 0):=Eq.trans rfl (Eq.refl _)
def iaSV(sz:Nat)(x i:V):Option V:=(qop (.iaS sz (.c x) (.c i)) [] .e .e).val
theorem v_iaS(sz:Nat)(x i:X)(M:Mem)(t:T):(qop (.iaS sz x i) F M t).val=iaSV sz (x.ev t) (i.ev t):=Eq.trans rfl (Eq.refl _)
theorem iaS_l(sz b o n c i:Nat)(k:IntKind)(h:i<n):iaSV sz (.l b o n c) (.i k (i:Int))=some (.p b (o+i*sz)):=by
 show(q_ia sz b o n (Int.ofNat i)).val=_
 show(Bool.rec (motive:=fun _=>QR) .f (mkP b (Nat.add o (Nat.mul i sz))) (Nat.blt i n)).val=_
 rw[bb,bltN,decide_eq_true h,if_pos rfl]
 unfold mkP;rw[fN_eq];rfl
theorem iaS_u(sz b o n e kn i:Nat)(k:IntKind)(h:i<n):iaSV sz (.u b o n e kn) (.i k (i:Int))=some (.p b (o+i*sz)):=by
 show(q_ia sz b o n (Int.ofNat i)).val=_
 show(Bool.rec (motive:=fun _=>QR) .f (mkP b (Nat.add o (Nat.mul i sz))) (Nat.blt i n)).val=_
 rw[bb,bltN,decide_eq_true h,if_pos rfl]
 unfold mkP;rw[fN_eq];rfl
end
section
variable{Φ:Nat→Option CF}{rd:Option Nat}{fn:Nat}{F:RO}
def sV(l:List UInt8):V:= .s l.length (strN l)
def bV(c:UInt8):V:= .i .u8 (c.toNat:Int)
theorem lnSs(l:List UInt8)(M:Mem):lnV .str F M (sV l)=some (.i .i64 (l.length:Int)):=rfl
theorem strEq_s(a b:List UInt8):strEq a.length (strN a) b.length (strN b)=decide (a=b):=by
 rw[strEq_iff,strN_bl,strN_bl]
theorem bi_seq(a b:List UInt8):biV .eql (sV a) (sV b)=some (.b (decide (a=b))):=by
 show(vB (strEq a.length (strN a) b.length (strN b))).val=_
 rw[strEq_s]
 cases decide (a=b)<;>rfl
theorem bi_sne(a b:List UInt8):biV .neq (sV a) (sV b)=some (.b (!decide (a=b))):=by
 show(vB (!strEq a.length (strN a) b.length (strN b))).val=_
 rw[strEq_s]
 cases decide (a=b)<;>rfl
theorem eq1_str(lit:Bool)(M:Mem)(a b:List UInt8):eq1 F M .str lit (sV a) (sV b)=some (decide (a=b)):=by
 show some (strEq a.length (strN a) b.length (strN b))=_
 rw[strEq_s]
theorem eqV_str(lit:Bool)(M:Mem)(a b:List UInt8):eqV F M .str lit (sV a) (sV b)=some (decide (a=b)):=eq1_str (F:=F) lit M a b
def slSV(x:V)(lo hi:Option V):Option V:=(qop (.slS (.c x) (lo.map .c) (hi.map .c)) [] .e .e).val
theorem optN_map(tm:T)(d:Nat)(o:Option X):optN .e d ((o.map fun x=>x.ev tm).map .c)=optN tm d o:=by cases o<;>rfl
theorem v_slS(x:X)(lo hi:Option X)(M:Mem)(t:T):(qop (.slS x lo hi) F M t).val=slSV (x.ev t) (lo.map fun x=>x.ev t) (hi.map fun x=>x.ev t):=by
 show(q_slS x lo hi F M t).val=(q_slS (.c (x.ev t)) _ _ [] .e .e).val
 unfold q_slS
 rw[optN_map]
 show _=(onS (x.ev t) .f fun n s=>q_slS1 n s (optN t 0 lo) (optN .e n ((hi.map fun x=>x.ev t).map .c))).val
 congr 2
 funext n s
 rw[optN_map]
theorem bytesV_s:∀l:List UInt8,bytesV (l.map bV)=some (l.length,strN l)
 |[]=>rfl
 |c::l=>by
  have hc:=UInt8.toNat_lt c;rw[List.map_cons];show(match bytesV (l.map bV)with|some (n,x)=>some (Nat.succ n,Nat.add (Nat.mod c.toNat 256) (Nat.mul 256 x))|none=>none)=_;rw[bytesV_s l];show some (l.length+1,c.toNat%256+256*strN l)=_;rw[Nat.mod_eq_of_lt (by omega)];rfl
end
section
variable{Φ:Nat→Option CF}{rd:Option Nat}{fn:Nat}{F:RO}
def RTo(o:RC)(P:V→Mem→Nat→Prop):Prop:=∃v M' c',o= .k v M' c'∧P v M' c'
theorem RTo.mono{o:RC}{P P':V→Mem→Nat→Prop}(h:RTo o P)(hp:∀v M' c',P v M' c'→P' v M' c'):RTo o P':=by
 obtain⟨v,M',c',e,h⟩:=h
 exact⟨v,M',c',e,hp v M' c' h⟩
abbrev Calls(Φ:Nat→Option CF)(F:RO)(f:Nat)(args:List V)(M:Mem)(c:Nat)(P:V→Mem→Nat→Prop):Prop:=RTo (callC (den Φ) F f args M c (Φ f)) P
theorem calls_walk{f n:Nat}{res:List RV}{body:CC}{args:List V}{M:Mem}{c:Nat}{P:V→Mem→Nat→Prop}(hf:Φ f=some (.mk n res body))
 (h:Wp body (K Φ none f F) (.mk (argTr n args) [] M c) (endQ F res P)):Calls Φ F f args M c P:=call_walk hf h
theorem putE_to{o:RC}{p:Pos}{r:List CO}{k:Kn}{t:T}{d:List Nat}{R:St→Prop}(h:RTo o fun v M' c'=>WpO r k (.mk (t.setP p v) d M' c') R):PutE o p r k t d R:=by
 obtain⟨v,M',c',e,h⟩:=h
 rw[e];exact h
structure Okm(F:RO)(M:Mem)(c:Nat):Prop where
 hiM:∀b,c≤b→M.get b=none
 hiF:∀b,c≤b→roGet F b=none
 ap:∀b,(roGet F b).isSome→M.get b=none
 ge:1000≤c
structure Gr(c:Nat)(M:Mem)(c':Nat)(M':Mem):Prop where
 le:c≤c'
 old:∀b,b<c→M'.get b=M.get b
 new:∀b,c'≤b→M'.get b=none
theorem roFree_of(M:Mem):∀F:RO,(∀b,(roGet F b).isSome→M.get b=none)→roFree M F=true
 |[],_=>rfl
 |(b,x)::F,h=>by
  rw[roFree_cons,h b (by
   show(Bool.rec (motive:=fun _=>Option Blk) (roGet F b) (some x) (Nat.beq b b)).isSome=true;rw[Nat.beq_refl];rfl)]
  rw[roFree_of M F fun b' hb'=>h b' (by
   show(Bool.rec (motive:=fun _=>Option Blk) (roGet F b') (some x) (Nat.beq b b')).isSome=true;cases Nat.beq b b' with
   |true=>rfl
   |false=>exact hb')]
  rfl
theorem Okm.free{M:Mem}{c:Nat}(h:Okm F M c):roFree M F=true:=roFree_of M F h.ap
theorem Okm.look{M:Mem}{c:Nat}(h:Okm F M c){b:Nat}(hb:c≤b):look F M b=none:=by
 rw[look_none_M (h.hiM b hb),h.hiF b hb]
theorem Gr.refl{M:Mem}{c:Nat}(h:Okm F M c):Gr c M c M:=⟨Nat.le_refl _,fun _ _=>rfl,h.hiM⟩
theorem Gr.trans{M M1 M2:Mem}{c c1 c2:Nat}(h:Gr c M c1 M1)(h2:Gr c1 M1 c2 M2):Gr c M c2 M2:=
 ⟨Nat.le_trans h.le h2.le,fun b hb=>(h2.old b (Nat.lt_of_lt_of_le hb h.le)).trans (h.old b hb),h2.new⟩
theorem Gr.ok{M M1:Mem}{c c1:Nat}(h:Gr c M c1 M1)(ho:Okm F M c):Okm F M1 c1:=by
 refine⟨h.new,fun b hb=>ho.hiF b (Nat.le_trans h.le hb),fun b hb=>?_,Nat.le_trans ho.ge h.le⟩
 have:b<c:=by
  by_cases hc:b<c
  ·exact hc
  ·rw[ho.hiF b (by omega)]at hb;cases hb
 rw[h.old b this];exact ho.ap b hb
theorem Gr.set{M M1:Mem}{c c1 c2:Nat}(h:Gr c M c1 M1)(b:Nat)(x:Blk)(h1:c≤b)(h2:b<c2)(h3:c1≤c2):Gr c M c2 (M1.set b x):=by
 refine⟨Nat.le_trans h.le h3,fun b' hb'=>?_,fun b' hb'=>?_⟩
 ·rw[get_ne _ _ (by omega)];exact h.old b' hb'
 ·rw[get_ne _ _ (by omega)];exact h.new b' (by omega)
theorem Gr.up{M M1:Mem}{c c1 c2:Nat}(h:Gr c M c1 M1)(h3:c1≤c2):Gr c M c2 M1:=
 ⟨Nat.le_trans h.le h3,h.old,fun b hb=>h.new b (by omega)⟩
theorem Gr.look{M M1:Mem}{c c1:Nat}(h:Gr c M c1 M1){b:Nat}(hb:b<c):look F M1 b=look F M b:=look_congr (h.old b hb)
theorem Gr.load1{M M1:Mem}{c c1:Nat}(h:Gr c M c1 M1){b:Nat}(hb:b<c)(o:Nat):load1 F M1 b o=load1 F M b o:=by
 unfold Ev.load1;rw[h.look hb]
theorem Gr.loadN{M M1:Mem}{c c1:Nat}(h:Gr c M c1 M1){b:Nat}(hb:b<c)(o n:Nat):loadN F M1 b o n=loadN F M b o n:=by
 unfold Ev.loadN;rw[h.look hb]
theorem put_same{α:Type}(v:α):∀(t:Tr α) (k:Nat),t.get k=some v→t.put (some v) k=t
 | .e,k,h=>by cases h
 | .n l x r,k,h=>by
   rw[Tr.put_n];rw[Tr.get_n]at h;by_cases h0:k=0
   ·rw[if_pos h0]at h⊢;rw[h]
   ·rw[if_neg h0]at h⊢;by_cases h2:k%2=0
    ·rw[if_pos h2]at h⊢;rw[put_same v r _ h]
    ·rw[if_neg h2]at h⊢;rw[put_same v l _ h]
theorem set_same{M:Mem}{b:Nat}{x:Blk}(h:M.get b=some x):M=M.set b x:=(put_same x M b h).symm
def RowAt(F:RO)(M:Mem)(b:Nat)(row:List V):Prop:=∃ty ex fz str d c,look F M b=some (.cells ty row.length ex fz str d c)∧ ∀i,i<row.length→cell row.length d c i=row[i]?
def CellsAt(F:RO)(M:Mem)(b o:Nat)(row:List V):Prop:=∀k,k<row.length→load1 F M b (o+k)=row[k]?
theorem CellsAt.grow{M M':Mem}{b o c c':Nat}{row:List V}(h:CellsAt F M b o row)(hg:Gr c M c' M')(hb:b<c):CellsAt F M' b o row:=fun k hk=>by rw[hg.load1 hb];exact h k hk
theorem load1_some{M:Mem}{b o:Nat}{v:V}(h:Ev.load1 F M b o=some v):∃ty n ex fz str d c,look F M b=some (.cells ty n ex fz str d c)∧cell n d c o=some v:=by
 unfold Ev.load1 at h
 cases hl:look F M b with
 |none=>rw[hl]at h;cases h
 |some x=>
  rw[hl]at h;cases x with
  |cells ty n ex fz str d c=>exact⟨ty,n,ex,fz,str,d,c,rfl,h⟩
  |_=>cases h
theorem CellsAt.load{M:Mem}{b o:Nat}{row:List V}(h:CellsAt F M b o row)(hr:row≠[]):loadN F M b o row.length=some row:=by
 cases row with
 |nil=>exact absurd rfl hr
 |cons v r=>
  have h0:=h 0 (by simp);simp only[Nat.add_zero,List.getElem?_cons_zero]at h0;obtain⟨ty,n,ex,fz,str,d,c,hl,_⟩:=load1_some h0;have key:∀(l:List V) (o:Nat),(∀k,k<l.length→Ev.load1 F M b (o+k)=l[k]?)→cellsAt n d c l.length o=some l:=by
   intro l
   induction l with
   |nil=>intro o _;rfl
   |cons x l ih=>
    intro o hx;have e0:=hx 0 (by simp);simp only[Nat.add_zero,List.getElem?_cons_zero]at e0;unfold Ev.load1 at e0;rw[hl]at e0;have e0':cell n d c o=some x:=e0;rw[List.length_cons,cellsAt_succ,e0'];show(match cellsAt n d c l.length (o+1)with|none=>none|some r=>some (x::r))=_
    rw[ih (o+1) fun k hk=>by
     have:=hx (k+1) (by simpa using hk);rw[List.getElem?_cons_succ]at this;rw[←this];congr 1;omega]
  unfold Ev.loadN;rw[hl];exact key (v::r) o h
theorem flat_len:∀{es:List (List V)} {sz:Nat},(∀e∈es,e.length=sz)→es.flatten.length=es.length*sz
 |[],sz,_=>by simp
 |e::es,sz,h=>by
  rw[List.flatten_cons,List.length_append,flat_len fun x hx=>h x (List.mem_cons_of_mem _ hx),h e (List.mem_cons_self ..),List.length_cons,Nat.add_mul];omega
def SlAt(F:RO)(M:Mem)(c sz:Nat)(v:V)(es:List (List V)):Prop:=
 (∀e∈es,e.length=sz)∧((es=[]∧(v= .l0∨ ∃b o0 o,v= .ue b o0 o))∨
  ∃b o,((∃cap,es.length≤cap∧v= .l b o es.length cap)∨(∃el kn,el+es.length≤kn∧v= .u b o es.length el kn))∧b<c∧CellsAt F M b o es.flatten)
theorem SlAt.grow{M M':Mem}{c c' sz:Nat}{v:V}{es:List (List V)}(h:SlAt F M c sz v es)(hg:Gr c M c' M'):SlAt F M' c' sz v es:=by
 rcases h with⟨h0,h|⟨b,o,hv,hb,hr⟩⟩
 ·exact⟨h0,.inl h⟩
 ·exact⟨h0,.inr ⟨b,o,hv,Nat.lt_of_lt_of_le hb hg.le,hr.grow hg hb⟩⟩
abbrev SlB(F:RO)(M:Mem)(c:Nat)(v:V)(l:List UInt8):Prop:=SlAt F M c 1 v (l.map fun x=>[bV x])
theorem loadN_fr{M M':Mem}{b:Nat}(h:M'.get b=M.get b)(o n:Nat):loadN F M' b o n=loadN F M b o n:=by
 unfold Ev.loadN;rw[look_congr h]
theorem load1_fr{M M':Mem}{b:Nat}(h:M'.get b=M.get b)(o:Nat):load1 F M' b o=load1 F M b o:=by
 unfold Ev.load1;rw[look_congr h]
theorem get_same(M:Mem)(b:Nat)(x:Blk):(M.set b x).get b=some x:=by rw[Tr.get_set,if_pos rfl]
end
section
variable{Φ:Nat→Option CF}{rd:Option Nat}{fn:Nat}{F:RO}
theorem lenV_sl{M:Mem}{c sz:Nat}{v:V}{es:List (List V)}(h:SlAt F M c sz v es):lenV v=some es.length:=by
 rcases h with⟨_,⟨rfl,rfl|⟨b,o0,o,rfl⟩⟩|⟨b,o,⟨cap,_,rfl⟩|⟨el,kn,_,rfl⟩,_⟩⟩<;>rfl
theorem readB_of{M:Mem}{sz b o:Nat}{es:List (List V)}(hsz:0<sz)(h0:∀e∈es,e.length=sz)(h:CellsAt F M b o es.flatten):∃r,readB F M sz es.length b o=some (es.flatten,r):=by
 unfold readB
 rw[beqN]
 cases es with
 |nil=>exact⟨none,rfl⟩
 |cons e es=>
  have hl:=flat_len h0;have hne:(e::es).flatten≠[]:=by
   intro h;rw[h]at hl;simp only[List.length_nil,List.length_cons,Nat.add_mul]at hl;omega
  have:=h.load hne;rw[hl]at this;rw[decide_eq_false (by simp),cond_false];show∃r,(match loadN F M b o ((e::es).length*sz)with|some vs=>some (vs,some b)|none=>none)=_;rw[this];exact⟨some b,rfl⟩
theorem readL_of{M:Mem}{c sz:Nat}{v:V}{es:List (List V)}(hsz:0<sz)(h:SlAt F M c sz v es):∃r,readL F M sz es.length v=some (es.flatten,r):=by
 rcases h with⟨h0,⟨rfl,rfl|⟨b,o0,o,rfl⟩⟩|⟨b,o,⟨cap,_,rfl⟩|⟨el,kn,_,rfl⟩,_,hc⟩⟩
 ·exact⟨none,rfl⟩
 ·exact⟨none,rfl⟩
 ·exact readB_of hsz h0 hc
 ·exact readB_of hsz h0 hc
theorem split_sl{M:Mem}{c sz:Nat}{v:V}{es:List (List V)}(hsz:0<sz)(h:SlAt F M c sz v es):splitSrc F M sz v=some (es.length,es.flatten):=by
 have hl:=lenV_sl h
 obtain⟨r,hr⟩:=readL_of hsz h
 have hs:∀n x,v≠ .s n x:=by
  intro n x e;rcases h with⟨_,⟨rfl,h|⟨b,o0,o,h⟩⟩|⟨b,o,⟨cap,_,h⟩|⟨el,kn,_,h⟩,_⟩⟩<;>(rw[e]at h;cases h)
 have e:splitSrc F M sz v=match lenV v with|some n=>snd1 n (readL F M sz n v)|none=>none:=by
  cases v<;>first|rfl|exact absurd rfl (hs _ _)
 rw[e,hl]
 show snd1 es.length (readL F M sz es.length v)=_
 rw[hr];rfl
def rowU(ty:Nat)(row:List V):Blk:= .cells ty row.length false 0 false [] (rowT row)
def AccAt(M:Mem)(c0 c b ty sz:Nat)(v:V)(es:List (List V)):Prop:=
 (∀e∈es,e.length=sz)∧((es=[]∧v= .l0)∨(c0≤b∧b<c∧v= .u b 0 es.length 0 es.length∧M.get b=some (rowU ty es.flatten)))
theorem grown_eq(M:Mem)(c ty bytes len:Nat)(vs:List V)(h:room len bytes=true):grown M c ty bytes len 0 false vs= .k (.u c 0 len 0 len) (M.set c (rowU ty vs)) (c+1):=by
 unfold grown
 rw[h]
 show(M.set c (.cells ty vs.length false 0 false [] (listTr vs 0 .e))).force (fun M=>fN (Nat.succ c) fun c'=>fN len fun len=>RC.k (.u c 0 len 0 len) M c')=_
 rw[Tr.force_eq,fN_eq,fN_eq];rfl
def slLV(sz:Nat)(x:V)(lo hi mx:Option V):Option V:=(qop (.slL sz (.c x) (lo.map .c) (hi.map .c) (mx.map .c)) [] .e .e).val
theorem optNN_map(tm:T)(o:Option X):optNN .e ((o.map fun x=>x.ev tm).map .c)=optNN tm o:=by cases o<;>rfl
theorem v_slL(sz:Nat)(x:X)(lo hi mx:Option X)(M:Mem)(t:T):(qop (.slL sz x lo hi mx) F M t).val=slLV sz (x.ev t) (lo.map fun x=>x.ev t) (hi.map fun x=>x.ev t) (mx.map fun x=>x.ev t):=by
 show(q_slL1 sz (x.ev t) (optNN t lo) (optNN t hi) (optNN t mx)).val=(q_slL1 sz (x.ev t) (optNN .e _) (optNN .e _) (optNN .e _)).val
 rw[optNN_map,optNN_map,optNN_map]
def appV(F:RO)(M:Mem)(c ty sz bytes:Nat)(x y:V):RC:=e_app1 F M c ty sz bytes x (splitSrc F M sz y)
theorem x_app_eq(ty sz bytes:Nat)(x y:X)(M:Mem)(c:Nat)(t:T):doE (.app ty sz bytes x y) (K Φ rd fn F) M c t=appV F M c ty sz bytes (x.ev t) (y.ev t):=rfl
theorem flat_bytes(l:List UInt8):(l.map fun x=>[bV x]).flatten=l.map bV:=by
 induction l with
 |nil=>rfl
 |cons a l ih=>rw[List.map_cons,List.flatten_cons,ih];rfl
def bsV(F:RO)(M:Mem)(x:V):Option V:=(qop (.bs (.c x)) F M .e).val
theorem v_bs(x:X)(M:Mem)(t:T):(qop (.bs x) F M t).val=bsV F M (x.ev t):=Eq.trans rfl (Eq.refl _)
theorem bs_of{M:Mem}{c:Nat}{v:V}{l:List UInt8}(h:SlB F M c v l):bsV F M v=some (sV l):=by
 have hl:=lenV_sl h
 obtain⟨r,hr⟩:=readL_of Nat.one_pos h
 rw[List.length_map]at hl hr
 rw[flat_bytes]at hr
 have e:qop (.bs (.c v)) F M .e=q_bs1 F M v (lenV v):=by
  show(match v with| .s _ _=>QR.f|v=>q_bs1 F M v (lenV v))=_;rcases h with⟨_,⟨_,rfl|⟨b,o0,o,rfl⟩⟩|⟨b,o,⟨cap,_,rfl⟩|⟨el,kn,_,rfl⟩,_⟩⟩<;>rfl
 unfold bsV
 rw[e,hl]
 show(match readL F M 1 l.length v with|some (vs,b)=>q_bs2 b (bytesV vs)|none=>QR.f).val=_
 rw[hr]
 show(q_bs2 r (bytesV (l.map bV))).val=_
 rw[bytesV_s]
 show(fN l.length fun n=>fN (strN l) fun s=>match r with|some b=>QR.r (.s n s) b|none=> .v (.s n s)).val=_
 rw[fN_eq,fN_eq]
 cases r<;>rfl
def rowD(d:List V)(ty:Nat)(row:List V):Blk:= .cells ty row.length true 0 false d (rowT row)
def evPs(t:T):List (Nat×X)→List (Nat×List V)
 |[]=>[]
 |(o,x)::r=>(o,flatten (x.ev t))::evPs t r
theorem evPs_nil(t:T):evPs t []=[]:=rfl
theorem evPs_cons(t:T)(o:Nat)(x:X)(r:List (Nat×X)):evPs t ((o,x)::r)=(o,flatten (x.ev t))::evPs t r:=rfl
def partsR(sz:Nat):Nat→List (Nat×List V)→Option (List V)
 |_,[]=>some []
 |o,(k,vs)::r=>if k=o∧vs.length=sz∧allOne vs=true then(partsR sz (o+sz) r).map (vs++ ·)else none
theorem partsR_nil(sz o:Nat):partsR sz o []=some []:=rfl
theorem partsR_cons(sz o k:Nat)(vs:List V)(r:List (Nat×List V)):partsR sz o ((k,vs)::r)=if k=o∧vs.length=sz∧allOne vs=true then(partsR sz (o+sz) r).map (vs++ ·)else none:=rfl
theorem listTr_snoc:∀(a b:List V) (k:Nat) (t:T),listTr b (k+a.length) (listTr a k t)=listTr (a++b) k t
 |[],b,k,t=>rfl
 |x::a,b,k,t=>by
  rw[List.cons_append,listTr_cons,listTr_cons,List.length_cons,show k+(a.length+1)=(k+1)+a.length by omega,listTr_snoc a b]
theorem fillP_of{sz m:Nat}{t:T}:∀{parts:List (Nat×X)} {pre row:List V},partsR sz pre.length (evPs t parts)=some row→pre.length+row.length≤m→fillP sz m t parts (listTr pre 0 .e)=some (listTr (pre++row) 0 .e)
 |[],pre,row,h,hm=>by
  obtain rfl:[]=row:=Option.some.inj h;rw[List.append_nil];rfl
 |(o,x)::r,pre,row,h,hm=>by
  rw[evPs_cons,partsR_cons]at h;split at h
  ·rename_i hc;obtain⟨rfl,h1,h2⟩:=hc;rw[Option.map_eq_some_iff]at h;obtain⟨row',h3,rfl⟩:=h;rw[List.length_append]at hm;show(bif Nat.beq (flatten (x.ev t)).length sz&&Nat.ble (Nat.add pre.length sz) m&&allOne (flatten (x.ev t))then(listTr (flatten (x.ev t)) pre.length (listTr pre 0 .e)).force fun t'=>fillP sz m t r t' else none)=_;rw[beqN,bleN,h2,decide_eq_true h1,decide_eq_true (show Nat.add pre.length sz≤m by show pre.length+sz≤m;omega)];show(listTr (flatten (x.ev t)) pre.length (listTr pre 0 .e)).force (fun t'=>fillP sz m t r t')=_;rw[Tr.force_eq];have hs:=listTr_snoc pre (flatten (x.ev t)) 0 .e;rw[Nat.zero_add]at hs;rw[hs];have:=fillP_of (m:=m) (parts:=r) (pre:=pre++flatten (x.ev t)) (row:=row') (by rw[List.length_append,h1];exact h3) (by rw[List.length_append];omega);rw[this,List.append_assoc]
  ·cases h
theorem partsR_len{sz:Nat}:∀{ps:List (Nat×List V)} {o:Nat} {row:List V},partsR sz o ps=some row→row.length=ps.length*sz∧allOne row=true
 |[],o,row,h=>by
  obtain rfl:[]=row:=Option.some.inj h;simp;rfl
 |(k,vs)::r,o,row,h=>by
  rw[partsR_cons]at h;split at h
  ·rename_i hc;rw[Option.map_eq_some_iff]at h;obtain⟨row',h3,rfl⟩:=h;obtain⟨h4,h5⟩:=partsR_len h3;refine⟨by rw[List.length_append,h4,hc.2.1,List.length_cons,Nat.add_mul];omega,?_⟩;have key:∀(a b:List V),allOne a=true→allOne b=true→allOne (a++b)=true:=by
    intro a
    induction a with
    |nil=>intro b _ h;exact h
    |cons x a ih=>
     intro b ha hb;rw[allOne_cons,Bool.and_eq_true]at ha;rw[List.cons_append,allOne_cons,ha.1,ih b ha.2 hb];rfl
   exact key _ _ hc.2.2 h5
  ·cases h
def bslO(ty n:Nat)(zero:List V)(b:Nat):Option (List V)→Option (V×Blk)
 |some row=>some (.l b 0 n n,rowD zero ty row)
 |none=>none
def bslX(ty n sz:Nat)(zero:List V)(parts:List (Nat×X))(b:Nat)(t:T):Option (V×Blk):=aop (.bsl ty n sz zero parts) b t
theorem evPs_len(t:T):∀ps:List (Nat×X),(evPs t ps).length=ps.length
 |[]=>rfl
 |(o,x)::r=>by rw[evPs_cons,List.length_cons,List.length_cons,evPs_len t r]
theorem a_bsl_eq(ty n sz:Nat)(zero:List V)(parts:List (Nat×X))(b:Nat)(t:T)(hn:parts.length=n){row:List V}(h:partsR sz 0 (evPs t parts)=some row):
 aop (.bsl ty n sz zero parts) b t=some (.l b 0 n n,rowD zero ty row):=by
 subst hn
 have hl:=(partsR_len h).1
 rw[evPs_len]at hl
 have:=fillP_of (m:=parts.length*sz) (pre:=[]) h (by simp[hl])
 rw[List.nil_append]at this
 show(match fillP sz (parts.length*sz) t parts .e with|some c=>fN (parts.length*sz) fun m=>some (V.l b 0 parts.length parts.length,Blk.cells ty m true 0 false zero c)|none=>none)=_
 rw[show fillP sz (parts.length*sz) t parts .e=some (listTr row 0 .e)from this]
 show fN (parts.length*sz) (fun m=>some (V.l b 0 parts.length parts.length,Blk.cells ty m true 0 false zero (listTr row 0 .e)))=_
 rw[fN_eq,←hl];rfl
theorem a_bsl_w(ty n sz:Nat)(zero:List V)(parts:List (Nat×X))(b:Nat)(t:T):aop (.bsl ty n sz zero parts) b t=if parts.length=n∧(partsR sz 0 (evPs t parts)).isSome=true then bslO ty n zero b (partsR sz 0 (evPs t parts))else bslX ty n sz zero parts b t:=by
 split
 ·rename_i h;obtain⟨row,hr⟩:=Option.isSome_iff_exists.1 h.2;rw[hr];exact a_bsl_eq ty n sz zero parts b t h.1 hr
 ·rfl
theorem bslO_some(ty n:Nat)(zero:List V)(b:Nat)(row:List V):bslO ty n zero b (some row)=some (.l b 0 n n,rowD zero ty row):=rfl
end
end
end Go.Proofs.YtffgjigcdmcibaaGreatDoor.Ev
