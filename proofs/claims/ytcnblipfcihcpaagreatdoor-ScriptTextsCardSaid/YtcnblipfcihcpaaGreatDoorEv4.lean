/- What is proved here: pieces of the evaluator's soundness: if the evaluator comes to a value, the model's run comes to it, for every world and tape; no conditions beyond the hypotheses of each theorem. -/
import Derived.Test.YtcnblipfcihcpaaGreatDoorEv3
import GoSem.ClaimChange
set_option linter.unusedSimpArgs false
set_option linter.unusedVariables false
set_option linter.defProp false
set_option maxRecDepth 100000
namespace Go.Proofs.YtcnblipfcihcpaaGreatDoor.Ev
open Go
noncomputable section
variable{Φ:Nat→Option CF}{F:RO}{M M0 M' M1:Mem}{c c0 c' c1 b n sz ty o i:Nat}{v x:V}{l:List UInt8}{es:List (List V)}{vs row:List V}{k:Kn}{t:T}{α:Type}{pend:List (Nat×Nat×bL)}{reads:List (Nat×Nat)}{P:Program}
section
variable{Φ:Nat→Option CF}{rd:Option Nat}{fn:Nat}{F:RO}
def oH(base:Nat)(ops:List (Nat×Nat×CO))(k:Kn)(s:DS)(R:DS→Prop):Prop:=∃s',jD k base ops s=some s'∧R s'
def bm0(d:List Nat)(Q:Ex→St→Prop):DS→Prop
 | .mk t M c pend _=>Q .nrm (.mk t d (dQ pend M) c)
theorem aC6(n:Nat)(ops:List (Nat×Nat×CO))(k:Kn)(t:T)(d:List Nat)(M:Mem)(c:Nat)(Q:Ex→St→Prop):
 Wp (.dreg n ops) k (.mk t d M c) Q=oH c ops k (.mk t M (c+n) [] []) (bm0 d Q):=by
 have he:bh (.dreg n ops) k (.mk t d M c)=vX d (jD k c ops (.mk t M (c+n) [] [])):=by
  show(fN (Nat.add c n) fun c'=>vX d (jD k c ops (.mk t M c' [] [])))=_;rw[b9];rfl
 apply propext;constructor
 ·rintro⟨e,s',h,q⟩;rw[he]at h;cases hs:jD k c ops (.mk t M (c+n) [] [])with
  |none=>rw[hs]at h;cases h
  |some s1=>
   rw[hs]at h;obtain⟨t1,M1,c1,p1,r1⟩:=s1;have h2:((dQ p1 M1).force fun M=>Rs.k .nrm (.mk t1 d M c1))= .k e s':=h;rw[Tr.force_eq]at h2;injection h2 with a1 a2
   subst a1 a2;exact⟨_,hs,q⟩
 ·rintro⟨s1,hs,q⟩;obtain⟨t1,M1,c1,p1,r1⟩:=s1;refine⟨_,_,?_,q⟩;rw[he,hs];show((dQ p1 M1).force fun M=>Rs.k .nrm (.mk t1 d M c1))=_;rw[Tr.force_eq]
theorem Xk(d:List Nat)(Q:Ex→St→Prop)(t:T)(M:Mem)(c:Nat)(pend:List (Nat×Nat×bL))(reads:List (Nat×Nat)):bm0 d Q (.mk t M c pend reads)=Q .nrm (.mk t d (dQ pend M) c):=Eq.trans rfl (Eq.refl _)
theorem mt(M:Mem):dQ [] M=M:=Eq.trans rfl (Eq.refl _)
theorem cc0(base:Nat)(k:Kn)(s:DS)(R:DS→Prop):oH base [] k s R=R s:=by
 apply propext;constructor
 ·rintro⟨s',h,q⟩;cases h;exact q
 ·exact fun q=>⟨_,rfl,q⟩
theorem fZ(base:Nat)(o:Nat×Nat×CO)(r:List (Nat×Nat×CO))(k:Kn)(s:DS)(R:DS→Prop):oH base (o::r) k s R↔ ∃s',ut k base o s=some s'∧oH base r k s' R:=by
 constructor
 ·rintro⟨s',h,q⟩;rw[jD]at h;cases hs:ut k base o s with
  |none=>rw[hs]at h;cases h
  |some s1=>rw[hs]at h;exact⟨s1,rfl,s',h,q⟩
 ·rintro⟨s1,h1,s',h2,q⟩;exact⟨s',by rw[jD,h1];exact h2,q⟩
def oM(o:QO)(F:RO)(M:Mem)(t:T):QR:=EA o F M t (dh o F M t)
def bz8(q:QR)(base i:Nat)(p:aM)(r:List (Nat×Nat×CO))(k:Kn)(t:T)(M:Mem)(c:Nat)(pend:List (Nat×Nat×bL))(reads:List (Nat×Nat))(R:DS→Prop):Prop:=match q with
 | .f=>False
 | .v x=>oH base r k (.mk (t.setP p x) M c pend reads) R
 | .r x b=>oH base r k (.mk (t.setP p x) M c pend ((i,b)::reads)) R
theorem bM7(x:V)(base i:Nat)(p:aM)(r:List (Nat×Nat×CO))(k:Kn)(t:T)(M:Mem)(c:Nat)(pend:List (Nat×Nat×bL))(reads:List (Nat×Nat))(R:DS→Prop):
 bz8 (.v x) base i p r k t M c pend reads R=oH base r k (.mk (t.setP p x) M c pend reads) R:=Eq.trans rfl (Eq.refl _)
theorem bM6(x:V)(b base i:Nat)(p:aM)(r:List (Nat×Nat×CO))(k:Kn)(t:T)(M:Mem)(c:Nat)(pend:List (Nat×Nat×bL))(reads:List (Nat×Nat))(R:DS→Prop):
 bz8 (.r x b) base i p r k t M c pend reads R=oH base r k (.mk (t.setP p x) M c pend ((i,b)::reads)) R:=Eq.trans rfl (Eq.refl _)
theorem dB5(base i mask:Nat)(p:aM)(o:QO)(r:List (Nat×Nat×CO))(t:T)(M:Mem)(c:Nat)(pend:List (Nat×Nat×bL))(reads:List (Nat×Nat))(R:DS→Prop):
 oH base ((i,mask,.mk (some p) (.q o) none)::r) (K Φ rd fn F) (.mk t M c pend reads) R=bz8 (oM o F M t) base i p r (K Φ rd fn F) t M c pend reads R:=by
 have he:ut (K Φ rd fn F) base (i,mask,.mk (some p) (.q o) none) (.mk t M c pend reads)=uu i (some p) t M c pend reads (oM o F M t):=rfl
 apply propext
 rw[fZ,he]
 cases oM o F M t with
 |f=>exact⟨fun⟨s',h,_⟩=>(by cases h),False.elim⟩
 |v x=>
  have:uu i (some p) t M c pend reads (.v x)=some (.mk (t.setP p x) M c pend reads):=by
   show((setT t (some p) x).force fun t=>some (DS.mk t M c pend reads))=_;rw[Tr.force_eq];rfl
  rw[this];constructor
  ·rintro⟨s',h,q⟩;obtain rfl:=ag h;exact q
  ·exact fun q=>⟨_,rfl,q⟩
 |r x b=>
  have:uu i (some p) t M c pend reads (.r x b)=some (.mk (t.setP p x) M c pend ((i,b)::reads)):=by
   show((setT t (some p) x).force fun t=>some (DS.mk t M c pend ((i,b)::reads)))=_;rw[Tr.force_eq];rfl
  rw[this];constructor
  ·rintro⟨s',h,q⟩;obtain rfl:=ag h;exact q
  ·exact fun q=>⟨_,rfl,q⟩
def oV:Option V→QR
 |none=> .f
 |some x=> .v x
theorem av3(x:V):oV (some x)= .v x:=Eq.trans rfl (Eq.refl _)
theorem ij{o:QO}(h:∀F' M',dh o F' M' t=oV (dh o [] .e t).val):oM o F M t=oV (dh o F M t).val:=by
 have h1:=h F M
 have h0:=h [] .e
 unfold oM
 rw[h1]
 cases hv:(dh o [] .e t).val with
 |none=>rfl
 |some x=>
  show dh o [] .e t= .v x;rw[h0,hv];rfl
theorem cS0(k:IntKind)(n:Int):vI k n=oV (vI k n).val:=by rw[fe];rfl
theorem cR9(b:Bool):vB b=oV (vB b).val:=by rw[nu];rfl
theorem cA6(x:X)(M:Mem)(t:T):oM (.mv x) F M t= .v (x.ev t):=Eq.trans rfl (Eq.refl _)
theorem cA2(k:IntKind)(x:X)(M:Mem)(t:T):oM (.ci k x) F M t=oV (match x.ev t with| .i _ n=>some (.i k (k.wrap n))|_=>none):=by
 refine(ij ?_).trans (congrArg oV (cS2 (F:=F) k x M t))
 intro F' M'
 show(wO (x.ev t) QR.f fun _ n=>vI k (wr k n))=oV (wO (x.ev t) QR.f fun _ n=>vI k (wr k n)).val
 cases x.ev t with
 |i k' n=>exact cS0 _ _
 |_=>rfl
theorem nq{q:QR}(h:q= .f∨ ∃x,q= .v x):q=oV q.val:=by
 rcases h with rfl|⟨x,rfl⟩<;>rfl
theorem bE3(op:BinOp)(k:IntKind)(a:Int)(k':IntKind)(b:Int):gd op k a k' b= .f∨ ∃x,gd op k a k' b= .v x:=by
 have hb:∀(c:Bool) (q:QR),(q= .f∨ ∃x,q= .v x)→(Bool.rec (motive:=fun _=>QR) .f q c= .f∨ ∃x,(Bool.rec (motive:=fun _=>QR) .f q c:QR)= .v x):=by
  intro c q h;cases c
  ·exact .inl rfl
  ·exact h
 have vi:∀k n,vI k n= .f∨ ∃x,vI k n= .v x:=fun k n=> .inr ⟨_,fe k n⟩
 have vb:∀b,vB b= .f∨ ∃x,vB b= .v x:=fun b=> .inr ⟨_,nu b⟩
 cases op with
 |add=>exact hb _ _ (vi _ _)
 |sub=>exact hb _ _ (vi _ _)
 |mul=>exact hb _ _ (vi _ _)
 |quo=>
  refine hb _ _ ?_;have e:n8 k a b= .f∨ ∃x,n8 k a b= .v x:=by
   unfold n8;cases Oa b 0
   ·exact vi _ _
   ·exact .inl rfl
  exact e
 |rem=>
  refine hb _ _ ?_;have e:px k a b= .f∨ ∃x,px k a b= .v x:=by
   unfold px;cases Oa b 0
   ·exact vi _ _
   ·exact .inl rfl
  exact e
 |and=>exact hb _ _ (vi _ _)
 |or=>exact hb _ _ (vi _ _)
 |xor=>exact hb _ _ (vi _ _)
 |andNot=>exact hb _ _ (vi _ _)
 |eql=>exact hb _ _ (vb _)
 |neq=>exact hb _ _ (vb _)
 |lss=>exact hb _ _ (vb _)
 |leq=>exact hb _ _ (vb _)
 |gtr=>exact hb _ _ (vb _)
 |geq=>exact hb _ _ (vb _)
 |shl=>
  show az5 k a b= .f∨ ∃x,az5 k a b= .v x;cases b with
  |ofNat n=>exact vi _ _
  |negSucc n=>exact .inl rfl
 |shr=>
  show az6 k a b= .f∨ ∃x,az6 k a b= .v x;cases b with
  |ofNat n=>exact vi _ _
  |negSucc n=>exact .inl rfl
theorem cA1(op:BinOp)(x y:X)(M:Mem)(t:T){k k':IntKind}{a b:Int}(hx:x.ev t= .i k a)(hy:y.ev t= .i k' b):oM (.bi op x y) F M t=oV (bX op (x.ev t) (y.ev t)):=by
 rw[←aB0 (F:=F) op x y M t]
 refine ij ?_
 intro F' M'
 have e:∀F' M',dh (.bi op x y) F' M' t=gd op k a k' b:=by
  intro F' M';show CD op x y F' M' t=_;unfold CD;rw[hx];show(wO (y.ev t) QR.f fun k' b=>gd op k a k' b)=_;rw[hy];rfl
 rw[e,e]
 exact nq (bE3 op k a k' b)
theorem cA4(i:Nat)(x:X)(M:Mem)(t:T):oM (.ex i x) F M t=oV (match x.ev t with| .t cs=>cs[i]?|_=>none):=by
 refine(ij ?_).trans (congrArg oV (cS4 (F:=F) i x M t))
 intro F' M'
 show wZ i x F' M' t=oV (wZ i x [] .e t).val
 unfold wZ
 cases x.ev t with
 |t cs=>
  show qr (yp cs i)=oV (qr (yp cs i)).val;cases yp cs i<;>rfl
 |_=>rfl
theorem bH1(x:X)(M:Mem)(t:T)(hx:x.ev t= .p b o)(h:load1 F M b o=some v):oM (.ld1 x) F M t= .r v b:=by
 have hq:∀F' M',dh (.ld1 x) F' M' t=qrb b (load1 F' M' b o):=by
  intro F' M';show(t8 (x.ev t) QR.f fun b o=>qrb b (load1 F' M' b o))=_;rw[hx];rfl
 unfold oM
 rw[hq,h]
 show Xf (.ld1 x) t b (look F M b)=_
 unfold load1 at h
 cases hl:look F M b with
 |none=>rw[hl]at h;cases h
 |some blk=>
  rw[hl]at h;show CJ b (dh (.ld1 x) [(b,blk)] .e t)=_;rw[hq];have h2:load1 [(b,blk)] .e b o=some v:=by
   unfold load1;have:look [(b,blk)] (.e:Mem) b=some blk:=by
    rw[aQ (show(Tr.e:Mem).get b=none from rfl)];show Bool.rec (motive:=fun _=>Option bL) _ (some blk) (Nat.beq b b)=_;rw[bb,bK];simp
   rw[this];exact h
  rw[h2];rfl
theorem Fr(M:Mem):ce M []=true:=Eq.trans rfl (Eq.refl _)
theorem AG(mask i b:Nat)(r:List (Nat×Nat))(h:testBit mask i=true)(F:RO)(M:Mem)(s:List (Nat×bL)):bO mask ((i,b)::r) F M s=bO mask r F M s:=by
 rw[bO,h];rfl
def Ee(mask:Nat):List (Nat×Nat)→Bool
 |[]=>true
 |(i,_)::r=>(mask/2^i%2==1)&&Ee mask r
theorem WF(mask:Nat):Ee mask []=true:=Eq.trans rfl (Eq.refl _)
theorem yH(mask i b:Nat)(r:List (Nat×Nat)):Ee mask ((i,b)::r)=((mask/2^i%2==1)&&Ee mask r):=Eq.trans rfl (Eq.refl _)
theorem me{mask:Nat}:∀{reads:List (Nat×Nat)},Ee mask reads=true→ ∀F M s,bO mask reads F M s=Pr.mk F M s
 |[],_,F,M,s=>rfl
 |(i,b)::r,h,F,M,s=>by
  rw[yH,aC]at h;rw[AG mask i b r (by show Nat.beq (Nat.mod (Nat.div mask (Nat.pow 2 i)) 2) 1=true;rw[bK];exact af (show mask/2^i%2=1 by simpa using h.1))];exact me h.2 F M s
def Gv(o:RC)(F:RO)(p:Option aM)(base:Nat)(r:List (Nat×Nat×CO))(k:Kn)(t:T)(reads:List (Nat×Nat))(R:DS→Prop):Prop:=match o with
 | .f=>False
 | .k v M c=>ce M F=true∧oH base r k (.mk (setT t p v) M c [] reads) R
theorem bo0(v:V)(M:Mem)(c:Nat)(F:RO)(p:Option aM)(base:Nat)(r:List (Nat×Nat×CO))(k:Kn)(t:T)(reads:List (Nat×Nat))(R:DS→Prop):
 Gv (.k v M c) F p base r k t reads R=(ce M F=true∧oH base r k (.mk (setT t p v) M c [] reads) R):=Eq.trans rfl (Eq.refl _)
theorem jz(base i mask:Nat)(dst:Option aM)(o:EO)(r:List (Nat×Nat×CO))(t:T)(M:Mem)(c:Nat)(reads:List (Nat×Nat))(R:DS→Prop)(hb:Ee mask reads=true):
 oH base ((i,mask,.mk dst (.e o) none)::r) (K Φ rd fn F) (.mk t M c [] reads) R=Gv (iV o (K Φ rd fn F) M c t) F dst base r (K Φ rd fn F) t reads R:=by
 have hp:=me hb
 have he:ut (K Φ rd fn F) base (i,mask,.mk dst (.e o) none) (.mk t M c [] reads)=nD F dst t [] reads [] (iV o (K Φ rd fn F) M c t):=by
  show sO o (K Φ rd fn F) dst t c [] reads (bO mask reads F M [])=_;rw[hp];rfl
 apply propext
 rw[fZ,he]
 cases hd:iV o (K Φ rd fn F) M c t with
 |f=>exact⟨fun⟨s',h,_⟩=>(by cases h),False.elim⟩
 |k v M' c'=>
  have h2:nD F dst t [] reads [] (.k v M' c')=if ce M' F=true then some (DS.mk (setT t dst v) M' c' [] reads)else none:=by
   show(bif ce M' F&&cU F M' []then(bc [] M').force fun M=>(setT t dst v).force fun t=>some (DS.mk t M c' [] reads)else none)=_;cases ce M' F with
   |false=>rfl
   |true=>
    show((bc [] M').force fun M=>(setT t dst v).force fun t=>some (DS.mk t M c' [] reads))=_;rw[Tr.force_eq,Tr.force_eq];rfl
  rw[h2,bo0];constructor
  ·rintro⟨s',h,q⟩;split at h
   ·rename_i hr;obtain rfl:=ag h;exact⟨hr,q⟩
   ·cases h
  ·rintro⟨hr,q⟩;exact⟨_,ae hr,q⟩
theorem fQ(M:Mem)(b:Nat)(x:bL)(F:RO):ce M ((b,x)::F)=((M.get b).isNone&&ce M F):=by
 show(bif (M.get b).isNone then ce M F else false)=_
 cases(M.get b).isNone<;>rfl
theorem az(M:Mem){b':Nat}(x:bL)(h:b'≠b):(M.set b x).get b'=M.get b':=by rw[Tr.get_set,ab h]
theorem Au:(none:Option bL).isNone=true:=Eq.trans rfl (Eq.refl _)
def WG(op:BinOp)(X Y:V)(F:RO)(M:Mem):QR:=oM (.bi op (.c X) (.c Y)) F M .e
theorem bG6(op:BinOp)(x y:X)(M:Mem)(t:T):oM (.bi op x y) F M t=WG op (x.ev t) (y.ev t) F M:=Eq.trans rfl (Eq.refl _)
theorem cw2(op:BinOp)(k k':IntKind)(a b:Int)(M:Mem):WG op (.i k a) (.i k' b) F M=oV (bX op (.i k a) (.i k' b)):=cA1 op _ _ M .e rfl rfl
def ldQ(X:V)(F:RO)(M:Mem):QR:=oM (.ld1 (.c X)) F M .e
def ldR(b:Nat):Option V→QR
 |some v=> .r v b
 |none=> .f
theorem XV(b:Nat)(v:V):ldR b (some v)= .r v b:=Eq.trans rfl (Eq.refl _)
theorem bH0(x:X)(M:Mem)(t:T):oM (.ld1 x) F M t=ldQ (x.ev t) F M:=Eq.trans rfl (Eq.refl _)
theorem cG0(b o:Nat)(M:Mem):ldQ (.p b o) F M=ldR b (load1 F M b o):=by
 cases h:load1 F M b o with
 |some v=>exact bH1 _ M .e rfl h
 |none=>
  show EA (.ld1 (.c (.p b o))) F M .e (qrb b (load1 F M b o))=_;rw[h];rfl
theorem bG8(sz:Nat)(x i:X)(M:Mem)(t:T):oM (.iaS sz x i) F M t=oV ((dh (.iaS sz x i) F M t).val):=by
 refine ij fun F' M'=>?_
 show rT sz x i F' M' t=oV (rT sz x i [] .e t).val
 have key:∀(b o n:Nat) (y:V),td sz b o n y=oV (td sz b o n y).val:=by
  intro b o n y;unfold td;cases y with
  |i k m=>
   show yr sz b o n m=oV (yr sz b o n m).val;cases m with
   |ofNat m=>
    show(Bool.rec (motive:=fun _=>QR) .f (uX b (Nat.add o (Nat.mul m sz))) (Nat.blt m n))=oV (Bool.rec (motive:=fun _=>QR) .f (uX b (Nat.add o (Nat.mul m sz))) (Nat.blt m n):QR).val;cases Nat.blt m n with
    |true=>
     show uX b (Nat.add o (Nat.mul m sz))=oV (uX b (Nat.add o (Nat.mul m sz))).val;unfold uX;rw[b9];rfl
    |false=>rfl
   |negSucc m=>rfl
  |_=>rfl
 unfold rT
 cases x.ev t with
 |l b o n c=>exact key b o n _
 |u b o n e k=>exact key b o n _
 |_=>rfl
def l6(x:V):Option V:=(dh (.ln .slice (.c x)) [] .e .e).val
theorem cG5(M:Mem)(x:V):lnV .slice F M x=l6 x:=Eq.trans rfl (Eq.refl _)
theorem bn6(b o n c:Nat):l6 (.l b o n c)=some (.i .i64 (n:Int)):=Eq.trans rfl (Eq.refl _)
theorem XY(b o n e k:Nat):l6 (.u b o n e k)=some (.i .i64 (n:Int)):=Eq.trans rfl (Eq.refl _)
theorem fO:l6 .l0=some (.i .i64 0):=Eq.trans rfl (Eq.refl _)
theorem XZ(b o n:Nat):l6 (.ue b o n)=some (.i .i64 0):=Eq.trans rfl (Eq.refl _)
def gf(sz:Nat)(x i:V):Option V:=(dh (.iaS sz (.c x) (.c i)) [] .e .e).val
theorem cS8(sz:Nat)(x i:X)(M:Mem)(t:T):(dh (.iaS sz x i) F M t).val=gf sz (x.ev t) (i.ev t):=Eq.trans rfl (Eq.refl _)
theorem jv(sz b o n c i:Nat)(k:IntKind)(h:i<n):gf sz (.l b o n c) (.i k (i:Int))=some (.p b (o+i*sz)):=by
 show(yr sz b o n (Int.ofNat i)).val=_
 show(Bool.rec (motive:=fun _=>QR) .f (uX b (Nat.add o (Nat.mul i sz))) (Nat.blt i n)).val=_
 rw[bb,eT,af h,ae rfl]
 unfold uX;rw[b9];rfl
theorem cD8(sz b o n e kn i:Nat)(k:IntKind)(h:i<n):gf sz (.u b o n e kn) (.i k (i:Int))=some (.p b (o+i*sz)):=by
 show(yr sz b o n (Int.ofNat i)).val=_
 show(Bool.rec (motive:=fun _=>QR) .f (uX b (Nat.add o (Nat.mul i sz))) (Nat.blt i n)).val=_
 rw[bb,eT,af h,ae rfl]
 unfold uX;rw[b9];rfl
end
section
variable{Φ:Nat→Option CF}{rd:Option Nat}{fn:Nat}{F:RO}
def sV(l:List UInt8):V:= .s l.length (cN l)
def bV(c:UInt8):V:= .i .u8 (c.toNat:Int)
theorem Z6:cN []=0:=rfl
theorem p7(c:UInt8)(l:List UInt8):cN (c::l)=c.toNat+256*cN l:=rfl
theorem AW:∀l:List UInt8,cN l<256^l.length
 |[]=>by decide
 |c::l=>by
  have:=AW l;have hc:=UInt8.toNat_lt c;rw[p7,aP,Nat.pow_succ];omega
theorem ub(a b:List UInt8):cN (a++b)=cN a+256^a.length*cN b:=by
 induction a with
 |nil=>simp[Z6]
 |cons c a ih=>
  rw[List.cons_append,p7,p7,ih,aP,Nat.pow_succ,Nat.mul_add,←Nat.mul_assoc,Nat.mul_comm 256 (256^a.length)];omega
theorem aA3(l:List UInt8)(n x:Nat)(h:bl n x=l):x%256^n=cN l:=by
 have hn:l.length=n:=by rw[←h];exact lD n x
 have e:bl n x=bl n (cN l):=by rw[h];have:=mP l;rw[hn]at this;exact this.symm
 have:=WO n x (cN l) e
 rw[this]
 exact Nat.mod_eq_of_lt (by have:=AW l;rwa [hn]at this)
theorem zC(l:List UInt8)(n:Nat)(h:n≤l.length):cN (l.take n)=cN l%256^n:=by
 symm
 refine aA3 _ n _ ?_
 rw[←Aa n l.length (cN l) h,mP]
theorem zA(l:List UInt8)(n:Nat)(h:n≤l.length):cN (l.drop n)=cN l/256^n:=by
 have e:=ub (l.take n) (l.drop n)
 rw[List.take_append_drop,zC l n h,List.length_take,Nat.min_eq_left h]at e
 have h0:0<256^n:=Nat.pow_pos (by decide)
 rw[e,Nat.add_mul_div_left _ _ h0,Nat.div_eq_of_lt (Nat.mod_lt _ h0),Nat.zero_add]
theorem sg(l:List UInt8)(i:Nat)(h:i<l.length):cN l/256^i%256=(l[i]).toNat:=by
 rw[←zA l i (by omega),qY h,p7]
 have:=UInt8.toNat_lt l[i]
 omega
theorem dj6(l:List UInt8)(M:Mem):lnV .str F M (sV l)=some (.i .i64 (l.length:Int)):=rfl
theorem XQ(l:List UInt8)(k:IntKind)(i:Nat)(h:i<l.length):Av (sV l) (.i k (i:Int))=some (bV l[i]):=by
 show(od l.length (cN l) i).val=_
 show(Bool.rec (motive:=fun _=>QR) QR.f (fN (Nat.mod (Nat.div (cN l) (jn i)) 256) fun c=>QR.v (.i .u8 (.ofNat c))) (Nat.blt i l.length)).val=_
 rw[bb,eT,ae (by simpa using h),b9]
 show some (V.i .u8 (((cN l/256^i%256:Nat)):Int))=_
 rw[sg l i h];rfl
theorem AV(a b:List UInt8):pK a.length (cN a) b.length (cN b)=decide (a=b):=by
 rw[oZ,mP,mP]
theorem vJ(a b:List UInt8):bX .eql (sV a) (sV b)=some (.b (decide (a=b))):=by
 show(vB (pK a.length (cN a) b.length (cN b))).val=_
 rw[AV]
 cases decide (a=b)<;>rfl
theorem vK(a b:List UInt8):bX .neq (sV a) (sV b)=some (.b (!decide (a=b))):=by
 show(vB (!pK a.length (cN a) b.length (cN b))).val=_
 rw[AV]
 cases decide (a=b)<;>rfl
theorem Jo(lit:Bool)(M:Mem)(a b:List UInt8):Jn F M .str lit (sV a) (sV b)=some (decide (a=b)):=by
 show some (pK a.length (cN a) b.length (cN b))=_
 rw[AV]
theorem aq9(lit:Bool)(M:Mem)(a b:List UInt8):yR F M .str lit (sV a) (sV b)=some (decide (a=b)):=Jo (F:=F) lit M a b
theorem cL(a b:List UInt8)(h:a.length+b.length≤1099511627776):bX .add (sV a) (sV b)=some (sV (a++b)):=by
 show(mO a.length (cN a) b.length (cN b)).val=_
 have e:mO a.length (cN a) b.length (cN b)=QR.v (sV (a++b)):=by
  unfold mO;rw[cE,show decide (Nat.add a.length b.length≤1099511627776)=true from af h,cond_true];show(fN (a.length+b.length) fun n=>fN (cN a%256^a.length+256^a.length*cN b) fun x=>QR.v (.s n x))=_;rw[b9,b9,Nat.mod_eq_of_lt (AW a),←ub,←aG];rfl
 rw[e];rfl
def D1(x:V)(lo hi:Option V):Option V:=(dh (.slS (.c x) (lo.map .c) (hi.map .c)) [] .e .e).val
theorem oa(tm:T)(d:Nat)(o:Option X):optN .e d ((o.map fun x=>x.ev tm).map .c)=optN tm d o:=by cases o<;>rfl
theorem bq7(x:X)(lo hi:Option X)(M:Mem)(t:T):(dh (.slS x lo hi) F M t).val=D1 (x.ev t) (lo.map fun x=>x.ev t) (hi.map fun x=>x.ev t):=by
 show(xf x lo hi F M t).val=(xf (.c (x.ev t)) _ _ [] .e .e).val
 unfold xf
 rw[oa]
 show _=(tY (x.ev t) .f fun n s=>kg n s (optN t 0 lo) (optN .e n ((hi.map fun x=>x.ev t).map .c))).val
 congr 2
 funext n s
 rw[oa]
theorem bO4(l:List UInt8)(i j:Nat)(hi:i≤j)(hj:j≤l.length):(kg l.length (cN l) (some i) (some j)).val=some (sV ((l.take j).drop i)):=by
 have e:kg l.length (cN l) (some i) (some j)=QR.v (sV ((l.take j).drop i)):=by
  show(Bool.rec (motive:=fun _=>QR) .f (Bool.rec (motive:=fun _=>QR) .f (vS (j-i) (cN l/256^i%256^(j-i))) (Nat.ble j l.length)) (Nat.ble i j))=_;rw[bb,bb,cE,cE,ae (by simpa using hi),ae (by simpa using hj)];show(fN (j-i) fun n=>fN (cN l/256^i%256^(j-i)) fun x=>QR.v (.s n x))=_;rw[b9,b9];have e1:(l.take j).drop i=(l.drop i).take (j-i):=by rw[List.drop_take]
  rw[e1];unfold sV;rw[zC _ _ (by simp;omega),zA _ _ (by omega),List.length_take,eL,Nat.min_eq_left (by omega)]
 rw[e];rfl
theorem Z0(l:List UInt8)(k:IntKind)(i:Nat)(hi:i≤l.length):D1 (sV l) (some (.i k (i:Int))) none=some (sV (l.drop i)):=by
 have:=bO4 l i l.length hi (by omega)
 rw[List.take_length]at this
 exact this
theorem bo6(l:List UInt8)(k:IntKind)(j:Nat)(hj:j≤l.length):D1 (sV l) none (some (.i k (j:Int)))=some (sV (l.take j)):=by
 have:=bO4 l 0 j (by omega) hj
 rw[List.drop_zero]at this
 exact this
theorem cN7(l:List UInt8)(k k':IntKind)(i j:Nat)(hi:i≤j)(hj:j≤l.length):D1 (sV l) (some (.i k (i:Int))) (some (.i k' (j:Int)))=some (sV ((l.take j).drop i)):=bO4 l i j hi hj
theorem tK:∀l:List UInt8,cC l.length (cN l)=l.map bV
 |[]=>rfl
 |c::l=>by
  have hc:=UInt8.toNat_lt c;show(fN ((c.toNat+256*cN l)%256) fun d=>V.i .u8 (.ofNat d)::cC l.length ((c.toNat+256*cN l)/256))=_;rw[b9,show(c.toNat+256*cN l)%256=c.toNat by omega,show(c.toNat+256*cN l)/256=cN l by omega,tK l];rfl
theorem rj:∀l:List UInt8,ff (l.map bV)=some (l.length,cN l)
 |[]=>rfl
 |c::l=>by
  have hc:=UInt8.toNat_lt c;rw[List.map_cons];show(match ff (l.map bV)with|some (n,x)=>some (Nat.succ n,Nat.add (Nat.mod c.toNat 256) (Nat.mul 256 x))|none=>none)=_;rw[rj l];show some (l.length+1,c.toNat%256+256*cN l)=_;rw[Nat.mod_eq_of_lt (by omega)];rfl
theorem jB:∀l:List UInt8,bj (l.map bV)=true
 |[]=>rfl
 |c::l=>by rw[List.map_cons,d8,jB l];rfl
end
section
variable{Φ:Nat→Option CF}{rd:Option Nat}{fn:Nat}{F:RO}
def tF(o:RC)(P:V→Mem→Nat→Prop):Prop:=∃v M' c',o= .k v M' c'∧P v M' c'
theorem tF.mono{o:RC}{P P':V→Mem→Nat→Prop}(h:tF o P)(hp:∀v M' c',P v M' c'→P' v M' c'):tF o P':=by
 obtain⟨v,M',c',e,h⟩:=h
 exact⟨v,M',c',e,hp v M' c' h⟩
abbrev Calls(Φ:Nat→Option CF)(F:RO)(f:Nat)(args:List V)(M:Mem)(c:Nat)(P:V→Mem→Nat→Prop):Prop:=tF (eX (lU Φ) F f args M c (Φ f)) P
theorem ax{f:Nat}{res:List RV}{body:CC}{args:List V}{P:V→Mem→Nat→Prop}(hf:Φ f=some (.mk n res body))
 (h:Wp body (K Φ none f F) (.mk (aU n args) [] M c) (dA F res P)):Calls Φ F f args M c P:=yI hf h
theorem aw{o:RC}{p:aM}{r:List CO}{d:List Nat}{R:St→Prop}(h:tF o fun v M' c'=>pp r k (.mk (t.setP p v) d M' c') R):bz9 o p r k t d R:=by
 obtain⟨v,M',c',e,h⟩:=h
 rw[e];exact h
theorem iq{o:RC}{p:Option aM}{base:Nat}{r:List (Nat×Nat×CO)}{R:DS→Prop}
 (h:tF o fun v M' c'=>ce M' F=true∧oH base r k (.mk (setT t p v) M' c' [] reads) R):Gv o F p base r k t reads R:=by
 obtain⟨v,M',c',e,h⟩:=h
 rw[e];exact h
structure cO(F:RO)(M:Mem)(c:Nat):Prop where
 hiM:∀b,c≤b→M.get b=none
 hiF:∀b,c≤b→be F b=none
 ap:∀b,(be F b).isSome→M.get b=none
 ge:1000≤c
structure Gr(c:Nat)(M:Mem)(c':Nat)(M':Mem):Prop where
 le:c≤c'
 old:∀b,b<c→M'.get b=M.get b
 new:∀b,c'≤b→M'.get b=none
theorem oX(M:Mem):∀F:RO,(∀b,(be F b).isSome→M.get b=none)→ce M F=true
 |[],_=>rfl
 |(b,x)::F,h=>by
  rw[fQ,h b (by
   show(Bool.rec (motive:=fun _=>Option bL) (be F b) (some x) (Nat.beq b b)).isSome=true;rw[Nat.beq_refl];rfl)]
  rw[oX M F fun b' hb'=>h b' (by
   show(Bool.rec (motive:=fun _=>Option bL) (be F b') (some x) (Nat.beq b b')).isSome=true;cases Nat.beq b b' with
   |true=>rfl
   |false=>exact hb')]
  rfl
theorem cO.free(h:cO F M c):ce M F=true:=oX M F h.ap
theorem cO.look{M:Mem}{c:Nat}(h:cO F M c){b:Nat}(hb:c≤b):look F M b=none:=by
 rw[aQ (h.hiM b hb),h.hiF b hb]
theorem Gr.refl(h:cO F M c):Gr c M c M:=⟨ak _,fun _ _=>rfl,h.hiM⟩
theorem Gr.trans{M2:Mem}{c2:Nat}(h:Gr c M c1 M1)(h2:Gr c1 M1 c2 M2):Gr c M c2 M2:=
 ⟨bF h.le h2.le,fun b hb=>(h2.old b (Nat.lt_of_lt_of_le hb h.le)).trans (h.old b hb),h2.new⟩
theorem Gr.ok(h:Gr c M c1 M1)(ho:cO F M c):cO F M1 c1:=by
 refine⟨h.new,fun b hb=>ho.hiF b (bF h.le hb),fun b hb=>?_,bF ho.ge h.le⟩
 have:b<c:=by
  by_cases hc:b<c
  ·exact hc
  ·rw[ho.hiF b (by omega)]at hb;cases hb
 rw[h.old b this];exact ho.ap b hb
theorem Gr.set{c2:Nat}(h:Gr c M c1 M1)(b:Nat)(x:bL)(h1:c≤b)(h2:b<c2)(h3:c1≤c2):Gr c M c2 (M1.set b x):=by
 refine⟨bF h.le h3,fun b' hb'=>?_,fun b' hb'=>?_⟩
 ·rw[az _ _ (by omega)];exact h.old b' hb'
 ·rw[az _ _ (by omega)];exact h.new b' (by omega)
theorem Gr.del(h:Gr c M c1 M1)(b:Nat)(h1:c≤b):Gr c M c1 (M1.del b):=by
 refine⟨h.le,fun b' hb'=>?_,fun b' hb'=>?_⟩
 ·rw[Tr.get_del,ab (by omega)];exact h.old b' hb'
 ·rw[Tr.get_del];split
  ·rfl
  ·exact h.new b' hb'
theorem Gr.up{c2:Nat}(h:Gr c M c1 M1)(h3:c1≤c2):Gr c M c2 M1:=
 ⟨bF h.le h3,h.old,fun b hb=>h.new b (by omega)⟩
theorem Gr.look{M M1:Mem}{c c1:Nat}(h:Gr c M c1 M1){b:Nat}(hb:b<c):look F M1 b=look F M b:=ey (h.old b hb)
theorem Gr.load1{M M1:Mem}{c c1:Nat}(h:Gr c M c1 M1){b:Nat}(hb:b<c)(o:Nat):load1 F M1 b o=load1 F M b o:=by
 unfold Ev.load1;rw[h.look hb]
theorem Gr.loadN{M M1:Mem}{c c1:Nat}(h:Gr c M c1 M1){b:Nat}(hb:b<c)(o n:Nat):loadN F M1 b o n=loadN F M b o n:=by
 unfold Ev.loadN;rw[h.look hb]
theorem rS{α:Type}(v:α):∀(t:Tr α) (k:Nat),t.get k=some v→t.put (some v) k=t
 | .e,k,h=>by cases h
 | .n l x r,k,h=>by
   rw[Tr.put_n];rw[Tr.get_n]at h;by_cases h0:k=0
   ·rw[ae h0]at h⊢;rw[h]
   ·rw[ab h0]at h⊢;by_cases h2:k%2=0
    ·rw[ae h2]at h⊢;rw[rS v r _ h]
    ·rw[ab h2]at h⊢;rw[rS v l _ h]
theorem ot{x:bL}(h:M.get b=some x):M=M.set b x:=(rS x M b h).symm
def jp(F:RO)(M:Mem)(b:Nat)(row:List V):Prop:=∃ty ex fz str d c,look F M b=some (.cells ty row.length ex fz str d c)∧ ∀i,i<row.length→cell row.length d c i=row[i]?
theorem jp.load1{M:Mem}{b:Nat}{row:List V}(h:jp F M b row)(o:Nat):load1 F M b o=row[o]?:=by
 obtain⟨ty,ex,fz,str,d,c,hl,hc⟩:=h
 unfold Ev.load1
 rw[hl]
 show cell row.length d c o=_
 by_cases ho:o<row.length
 ·exact hc o ho
 ·rw[cM,ab ho,List.getElem?_eq_none (by omega)]
theorem vT{d:List V}{c:T}{row:List V}(hc:∀i,i<row.length→cell row.length d c i=row[i]?):∀(n i:Nat),i+n≤row.length→fx row.length d c n i=some ((row.drop i).take n)
 |0,i,h=>by rw[rn];simp
 |n+1,i,h=>by
  rw[jC,hc i (by omega),List.getElem?_eq_getElem (by omega)];show(match fx row.length d c n (i+1)with|none=>none|some r=>some (row[i]::r))=_;rw[vT hc n (i+1) (by omega)];simp only;rw[←List.getElem_cons_drop (by omega:i<row.length),List.take_succ_cons]
theorem jp.loadN{M:Mem}{b:Nat}{row:List V}(h:jp F M b row)(o n:Nat)(hn:o+n≤row.length):loadN F M b o n=some ((row.drop o).take n):=by
 obtain⟨ty,ex,fz,str,d,c,hl,hc⟩:=h
 unfold Ev.loadN
 rw[hl]
 exact vT hc n o hn
theorem jp.grow(h:jp F M b row)(hg:Gr c M c' M')(hb:b<c):jp F M' b row:=by
 obtain⟨ty,ex,fz,str,d,cs,hl,hc⟩:=h
 exact⟨ty,ex,fz,str,d,cs,by rw[hg.look hb];exact hl,hc⟩
theorem jp.ne{b':Nat}{x:bL}(h:jp F M b row)(hb:b≠b'):jp F (M.set b' x) b row:=by
 obtain⟨ty,ex,fz,str,d,cs,hl,hc⟩:=h
 exact⟨ty,ex,fz,str,d,cs,by rw[o5 M x hb];exact hl,hc⟩
theorem u7{fz:Nat}{ex str:Bool}(h:M.get b=some (.cells ty row.length ex fz str [] (jo row))):jp F M b row:=
 ⟨ty,ex,fz,str,[],jo row,ay h,fun i hi=>vR row i⟩
def cK(F:RO)(M:Mem)(b o:Nat)(row:List V):Prop:=∀k,k<row.length→load1 F M b (o+k)=row[k]?
theorem jp.cells(h:jp F M b row):cK F M b 0 row:=fun k _=>by rw[Nat.zero_add];exact h.load1 k
theorem cK.grow(h:cK F M b o row)(hg:Gr c M c' M')(hb:b<c):cK F M' b o row:=fun k hk=>by rw[hg.load1 hb];exact h k hk
theorem cK.of_get(h:cK F M b o row)(hg:M'.get b=M.get b):cK F M' b o row:=fun k hk=>by
 unfold Ev.load1;rw[ey hg];exact h k hk
theorem cK.sub(h:cK F M b o row)(i n:Nat)(hn:i+n≤row.length):cK F M b (o+i) ((row.drop i).take n):=fun k hk=>by
 simp only[List.length_take,eL]at hk
 rw[Nat.add_assoc,h (i+k) (by omega),List.getElem?_take,ae (by omega),List.getElem?_drop]
theorem F4(h:Ev.load1 F M b o=some v):∃ty n ex fz str d c,look F M b=some (.cells ty n ex fz str d c)∧cell n d c o=some v:=by
 unfold Ev.load1 at h
 cases hl:look F M b with
 |none=>rw[hl]at h;cases h
 |some x=>
  rw[hl]at h;cases x with
  |cells ty n ex fz str d c=>exact⟨ty,n,ex,fz,str,d,c,rfl,h⟩
  |_=>cases h
theorem cK.load(h:cK F M b o row)(hr:row≠[]):loadN F M b o row.length=some row:=by
 cases row with
 |nil=>exact absurd rfl hr
 |cons v r=>
  have h0:=h 0 (by simp);simp only[cT,List.getElem?_cons_zero]at h0;obtain⟨ty,n,ex,fz,str,d,c,hl,_⟩:=F4 h0;have key:∀(l:List V) (o:Nat),(∀k,k<l.length→Ev.load1 F M b (o+k)=l[k]?)→fx n d c l.length o=some l:=by
   intro l
   induction l with
   |nil=>intro o _;rfl
   |cons x l ih=>
    intro o hx;have e0:=hx 0 (by simp);simp only[cT,List.getElem?_cons_zero]at e0;unfold Ev.load1 at e0;rw[hl]at e0;have e0':cell n d c o=some x:=e0;rw[aP,jC,e0'];show(match fx n d c l.length (o+1)with|none=>none|some r=>some (x::r))=_
    rw[ih (o+1) fun k hk=>by
     have:=hx (k+1) (by simpa using hk);rw[List.getElem?_cons_succ]at this;rw[←this];congr 1;omega]
  unfold Ev.loadN;rw[hl];exact key (v::r) o h
theorem cK.loadN{M:Mem}{b o:Nat}{row:List V}(h:cK F M b o row)(i n:Nat)(hn:i+n≤row.length)(h0:0<n):loadN F M b (o+i) n=some ((row.drop i).take n):=by
 have hs:=h.sub i n hn
 have hl:((row.drop i).take n).length=n:=by simp;omega
 have:=hs.load (by intro e;rw[e]at hl;simp at hl;omega)
 rwa [hl]at this
theorem gk:∀{es:List (List V)} {sz:Nat},(∀e∈es,e.length=sz)→es.flatten.length=es.length*sz
 |[],sz,_=>by simp
 |e::es,sz,h=>by
  rw[List.flatten_cons,aG,gk fun x hx=>h x (bN _ hx),h e (ck ..),aP,Nat.add_mul];omega
theorem Ch:∀{es:List (List V)} {sz:Nat},(∀e∈es,e.length=sz)→ ∀(i:Nat) (h:i<es.length),(es.flatten.drop (i*sz)).take sz=es[i]
 |[],sz,_,i,h=>by cases h
 |e::es,sz,h,0,_=>by
  rw[List.flatten_cons,Nat.zero_mul,List.drop_zero,List.take_append_of_le_length (by rw[h e (ck ..)];exact ak _),List.getElem_cons_zero,←h e (ck ..),List.take_length]
 |e::es,sz,h,i+1,hi=>by
  have he:=h e (ck ..);rw[List.flatten_cons,List.getElem_cons_succ,Nat.add_mul,Nat.one_mul,Nat.add_comm,List.drop_append,he,List.drop_eq_nil_of_le (by omega),List.nil_append,Nat.add_sub_cancel_left];exact Ch (fun x hx=>h x (bN _ hx)) i (by simpa using hi)
def bG(F:RO)(M:Mem)(c sz:Nat)(v:V)(es:List (List V)):Prop:=
 (∀e∈es,e.length=sz)∧((es=[]∧(v= .l0∨ ∃b o0 o,v= .ue b o0 o))∨
  ∃b o,((∃cap,es.length≤cap∧v= .l b o es.length cap)∨(∃el kn,el+es.length≤kn∧v= .u b o es.length el kn))∧b<c∧cK F M b o es.flatten)
theorem bG.len(h:bG F M c sz v es):l6 v=some (.i .i64 (es.length:Int)):=by
 rcases h with⟨_,⟨rfl,h|⟨b,o0,o,h⟩⟩|⟨b,o,⟨cap,_,h⟩|⟨el,kn,_,h⟩,_⟩⟩
 ·rw[h];exact fO
 ·rw[h];exact XZ _ _ _
 ·rw[h];exact bn6 _ _ _ _
 ·rw[h];exact XY _ _ _ _ _
theorem bG.grow(h:bG F M c sz v es)(hg:Gr c M c' M'):bG F M' c' sz v es:=by
 rcases h with⟨h0,h|⟨b,o,hv,hb,hr⟩⟩
 ·exact⟨h0,.inl h⟩
 ·exact⟨h0,.inr ⟨b,o,hv,Nat.lt_of_lt_of_le hb hg.le,hr.grow hg hb⟩⟩
theorem bG.at{M:Mem}{c sz:Nat}{v:V}{es:List (List V)}(h:bG F M c sz v es)(i:Nat)(hi:i<es.length):
 ∃b o,b<c∧(∀k,gf sz v (.i k (i:Int))=some (.p b o))∧cK F M b o es[i]:=by
 rcases h with⟨h0,⟨rfl,_⟩|⟨b,o,hv,hb,hr⟩⟩
 ·cases hi
 ·have hle:i*sz+sz≤es.flatten.length:=by
   have:(i+1)*sz≤es.length*sz:=Nat.mul_le_mul_right _ hi;rw[Nat.add_mul,Nat.one_mul]at this;rw[gk h0];exact this
  refine⟨b,o+i*sz,hb,fun k=>?_,?_⟩
  ·rcases hv with⟨cap,_,rfl⟩|⟨el,kn,_,rfl⟩
   ·exact jv _ _ _ _ _ _ _ hi
   ·exact cD8 _ _ _ _ _ _ _ _ hi
  ·have:=hr.sub (i*sz) sz hle
   rwa [Ch h0 i hi]at this
theorem bG.one(h:bG F M c 1 v es)(i:Nat)(hi:i<es.length)(hx:es[i]=[x]):
 ∃b o,b<c∧(∀k,gf 1 v (.i k (i:Int))=some (.p b o))∧load1 F M b o=some x:=by
 obtain⟨b,o,h1,h2,h3⟩:=h.at i hi
 refine⟨b,o,h1,h2,?_⟩
 have:=h3 0 (by rw[hx];simp)
 rw[cT,hx]at this
 exact this
theorem cO.set(h:cO F M c)(b:Nat)(x:bL)(h1:c≤b)(h2:b<c'):cO F (M.set b x) c':=by
 refine⟨fun b' hb'=>?_,fun b' hb'=>h.hiF b' (by omega),fun b' hb'=>?_,by have:=h.ge;omega⟩
 ·rw[az _ _ (by omega)];exact h.hiM b' (by omega)
 ·have:b'≠b:=by
   intro e;subst e;rw[h.hiF b' h1]at hb';cases hb'
  rw[az _ _ this];exact h.ap b' hb'
theorem cO.free_set(h:cO F M c)(x:bL):ce (M.set c x) F=true:=(h.set c x (ak _) (aD _)).free
abbrev fC(F:RO)(M:Mem)(c:Nat)(v:V)(l:List UInt8):Prop:=bG F M c 1 v (l.map fun x=>[bV x])
theorem fC.get(h:fC F M c v l)(i:Nat)(hi:i<l.length):
 ∃b o,b<c∧(∀k,gf 1 v (.i k (i:Int))=some (.p b o))∧load1 F M b o=some (.i .u8 (l[i].toNat:Int)):=
 bG.one h i (by simpa using hi) (by simp[bV])
theorem fC.len(h:fC F M c v l):l6 v=some (.i .i64 (l.length:Int)):=by
 have:=bG.len h
 rwa [List.length_map]at this
theorem am(M:Mem)(b:Nat)(x:bL):(M.set b x).get b=some x:=by rw[Tr.get_set,ae rfl]
end
section
variable{Φ:Nat→Option CF}{rd:Option Nat}{fn:Nat}{F:RO}
theorem JM(h:bG F M c sz v es):qx v=some es.length:=by
 rcases h with⟨_,⟨rfl,rfl|⟨b,o0,o,rfl⟩⟩|⟨b,o,⟨cap,_,rfl⟩|⟨el,kn,_,rfl⟩,_⟩⟩<;>rfl
theorem lQ(hsz:0<sz)(h0:∀e∈es,e.length=sz)(h:cK F M b o es.flatten):∃r,readB F M sz es.length b o=some (es.flatten,r):=by
 unfold readB
 rw[bK]
 cases es with
 |nil=>exact⟨none,rfl⟩
 |cons e es=>
  have hl:=gk h0;have hne:(e::es).flatten≠[]:=by
   intro h;rw[h]at hl;simp only[bo,aP,Nat.add_mul]at hl;omega
  have:=h.load hne;rw[hl]at this;rw[ah (by simp),cond_false];show∃r,(match loadN F M b o ((e::es).length*sz)with|some vs=>some (vs,some b)|none=>none)=_;rw[this];exact⟨some b,rfl⟩
theorem CK(hsz:0<sz)(h:bG F M c sz v es):∃r,readL F M sz es.length v=some (es.flatten,r):=by
 rcases h with⟨h0,⟨rfl,rfl|⟨b,o0,o,rfl⟩⟩|⟨b,o,⟨cap,_,rfl⟩|⟨el,kn,_,rfl⟩,_,hc⟩⟩
 ·exact⟨none,rfl⟩
 ·exact⟨none,rfl⟩
 ·exact lQ hsz h0 hc
 ·exact lQ hsz h0 hc
theorem ov(hsz:0<sz)(h:bG F M c sz v es):gu F M sz v=some (es.length,es.flatten):=by
 have hl:=JM h
 obtain⟨r,hr⟩:=CK hsz h
 have hs:∀n x,v≠ .s n x:=by
  intro n x e;rcases h with⟨_,⟨rfl,h|⟨b,o0,o,h⟩⟩|⟨b,o,⟨cap,_,h⟩|⟨el,kn,_,h⟩,_⟩⟩<;>(rw[e]at h;cases h)
 have e:gu F M sz v=match qx v with|some n=>az9 n (readL F M sz n v)|none=>none:=by
  cases v<;>first|rfl|exact absurd rfl (hs _ _)
 rw[e,hl]
 show az9 es.length (readL F M sz es.length v)=_
 rw[hr];rfl
theorem AU(l:List UInt8):gu F M 1 (sV l)=some (l.length,l.map bV):=by
 show(bif Nat.beq 1 1 then some (l.length,cC l.length (cN l))else none)=_
 rw[tK];rfl
def qF(ty:Nat)(row:List V):bL:= .cells ty row.length false 0 false [] (jo row)
def cA(M:Mem)(c0 c b ty sz:Nat)(v:V)(es:List (List V)):Prop:=
 (∀e∈es,e.length=sz)∧((es=[]∧v= .l0)∨(c0≤b∧b<c∧v= .u b 0 es.length 0 es.length∧M.get b=some (qF ty es.flatten)))
theorem cA.nil:cA M c0 c b ty sz .l0 []:=⟨fun e he=>(by cases he),.inl ⟨rfl,rfl⟩⟩
theorem AR(h:M.get b=some (qF ty row)):jp F M b row:=u7 h
theorem cA.sl(h:cA M c0 c b ty sz v es):bG F M c sz v es:=by
 rcases h with⟨h0,⟨rfl,rfl⟩|⟨h1,h2,rfl,h3⟩⟩
 ·exact⟨h0,.inl ⟨rfl,.inl rfl⟩⟩
 ·exact⟨h0,.inr ⟨b,0,.inr ⟨0,es.length,by omega,rfl⟩,h2,(AR h3).cells⟩⟩
theorem cA.up(h:cA M c0 c b ty sz v es)(hc:c≤c')(hb:b<c→M'.get b=M.get b):cA M' c0 c' b ty sz v es:=by
 rcases h with⟨h0,h|⟨h1,h2,rfl,h3⟩⟩
 ·exact⟨h0,.inl h⟩
 ·exact⟨h0,.inr ⟨h1,by omega,rfl,by rw[hb h2];exact h3⟩⟩
theorem cA.gr(h:cA M c0 c b ty sz v es)(hg:Gr c M c' M'):cA M' c0 c' b ty sz v es:=h.up hg.le fun hb=>hg.old b hb
theorem db{bytes:Nat}(h:(3*n+2000)*bytes≤281474976710656)(h1:n≤1099511627776):jJ n bytes=true:=by
 unfold jJ
 rw[cE,cE]
 have a:decide (Nat.mul (Nat.add (Nat.mul 3 n) 2000) bytes≤281474976710656)=true:=af h
 rw[a,af h1];rfl
theorem nX(M:Mem)(c ty bytes len:Nat)(vs:List V)(h:jJ len bytes=true):ju M c ty bytes len 0 false vs= .k (.u c 0 len 0 len) (M.set c (qF ty vs)) (c+1):=by
 unfold ju
 rw[h]
 show(M.set c (.cells ty vs.length false 0 false [] (bz vs 0 .e))).force (fun M=>fN (Nat.succ c) fun c'=>fN len fun len=>RC.k (.u c 0 len 0 len) M c')=_
 rw[Tr.force_eq,b9,b9];rfl
theorem pC:∀(a b:List V) (k:Nat) (t:T),bz (a++b) k t=bz b (k+a.length) (bz a k t)
 |[],b,k,t=>by rw[wD];rfl
 |v::a,b,k,t=>by rw[List.cons_append,d9,d9,pC a b,aP,show k+1+a.length=k+(a.length+1) by omega]
theorem yV(M:Mem)(c ty bytes len:Nat)(old new:List V)(h:jJ len bytes=true):nW M c ty bytes len 0 false new old.length [] (bz old 0 .e)= .k (.u c 0 len 0 len) (M.set c (qF ty (old++new))) (c+1):=by
 unfold nW
 rw[h]
 show((bz new old.length (bz old 0 .e)).force fun cs=>fN (Nat.add old.length new.length) fun m=>(M.set c (.cells ty m false 0 false [] cs)).force fun M=>fN (Nat.succ c) fun c'=>fN len fun len=>RC.k (.u c 0 len 0 len) M c')=_
 rw[Tr.force_eq,b9,Tr.force_eq,b9,b9]
 unfold qF jo
 rw[aG,pC,Nat.zero_add];rfl
theorem GE{bytes:Nat}{new:List V}(h:n≠0):app F M c ty sz bytes .l0 n new=ju M c ty bytes n 0 false new:=by
 unfold app
 rw[bK,ah h,cond_false]
theorem DO{bytes len el kn:Nat}{new:List V}(h:n≠0):app F M c ty sz bytes (.u b o len el kn) n new=pv F M c ty sz bytes b o len el kn n new:=by
 unfold app
 rw[bK,ah h,cond_false]
theorem P0{bytes:Nat}{ns:List (List V)}(h:cA M c0 c b ty sz v es)(hg:Gr c0 M0 c M)(hsz:0<sz)(hn:∀e∈ns,e.length=sz)(h1:bj ns.flatten=true)(hr:jJ (es.length+ns.length) bytes=true):
 tF (mm F M c ty sz bytes v (some (ns.length,ns.flatten))) fun v' M' c'=>∃b',cA M' c0 c' b' ty sz v' (es++ns)∧Gr c0 M0 c' M'∧c≤c'∧(∀x,x<c→x≠b→M'.get x=M.get x)∧(b'=b∨c≤b'):=by
 have hnl:=gk hn
 have e1:mm F M c ty sz bytes v (some (ns.length,ns.flatten))=app F M c ty sz bytes v ns.length ns.flatten:=by
  show(bif bj ns.flatten&&Nat.beq ns.flatten.length (Nat.mul ns.length sz)then _ else _)=_;rw[h1,bK,af (show ns.flatten.length=Nat.mul ns.length sz from hnl)];rfl
 rw[e1]
 have hall:∀e∈es++ns,e.length=sz:=by
  intro e he;rcases List.mem_append.1 he with he|he
  ·exact h.1 e he
  ·exact hn e he
 by_cases hz:ns=[]
 ·subst hz;have e2:app F M c ty sz bytes v 0 []= .k v M c:=by
   show(bif Nat.beq 0 0 then(bif zd v then RC.k v M c else .f)else _)=_;have:zd v=true:=by
    rcases h with⟨_,⟨_,rfl⟩|⟨_,_,rfl,_⟩⟩
    ·rfl
    ·show Nat.ble es.length (Nat.sub es.length 0)=true;rw[cE];exact af (ak _)
   rw[this];rfl
  exact⟨v,M,c,e2,b,by rw[cu];exact h,hg,ak _,fun _ _ _=>rfl,.inl rfl⟩
 ·have hn0:ns.length≠0:=fun e=>hz (List.length_eq_zero_iff.1 e);rcases h with⟨h0,⟨rfl,rfl⟩|⟨ha,hb,rfl,hM⟩⟩
  ·rw[bo,Nat.zero_add]at hr;refine⟨_,_,_,(GE hn0).trans (nX M c ty bytes ns.length ns.flatten hr),c,⟨hall,.inr ⟨hg.le,by omega,rfl,?_⟩⟩,hg.set c _ hg.le (by omega) (by omega),by omega,fun x hx _=>az _ _ (by omega),.inr (ak _)⟩;rw[Tr.get_set,ae rfl];rfl
  ·have hel:=gk h0;obtain⟨r,hrd⟩:=lQ hsz h0 (AR (F:=F) hM).cells;have hmw:il M b ty (Nat.add 0 (Nat.mul es.length sz)) (Nat.add 0 (Nat.mul (Nat.sub es.length 0) sz))=some (0,false):=by
    unfold il;rw[hM];show(bif Nat.beq ty ty&&Nat.beq es.flatten.length (0+(es.length-0)*sz)&&Nat.ble 0 (0+es.length*sz)&&Nat.ble (0+es.length*sz) (0+(es.length-0)*sz)then some (0,false)else none)=_;rw[bK,bK,cE,cE,af (show ty=ty from rfl),af (show es.flatten.length=0+(es.length-0)*sz by rw[hel];simp),af (aE _),af (show 0+es.length*sz≤0+(es.length-0)*sz by simp)];rfl
   have e3:pv F M c ty sz bytes b 0 es.length 0 es.length ns.length ns.flatten= .k (.u c 0 (es.length+ns.length) 0 (es.length+ns.length)) ((M.del b).set c (qF ty (es.flatten++ns.flatten))) (c+1):=by
    unfold pv;rw[cE,ah (show¬Nat.add (Nat.add 0 es.length) ns.length≤es.length by show¬0+es.length+ns.length≤es.length;omega),cond_false,hmw];show(bif Nat.beq 0 0&&Nat.beq (es.length-0) es.length then EP (M.del b) c ty bytes (es.length+ns.length) 0 false ns.flatten (M.get b)else _)=_;rw[bK,bK,af rfl,af (Nat.sub_zero _),Bool.true_and,cond_true,hM];exact yV _ c ty bytes _ es.flatten ns.flatten hr
   refine⟨_,_,_,(DO hn0).trans e3,c,⟨hall,.inr ⟨by omega,by omega,by rw[aG],?_⟩⟩,(hg.del b ha).set c _ (by omega) (by omega) (by omega),by omega,fun x hx hxb=>?_,.inr (ak _)⟩
   ·rw[Tr.get_set,ae rfl,List.flatten_append]
   ·rw[az _ _ (by omega),Tr.get_del,ab hxb]
def D0(sz:Nat)(x:V)(lo hi mx:Option V):Option V:=(dh (.slL sz (.c x) (lo.map .c) (hi.map .c) (mx.map .c)) [] .e .e).val
theorem t9(tm:T)(o:Option X):optNN .e ((o.map fun x=>x.ev tm).map .c)=optNN tm o:=by cases o<;>rfl
theorem bq6(sz:Nat)(x:X)(lo hi mx:Option X)(M:Mem)(t:T):(dh (.slL sz x lo hi mx) F M t).val=D0 sz (x.ev t) (lo.map fun x=>x.ev t) (hi.map fun x=>x.ev t) (mx.map fun x=>x.ev t):=by
 show(tf sz (x.ev t) (optNN t lo) (optNN t hi) (optNN t mx)).val=(tf sz (x.ev t) (optNN .e _) (optNN .e _) (optNN .e _)).val
 rw[t9,t9,t9]
theorem F7(b o n c:Nat):mkL b o n c= .v (.l b o n c):=by unfold mkL;rw[b9,b9,b9]
theorem AA(b o n el kn:Nat):mkU b o n el kn= .v (.u b o n el kn):=by unfold mkU;rw[b9,b9,b9]
theorem Xz{lo hi:Nat}(h0:∀e∈es,e.length=sz)(h1:lo≤hi)(h2:hi≤es.length):((es.take hi).drop lo).flatten=(es.flatten.drop (lo*sz)).take ((hi-lo)*sz):=by
 have key:∀(es:List (List V)) (k:Nat),(∀e∈es,e.length=sz)→(es.take k).flatten=es.flatten.take (k*sz)∧(es.drop k).flatten=es.flatten.drop (k*sz):=by
  intro es
  induction es with
  |nil=>intro k _;simp
  |cons e es ih=>
   intro k h;cases k with
   |zero=>simp
   |succ k=>
    obtain⟨a,b⟩:=ih k fun x hx=>h x (bN _ hx);have he:=h e (ck ..);constructor
    ·rw[List.take_succ_cons,List.flatten_cons,List.flatten_cons,a,show(k+1)*sz=e.length+k*sz by rw[Nat.add_mul,he];omega,List.take_length_add_append]
    ·rw[List.drop_succ_cons,List.flatten_cons,b,show(k+1)*sz=e.length+k*sz by rw[Nat.add_mul,he];omega,List.drop_length_add_append]
 have ht:∀e∈es.take hi,e.length=sz:=fun e he=>h0 e (List.mem_of_mem_take he)
 rw[(key (es.take hi) lo ht).2,(key es hi h0).1,List.drop_take,Nat.sub_mul]
theorem YY{lo hi:Nat}(h:bG F M c sz v es)(h1:lo≤hi)(h2:hi≤es.length):
 ∃v',(uK sz v (some lo) (some hi) none= .v v'∧(lo=0→uK sz v none (some hi) none= .v v')∧(hi=es.length→uK sz v (some lo) none none= .v v')∧(lo=0→hi=es.length→uK sz v none none none= .v v'))∧bG F M c sz v' ((es.take hi).drop lo):=by
 have hs:∀e∈(es.take hi).drop lo,e.length=sz:=fun e he=>h.1 e (List.mem_of_mem_take (List.mem_of_mem_drop he))
 have hl:((es.take hi).drop lo).length=hi-lo:=by simp;omega
 rcases h with⟨h0,⟨rfl,rfl|⟨b,o0,o,rfl⟩⟩|⟨b,o,hv,hb,hc⟩⟩
 ·obtain rfl:hi=0:=by simpa using h2
  obtain rfl:lo=0:=by omega
  exact⟨.l0,⟨rfl,fun _=>rfl,fun _=>rfl,fun _ _=>rfl⟩,hs,.inl ⟨rfl,.inl rfl⟩⟩
 ·obtain rfl:hi=0:=by simpa using h2
  obtain rfl:lo=0:=by omega
  exact⟨.ue b o0 o,⟨rfl,fun _=>rfl,fun _=>rfl,fun _ _=>rfl⟩,hs,.inl ⟨rfl,.inr ⟨b,o0,o,rfl⟩⟩⟩
 ·have hfl:=gk h0;have hcs:cK F M b (o+lo*sz) ((es.take hi).drop lo).flatten:=by
   rw[Xz h0 h1 h2];refine hc.sub _ _ ?_;rw[hfl,←Nat.add_mul];exact Nat.mul_le_mul_right _ (by omega)
  rcases hv with⟨cap,hcap,rfl⟩|⟨el,kn,hkn,rfl⟩
  ·have e:ua sz b o cap lo hi cap= .v (.l b (if cap=lo then o else o+lo*sz) (hi-lo) (cap-lo)):=by
    unfold ua;rw[cE,cE,cE,bK,af (ak cap),af (show hi≤cap by omega),af h1];show mkL b (bif decide (cap=lo)then o else o+lo*sz) (hi-lo) (cap-lo)=_;rw[F7];by_cases hh:cap=lo
    ·rw[af hh,ae hh];rfl
    ·rw[ah hh,ab hh];rfl
   refine⟨_,⟨e,fun hh=>?_,fun hh=>?_,fun hh hh2=>?_⟩,hs,.inr ⟨b,if cap=lo then o else o+lo*sz,.inl ⟨cap-lo,by rw[hl];omega,by rw[hl]⟩,hb,?_⟩⟩
   ·subst hh;exact e
   ·subst hh;exact e
   ·subst hh hh2;exact e
   ·by_cases hh:cap=lo
    ·rw[ae hh];have:(es.take hi).drop lo=[]:=List.eq_nil_of_length_eq_zero (by omega);rw[this];intro k hk;simp at hk
    ·rw[ab hh];exact hcs
  ·by_cases hz:lo=0
   ·subst hz;have e:pJ sz b o el kn 0 hi= .v (.u b o hi el kn):=by
     unfold pJ;rw[cE,cE,af (show Nat.add el hi≤kn by show el+hi≤kn;omega),af (aE hi)];exact AA _ _ _ _ _
    refine⟨_,⟨e,fun _=>e,fun hh=>?_,fun _ hh=>?_⟩,hs,.inr ⟨b,o,.inr ⟨el,kn,by rw[hl];omega,by rw[hl];rfl⟩,hb,by simpa using hcs⟩⟩
    ·subst hh;exact e
    ·subst hh;exact e
   ·by_cases hh:el+lo<kn
    ·have e:pJ sz b o el kn lo hi= .v (.u b (o+lo*sz) (hi-lo) (el+lo) kn):=by
      unfold pJ;rw[cE,cE,bK,eT,af (show Nat.add el hi≤kn by show el+hi≤kn;omega),af h1,ah hz,af (show Nat.add el lo<kn from hh)];exact AA _ _ _ _ _
     refine⟨_,⟨e,fun h=>absurd h hz,fun hh=>?_,fun h _=>absurd h hz⟩,hs,.inr ⟨b,o+lo*sz,.inr ⟨el+lo,kn,by rw[hl];omega,by rw[hl]⟩,hb,hcs⟩⟩;subst hh;exact e
    ·have e:pJ sz b o el kn lo hi= .v (.ue b o (o+lo*sz)):=by
      unfold pJ;rw[cE,cE,bK,eT,af (show Nat.add el hi≤kn by show el+hi≤kn;omega),af h1,ah hz,ah (show¬Nat.add el lo<kn from hh)];show fN (o+lo*sz) (fun o'=>QR.v (.ue b o o'))=_;rw[b9]
     have hnil:(es.take hi).drop lo=[]:=List.eq_nil_of_length_eq_zero (by omega);refine⟨_,⟨e,fun h=>absurd h hz,fun hh=>?_,fun h _=>absurd h hz⟩,hs,.inl ⟨hnil,.inr ⟨b,o,_,rfl⟩⟩⟩;subst hh;exact e
theorem Kv{lo hi:Nat}(h:bG F M c sz v es)(h1:lo≤hi)(h2:hi≤es.length):
 ∃v',(∀k k',D0 sz v (some (.i k (lo:Int))) (some (.i k' (hi:Int))) none=some v')∧(lo=0→ ∀k',D0 sz v none (some (.i k' (hi:Int))) none=some v')∧(hi=es.length→ ∀k,D0 sz v (some (.i k (lo:Int))) none none=some v')∧(lo=0→hi=es.length→D0 sz v none none none=some v')∧bG F M c sz v' ((es.take hi).drop lo):=by
 obtain⟨v',⟨e1,e2,e3,e4⟩,hs⟩:=YY h h1 h2
 refine⟨v',fun k k'=>?_,fun h0 k'=>?_,fun h0 k=>?_,fun h0 h0'=>?_,hs⟩
 ·show(uK sz v (some lo) (some hi) none).val=_;rw[e1];rfl
 ·show(uK sz v none (some hi) none).val=_;rw[e2 h0];rfl
 ·show(uK sz v (some lo) none none).val=_;rw[e3 h0];rfl
 ·show(uK sz v none none none).val=_;rw[e4 h0 h0'];rfl
def kZ(F:RO)(M:Mem)(c ty sz bytes:Nat)(x y:V):RC:=mm F M c ty sz bytes x (gu F M sz y)
theorem aa7(ty sz bytes:Nat)(x y:X)(M:Mem)(c:Nat)(t:T):iV (.app ty sz bytes x y) (K Φ rd fn F) M c t=kZ F M c ty sz bytes (x.ev t) (y.ev t):=rfl
theorem eH{bytes:Nat}{y:V}{ns:List (List V)}(h:cA M c0 c b ty sz v es)(hg:Gr c0 M0 c M)(hsz:0<sz)(hy:bG F M c sz y ns)(h1:bj ns.flatten=true)(hr:jJ (es.length+ns.length) bytes=true):
 tF (kZ F M c ty sz bytes v y) fun v' M' c'=>∃b',cA M' c0 c' b' ty sz v' (es++ns)∧Gr c0 M0 c' M'∧c≤c'∧(∀x,x<c→x≠b→M'.get x=M.get x)∧(b'=b∨c≤b'):=by
 unfold kZ
 rw[ov hsz hy]
 exact P0 h hg hsz hy.1 h1 hr
theorem gK(l:List UInt8):(l.map fun x=>[bV x]).flatten=l.map bV:=by
 induction l with
 |nil=>rfl
 |cons a l ih=>rw[List.map_cons,List.flatten_cons,ih];rfl
theorem ly(l:List UInt8):bj (l.map fun x=>[bV x]).flatten=true:=by rw[gK];exact jB l
theorem BU{bytes:Nat}(h:cA M c0 c b ty 1 v es)(hg:Gr c0 M0 c M)(hr:jJ (es.length+l.length) bytes=true):
 tF (kZ F M c ty 1 bytes v (sV l)) fun v' M' c'=>∃b',cA M' c0 c' b' ty 1 v' (es++l.map fun x=>[bV x])∧Gr c0 M0 c' M'∧c≤c'∧(∀x,x<c→x≠b→M'.get x=M.get x)∧(b'=b∨c≤b'):=by
 unfold kZ
 rw[AU]
 have:=P0 (F:=F) (bytes:=bytes) (ns:=l.map fun x=>[bV x]) h hg Nat.one_pos (by intro e he;obtain⟨x,_,rfl⟩:=List.mem_map.1 he;rfl)
  (ly l) (by rw[List.length_map];exact hr)
 rw[List.length_map,gK]at this
 exact this
def bsV(F:RO)(M:Mem)(x:V):Option V:=(dh (.bs (.c x)) F M .e).val
theorem dy6(x:X)(M:Mem)(t:T):(dh (.bs x) F M t).val=bsV F M (x.ev t):=Eq.trans rfl (Eq.refl _)
theorem ri(h:fC F M c v l):bsV F M v=some (sV l):=by
 have hl:=JM h
 obtain⟨r,hr⟩:=CK Nat.one_pos h
 rw[List.length_map]at hl hr
 rw[gK]at hr
 have e:dh (.bs (.c v)) F M .e=K4 F M v (qx v):=by
  show(match v with| .s _ _=>QR.f|v=>K4 F M v (qx v))=_;rcases h with⟨_,⟨_,rfl|⟨b,o0,o,rfl⟩⟩|⟨b,o,⟨cap,_,rfl⟩|⟨el,kn,_,rfl⟩,_⟩⟩<;>rfl
 unfold bsV
 rw[e,hl]
 show(match readL F M 1 l.length v with|some (vs,b)=>wX b (ff vs)|none=>QR.f).val=_
 rw[hr]
 show(wX r (ff (l.map bV))).val=_
 rw[rj]
 show(fN l.length fun n=>fN (cN l) fun s=>match r with|some b=>QR.r (.s n s) b|none=> .v (.s n s)).val=_
 rw[b9,b9]
 cases r<;>rfl
def cQ(d:List V)(ty:Nat)(row:List V):bL:= .cells ty row.length true 0 false d (jo row)
theorem LQ(d l:List V)(i:Nat)(h:i<l.length):cell l.length d (jo l) i=l[i]?:=by
 rw[cM,ae h]
 unfold jo
 rw[dH,ae (by omega)]
 simp only[Nat.sub_zero]
 rw[List.getElem?_eq_getElem h]
theorem Ko{d:List V}(h:M.get b=some (cQ d ty row)):jp F M b row:=
 ⟨ty,true,0,false,d,jo row,ay h,fun i hi=>LQ d row i hi⟩
theorem qS{d:List V}(h:M.get b=some (cQ d ty es.flatten))(hb:b<c)(h0:∀e∈es,e.length=sz)(hn:es.length=n):bG F M c sz (.l b 0 n n) es:=by
 subst hn
 exact⟨h0,.inr ⟨b,0,.inl ⟨_,ak _,rfl⟩,hb,(Ko h).cells⟩⟩
def Ai(t:T):List (Nat×X)→List (Nat×List V)
 |[]=>[]
 |(o,x)::r=>(o,flatten (x.ev t))::Ai t r
theorem Xv(t:T):Ai t []=[]:=rfl
theorem sS(t:T)(o:Nat)(x:X)(r:List (Nat×X)):Ai t ((o,x)::r)=(o,flatten (x.ev t))::Ai t r:=rfl
def mC(sz:Nat):Nat→List (Nat×List V)→Option (List V)
 |_,[]=>some []
 |o,(k,vs)::r=>if k=o∧vs.length=sz∧bj vs=true then(mC sz (o+sz) r).map (vs++ ·)else none
theorem Fd(sz o:Nat):mC sz o []=some []:=rfl
theorem oc(sz o k:Nat)(vs:List V)(r:List (Nat×List V)):mC sz o ((k,vs)::r)=if k=o∧vs.length=sz∧bj vs=true then(mC sz (o+sz) r).map (vs++ ·)else none:=rfl
theorem o4:∀(a b:List V) (k:Nat) (t:T),bz b (k+a.length) (bz a k t)=bz (a++b) k t
 |[],b,k,t=>rfl
 |x::a,b,k,t=>by
  rw[List.cons_append,d9,d9,aP,show k+(a.length+1)=(k+1)+a.length by omega,o4 a b]
theorem Cg{sz m:Nat}{t:T}:∀{parts:List (Nat×X)} {pre row:List V},mC sz pre.length (Ai t parts)=some row→pre.length+row.length≤m→fillP sz m t parts (bz pre 0 .e)=some (bz (pre++row) 0 .e)
 |[],pre,row,h,hm=>by
  obtain rfl:[]=row:=ag h;rw[cu];rfl
 |(o,x)::r,pre,row,h,hm=>by
  rw[sS,oc]at h;split at h
  ·rename_i hc;obtain⟨rfl,h1,h2⟩:=hc;rw[aX]at h;obtain⟨row',h3,rfl⟩:=h;rw[aG]at hm;show(bif Nat.beq (flatten (x.ev t)).length sz&&Nat.ble (Nat.add pre.length sz) m&&bj (flatten (x.ev t))then(bz (flatten (x.ev t)) pre.length (bz pre 0 .e)).force fun t'=>fillP sz m t r t' else none)=_;rw[bK,cE,h2,af h1,af (show Nat.add pre.length sz≤m by show pre.length+sz≤m;omega)];show(bz (flatten (x.ev t)) pre.length (bz pre 0 .e)).force (fun t'=>fillP sz m t r t')=_;rw[Tr.force_eq];have hs:=o4 pre (flatten (x.ev t)) 0 .e;rw[Nat.zero_add]at hs;rw[hs];have:=Cg (m:=m) (parts:=r) (pre:=pre++flatten (x.ev t)) (row:=row') (by rw[aG,h1];exact h3) (by rw[aG];omega);rw[this,cB]
  ·cases h
theorem wR{sz:Nat}:∀{ps:List (Nat×List V)} {o:Nat} {row:List V},mC sz o ps=some row→row.length=ps.length*sz∧bj row=true
 |[],o,row,h=>by
  obtain rfl:[]=row:=ag h;simp;rfl
 |(k,vs)::r,o,row,h=>by
  rw[oc]at h;split at h
  ·rename_i hc;rw[aX]at h;obtain⟨row',h3,rfl⟩:=h;obtain⟨h4,h5⟩:=wR h3;refine⟨by rw[aG,h4,hc.2.1,aP,Nat.add_mul];omega,?_⟩;have key:∀(a b:List V),bj a=true→bj b=true→bj (a++b)=true:=by
    intro a
    induction a with
    |nil=>intro b _ h;exact h
    |cons x a ih=>
     intro b ha hb;rw[d8,aC]at ha;rw[List.cons_append,d8,ha.1,ih b ha.2 hb];rfl
   exact key _ _ hc.2.2 h5
  ·cases h
def cw4(ty n:Nat)(zero:List V)(b:Nat):Option (List V)→Option (V×bL)
 |some row=>some (.l b 0 n n,cQ zero ty row)
 |none=>none
def df7(ty n sz:Nat)(zero:List V)(parts:List (Nat×X))(b:Nat)(t:T):Option (V×bL):=lz (.bsl ty n sz zero parts) b t
theorem Ce(t:T):∀ps:List (Nat×X),(Ai t ps).length=ps.length
 |[]=>rfl
 |(o,x)::r=>by rw[sS,aP,aP,Ce t r]
theorem OU(ty n sz:Nat)(zero:List V)(parts:List (Nat×X))(b:Nat)(t:T)(hn:parts.length=n)(h:mC sz 0 (Ai t parts)=some row):
 lz (.bsl ty n sz zero parts) b t=some (.l b 0 n n,cQ zero ty row):=by
 subst hn
 have hl:=(wR h).1
 rw[Ce]at hl
 have:=Cg (m:=parts.length*sz) (pre:=[]) h (by simp[hl])
 rw[List.nil_append]at this
 show(match fillP sz (parts.length*sz) t parts .e with|some c=>fN (parts.length*sz) fun m=>some (V.l b 0 parts.length parts.length,bL.cells ty m true 0 false zero c)|none=>none)=_
 rw[show fillP sz (parts.length*sz) t parts .e=some (bz row 0 .e)from this]
 show fN (parts.length*sz) (fun m=>some (V.l b 0 parts.length parts.length,bL.cells ty m true 0 false zero (bz row 0 .e)))=_
 rw[b9,←hl];rfl
theorem af5(ty n sz:Nat)(zero:List V)(parts:List (Nat×X))(b:Nat)(t:T):lz (.bsl ty n sz zero parts) b t=if parts.length=n∧(mC sz 0 (Ai t parts)).isSome=true then cw4 ty n zero b (mC sz 0 (Ai t parts))else df7 ty n sz zero parts b t:=by
 split
 ·rename_i h;obtain⟨row,hr⟩:=bM.1 h.2;rw[hr];exact OU ty n sz zero parts b t h.1 hr
 ·rfl
theorem LG(ty n:Nat)(zero:List V)(b:Nat)(row:List V):cw4 ty n zero b (some row)=some (.l b 0 n n,cQ zero ty row):=rfl
end
def uL(C:Nat):Value→Option V
 | .bool x=>some (.b x)
 | .int k n=>some (.i k n)
 | .string s=>some (sV s.data.toList)
 | .pointer none=>some .p0
 | .slice none 0 0=>some .l0
 | .slice (some a) n c=>if a.spot=none∧a.block<C then some (.l a.block a.off n c)else if n=0∧c=0∧BP a<C then some (.ue (BP a) 1 0)else none
 | .iface t (.pointer (some ⟨r,o,none⟩))=>if r<C then some (.a t (.p r o))else none
 |_=>none
theorem ap6(E:dj)(s:ByteArray):conc E (sV s.data.toList)= .string s:=by
 show Value.string (ba s.data.toList.length (cN s.data.toList))=_
 unfold ba
 rw[mP]
theorem xO{C:Nat}{x:Value}(h:uL C x=some v):conc E0 v=x∧bd (· <C) v:=by
 unfold uL at h
 split at h
 ·obtain rfl:=ag h;exact⟨rfl,trivial⟩
 ·obtain rfl:=ag h;exact⟨rfl,trivial⟩
 ·obtain rfl:=ag h;exact⟨ap6 _ _,trivial⟩
 ·obtain rfl:=ag h;exact⟨rfl,trivial⟩
 ·obtain rfl:=ag h;exact⟨rfl,trivial⟩
 ·rename_i a n c;split at h
  ·rename_i hr;obtain⟨b,o,sp⟩:=a;obtain⟨h1,hr⟩:=hr;have h1:sp=none:=h1;subst h1;obtain rfl:=ag h;refine⟨?_,hr⟩;show Value.slice (some ⟨b,0+o,none⟩) n c=_;rw[Nat.zero_add]
  ·split at h
   ·rename_i hr;obtain⟨rfl,rfl,hr⟩:=hr;obtain rfl:=ag h;refine⟨?_,hr⟩;show Value.slice (some (if(0:Nat)=0 then(if(0:Nat)<1 then adD (BP a)else _)else _)) 0 0=_;rw[ae rfl,ae (by decide),ck5]
   ·cases h
 ·rename_i t r o;split at h
  ·rename_i hr;obtain rfl:=ag h;refine⟨?_,hr⟩;show Value.iface t (.pointer (some ⟨r,0+o,none⟩))=_;rw[Nat.zero_add]
  ·cases h
 ·cases h
def kf:List (Option V)→Nat→T→T
 |[],_,t=>t
 |none::r,k,t=>kf r (k+1) t
 |some v::r,k,t=>kf r (k+1) (t.set k v)
theorem tb:∀(l:List (Option V)) (k:Nat) (t:T) (j:Nat),(kf l k t).get j=if k≤j∧j<k+l.length then(match l[j-k]? with|some (some v)=>some v|_=>t.get j)else t.get j
 |[],k,t,j=>by
  rw[ab (by simp;try omega)];rfl
 |none::r,k,t,j=>by
  show(kf r (k+1) t).get j=_;rw[tb r (k+1) t j];simp only[aP];by_cases h0:j=k
  ·subst h0;rw[ab (by omega),ae (by omega)];simp
  ·by_cases h1:k≤j∧j<k+(r.length+1)
   ·rw[ae (by omega),ae h1,show j-k=(j-(k+1))+1 by omega,List.getElem?_cons_succ]
   ·rw[ab (by omega),ab h1]
 |some v::r,k,t,j=>by
  show(kf r (k+1) (t.set k v)).get j=_;rw[tb r (k+1) (t.set k v) j,Tr.get_set];simp only[aP];by_cases h0:j=k
  ·subst h0;rw[ab (by omega),ae rfl,ae (by omega)];simp
  ·rw[ab h0];by_cases h1:k≤j∧j<k+(r.length+1)
   ·rw[ae (by omega),ae h1,show j-k=(j-(k+1))+1 by omega,List.getElem?_cons_succ]
   ·rw[ab (by omega),ab h1]
def tJ(C:Nat):Obj→Option bL
 | .cells arr ty _=>some (.cells ty arr.size false arr.size true [] (kf (arr.toList.map (uL C)) 0 .e))
 |_=>none
def pB(C:Nat):List Obj→Nat→RO
 |[],_=>[]
 |o::r,k=>match tJ C o with
  |some x=>(k,x)::pB C r (k+1)
  |none=>pB C r (k+1)
theorem yW(C:Nat):∀(l:List Obj) (k j:Nat),be (pB C l k) j=if k≤j then(l[j-k]?).bind (tJ C)else none
 |[],k,j=>by
  show none=_;split<;>simp
 |o::r,k,j=>by
  have ih:=yW C r (k+1) j;unfold pB;by_cases h0:j=k
  ·subst h0;rw[ab (by omega)]at ih;rw[ae (ak _),Nat.sub_self,List.getElem?_cons_zero];show _=tJ C o;cases hb:tJ C o with
   |none=>exact ih
   |some x=>
    show be ((j,x)::pB C r (j+1)) j=some x;rw[dq,ae rfl]
  ·have e:be (match tJ C o with|some x=>(k,x)::pB C r (k+1)|none=>pB C r (k+1)) j=be (pB C r (k+1)) j:=by
    cases tJ C o with
    |none=>rfl
    |some x=>
     show be ((k,x)::pB C r (k+1)) j=_;rw[dq,ab (fun e=>h0 e.symm)]
   rw[e,ih];by_cases h1:k≤j
   ·rw[ae (by omega),ae h1,show j-k=(j-(k+1))+1 by omega,List.getElem?_cons_succ]
   ·rw[ab (by omega),ab h1]
def dV(W:World)(C:Nat):RO:=pB C W.heap.toList 0
theorem jO(W:World)(C j:Nat):be (dV W C) j=(W.heap[j]?).bind (tJ C):=by
 unfold dV
 rw[yW,ae (aE _),Nat.sub_zero,Array.getElem?_toList]
theorem jP{C ty:Nat}{arr:Array Value}{k:Nat}:cell arr.size [] (kf (arr.toList.map (uL C)) 0 .e) k=some v↔ ∃x,arr[k]?=some x∧uL C x=some v:=by
 rw[cM]
 by_cases h:k<arr.size
 ·rw[ae h,tb,ae (by simpa using h)];simp only[Nat.sub_zero,List.getElem?_map,Array.getElem?_toList,Array.getElem?_eq_getElem h,Option.map_some];show(match (match some (uL C arr[k])with|some (some v)=>some v|_=>(Tr.e:T).get k)with|some v=>some v|none=>([]:List V)[k%([]:List V).length]?)=some v↔_;constructor
  ·intro hv;refine⟨arr[k],rfl,?_⟩;cases hx:uL C arr[k]with
   |none=>rw[hx]at hv;simp[Tr.get_e]at hv
   |some y=>rw[hx]at hv;simpa using hv
  ·rintro⟨x,hx,hv⟩;obtain rfl:=ag hx;rw[hv]
 ·rw[ab h];constructor
  ·intro hh;cases hh
  ·rintro⟨x,hx,_⟩;rw[Array.getElem?_eq_none (by omega)]at hx;cases hx
theorem XF{W:World}{C:Nat}(hC:W.heap.size≤C):ku P E0 (dV W C) .e (· <C) W:=by
 refine⟨?_,fun b b' _ _ e=>e,fun b _=>rfl⟩
 intro b blk hb
 rw[aQ (show(Tr.e:Mem).get b=none from rfl),jO]at hb
 cases ho:W.heap[b]? with
 |none=>rw[ho]at hb;cases hb
 |some o=>
  rw[ho]at hb;have hb':tJ C o=some blk:=hb;have hlt:b<C:=Nat.lt_of_lt_of_le (Array.getElem?_eq_some_iff.1 ho).1 hC;cases o with
  |cells arr ty fr=>
   obtain rfl:=ag hb';refine⟨hlt,?_,_,ho,arr,fr,rfl,?_,?_,?_,?_⟩
   ·intro k v hk;obtain⟨x,_,hv⟩:=(jP (ty:=ty)).1 hk;exact(xO hv).2
   ·intro k v hk;obtain⟨x,hx,hv⟩:=(jP (ty:=ty)).1 hk;show arr[0+k]?=_;rw[Nat.zero_add,hx,(xO hv).1]
   ·show arr.size=0+arr.size+0*_;simp
   ·intro o h1 h2;have h1':0+arr.size≤o:=h1;omega
   ·intro h;cases h
  |_=>cases hb'
theorem Mu{W:World}{C r:Nat}{x:Value}(h:W.cell? ⟨r,o,none⟩=some x)(hv:uL C x=some v):load1 (dV W C) .e r o=some v:=by
 unfold World.cell? at h
 split at h
 ·rename_i cs ty fr hh;have h':cs[o]?=some x:=h;unfold Ev.load1;rw[aQ (show(Tr.e:Mem).get r=none from rfl),jO];have hh':W.heap[r]?=some (.cells cs ty fr):=hh;rw[hh'];exact(jP (ty:=ty)).2 ⟨x,h',hv⟩
 ·cases h
theorem yX{W:World}{C:Nat}:∀{L:List uN},(∀t∈L,t.1<1000∧yF W t)→bn (dV W C) L=true
 |[],_=>rfl
 |t::r,h=>by
  show(Nat.blt t.1 1000&&(kj (dV W C) t&&bn (dV W C) r))=true;rw[yX fun t ht=>h t (bN _ ht),eT,af (h t (ck ..)).1];obtain⟨_,ty,fr,hh⟩:=h t (ck ..);have hi:kj (dV W C) t=true:=by
   unfold kj;rw[jO,hh];show(Nat.beq (t.2.2.map fun z=>Value.int t.2.1 z).toArray.size (t.2.2.map fun z=>Value.int t.2.1 z).toArray.size&&ki _ [] _ t.2.1 t.2.2 0)=true;rw[Nat.beq_refl,Bool.true_and]
   have key:∀(zs:List Int) (i:Nat),i+zs.length=t.2.2.length→(∀j,zs[j]?=t.2.2[i+j]?)→
    ki (t.2.2.map fun z=>Value.int t.2.1 z).toArray.size [] (kf ((t.2.2.map fun z=>Value.int t.2.1 z).toArray.toList.map (uL C)) 0 .e) t.2.1 zs i=true:=by
    intro zs
    induction zs with
    |nil=>
     intro i hi _;show Nat.beq i _=true;simp only[bo]at hi;rw[bK];simp;omega
    |cons z zs ih=>
     intro i hi hz;have h0:=hz 0;simp only[List.getElem?_cons_zero,cT]at h0
     have hc:cell (t.2.2.map fun z=>Value.int t.2.1 z).toArray.size [] (kf ((t.2.2.map fun z=>Value.int t.2.1 z).toArray.toList.map (uL C)) 0 .e) i=some (.i t.2.1 z):=
      (jP (ty:=ty)).2 ⟨.int t.2.1 z,by simp[←h0],rfl⟩
     unfold ki;rw[hc];show(FC t.2.1 z (.i t.2.1 z)&&_)=true;rw[ih (i+1) (by simp at hi;omega) fun j=>by have:=hz (j+1);rw[List.getElem?_cons_succ]at this;rw[this];congr 1;omega];show(je t.2.1 t.2.1&&Oa z z&&true)=true;rw[iR,du];simp
   exact key t.2.2 0 (by omega) (fun j=>by rw[Nat.zero_add])
  rw[hi];rfl
theorem bK5(hm:P.follows .mixedOrders=true)(hΦ:fo P Φ){f:Nat}{W:World}{C:Nat}{args:List V}(hC:W.heap.size≤C)(hk:1000≤C)(ha:i9 (· <C) args)
 (h:Ev.Calls Φ (dV W C) f args .e C fun v _ _=>v= .b true):Go.Calls P f (aB E0 args).toArray W fun e W'=>e= .returned (.bool true)∧(∀may,W.keptBut W' may)∧ ∀i,i<W.heap.size→W'.heap[i]?=W.heap[i]?:=by
 obtain⟨v,M',c',hc,rfl⟩:=h
 obtain⟨fn,h1,h2,h3,hC⟩:=iL (rd:=none) (fn:=0) (F₀:=[]) hΦ (EB hm hΦ) (dV W C) f args .e C (.b true) M' c' hc E0 (· <C) W (XF hC) (fun g _=>⟨rfl,rfl⟩) (fun g hg=>Nat.lt_of_lt_of_le hg hk) (fun b hb hc=>Nat.lt_irrefl _ (Nat.lt_of_lt_of_le hc hb)) ha
 refine hC.mono ?_
 rintro e W' ⟨E',c',rfl,hS,_,_⟩
 exact⟨rfl,fun may=>au1 hS may,fun i hi=>hS.frame i hi (fun b hb=>by cases hb)⟩
inductive Ty where
 |bool|int (k:IntKind)|str|sl (e:Ty)|nil|cons (a b:Ty)|arr (n:Nat) (k:IntKind)
def Ty.D:Ty→Type
 | .bool=>Bool
 | .int _=>Int
 | .str=>List UInt8
 | .sl e=>List e.D
 | .nil=>Unit
 | .cons a b=>a.D×b.D
 | .arr _ _=>List Int
def Ty.size:Ty→Nat
 | .nil=>0
 | .cons a b=>a.size+b.size
 | .arr n _=>n
 |_=>1
def Ty.hasSl:Ty→Bool
 | .sl _=>true
 | .cons a b=>a.hasSl||b.hasSl
 |_=>false
def Ty.deep:Ty→Bool
 | .sl e=>e.hasSl
 | .cons a b=>a.deep||b.deep
 |_=>false
def Rp(F:RO)(M:Mem)(c:Nat):(t:Ty)→List V→t.D→Prop
 | .bool,vs,x=>vs=[.b x]
 | .int k,vs,n=>(fun z:Int=>vs=[.i k z]∧k.min≤z∧z≤k.max) n
 | .str,vs,x=>(fun l:List UInt8=>vs=[sV l]∧l.length≤Go.maxLen) x
 | .sl e,vs,x=>(fun l:List e.D=>∃v es,vs=[v]∧bG F M c e.size v es∧l.length≤Go.maxLen∧es.length=l.length∧ ∀i (h:i<es.length) (h':i<l.length),Rp F M c e es[i] l[i]) x
 | .nil,vs,_=>vs=[]
 | .cons a b,vs,x=>∃v1 v2,vs=v1++v2∧Rp F M c a v1 x.1∧Rp F M c b v2 x.2
 | .arr n k,vs,x=>(fun l:List Int=>vs=l.map (V.i k)∧l.length=n∧ ∀z∈l,k.min≤z∧z≤k.max) x
theorem Rp.len:∀{t:Ty} {vs:List V} {x:t.D},Rp F M c t vs x→vs.length=t.size
 | .bool,vs,x,h=>by obtain rfl:vs=[.b x]:=h;rfl
 | .int k,vs,x,h=>by obtain⟨rfl,_⟩:=h;rfl
 | .str,vs,x,h=>by obtain⟨rfl,_⟩:=h;rfl
 | .sl e,vs,x,h=>by obtain⟨v,es,rfl,_⟩:=h;rfl
 | .nil,vs,x,h=>by obtain rfl:vs=[]:=h;rfl
 | .cons a b,vs,x,h=>by
   obtain⟨v1,v2,rfl,h1,h2⟩:=h;rw[aG,h1.len,h2.len];rfl
 | .arr n k,vs,x,h=>by
   obtain⟨rfl,hl,_⟩:=h;exact(show((x:List Int).map (V.i k)).length=_ from List.length_map _).trans hl
def Sz(B:Nat):(t:Ty)→t.D→Prop
 | .str,x=>(fun l:List UInt8=>l.length≤B) x
 | .sl e,x=>(fun l:List e.D=>l.length≤B∧ ∀y∈l,Sz B e y) x
 | .cons a b,x=>Sz B a x.1∧Sz B b x.2
 |_,_=>True
mutual
def so(P:Program):Ty→TypeId→Bool
 | .bool,t=>match P.underlying t with|some .bool=>true|_=>false
 | .int k,t=>match P.underlying t with|some (.int k')=>decide (k'=k)|_=>false
 | .str,t=>match P.underlying t with|some .string=>true|_=>false
 | .sl e,t=>match P.underlying t with|some (.slice te)=>decide (P.cellsOf te=e.size∧0<P.bytesOf te)&&so P e te|_=>false
 | .nil,_=>false
 | .cons a b,t=>match P.underlying t with
   |some (.struct fs)=>decide (P.cellsOf t=a.size+b.size)&&match fs.toList with
    |f::r=>decide (f.offset=0)&&(decide (P.cellsOf f.type=a.size)&&(so P a f.type&&Mp P b r a.size))
    |[]=>false
   |_=>false
 | .arr n k,t=>match P.underlying t with
   |some (.array n' e)=>decide (n'=n∧0<n∧P.cellsOf e=1∧P.cellsOf t=n)&&match P.underlying e with|some (.int k')=>decide (k'=k)|_=>false
   |_=>false
def Mp(P:Program):Ty→List Field→Nat→Bool
 | .nil,[],_=>true
 | .cons a b,f::r,o=>decide (f.offset=o)&&(decide (P.cellsOf f.type=a.size)&&(so P a f.type&&Mp P b r (o+a.size)))
 |_,_,_=>false
end
theorem fq{α β:Type}{f:α→Option β}:∀{l:List α} {r:List β},l.mapM f=some r→r.length=l.length∧ ∀i (h:i<l.length) (h':i<r.length),f l[i]=some r[i]
 |[],r,h=>by
  rw[List.mapM_nil]at h;obtain rfl:[]=r:=ag h;exact⟨rfl,fun i h=>by cases h⟩
 |a::l,r,h=>by
  rw[List.mapM_cons]at h;cases h1:f a with
  |none=>rw[h1]at h;cases h
  |some b=>
   rw[h1]at h;have h':(l.mapM f).bind (fun bs=>some (b::bs))=some r:=h;cases h2:l.mapM f with
   |none=>rw[h2]at h';cases h'
   |some bs=>
    rw[h2]at h';obtain rfl:b::bs=r:=ag h';obtain⟨h3,h4⟩:=fq h2;refine⟨by simp[h3],fun i hi hi'=>?_⟩;cases i with
    |zero=>exact h1
    |succ i=>exact h4 i (by simpa using hi) (by simpa using hi')
def MM(C:Nat):Value→Prop
 | .slice (some a) 0 0=>(a.spot=none∧a.block<C)∨BP a<C
 |_=>True
def zM(C:Nat)(cs:List Value)(vs:List V):Prop:=cs.map (uL C)=vs.map some
theorem zM.conc{C:Nat}:∀{cs:List Value} {vs:List V},zM C cs vs→aB E0 vs=cs∧i9 (· <C) vs
 |[],[],_=>⟨rfl,trivial⟩
 |[],_::_,h=>by cases h
 |_::_,[],h=>by cases h
 |c::cs,v::vs,h=>by
  have h':uL C c::cs.map (uL C)=some v::vs.map some:=h;injection h' with h1 h2
  obtain⟨a1,a2⟩:=zM.conc (cs:=cs) (vs:=vs) h2;obtain⟨b1,b2⟩:=xO h1;exact⟨by rw[aB,a1,b1],b2,a2⟩
theorem zM.append{C:Nat}{cs cs':List Value}{vs':List V}(h:zM C cs vs)(h':zM C cs' vs'):zM C (cs++cs') (vs++vs'):=by
 unfold zM at *
 rw[List.map_append,List.map_append,h,h']
theorem zM.len{C:Nat}{cs:List Value}(h:zM C cs vs):cs.length=vs.length:=by
 have:=congrArg List.length h
 simpa using this
theorem zM.get{C:Nat}{cs:List Value}(h:zM C cs vs)(i:Nat)(hi:i<cs.length):uL C cs[i]=vs[i]?:=by
 have:=congrArg (fun l:List (Option V)=>l[i]?) h
 simp only[List.getElem?_map]at this
 rw[List.getElem?_eq_getElem hi,List.getElem?_eq_getElem (by rw[←h.len];exact hi)]at this
 rw[List.getElem?_eq_getElem (by rw[←h.len];exact hi)]
 simpa using this
section
variable{H:Type}{enc:TypeId×Value→H}{P:Program}{W:World}{C:Nat}{sp:Nat→Bool}{held:Bool}
theorem YH{r:Nat}{cs:List Value}(h:zM C cs vs)(hc:∀i (hi:i<cs.length),W.cell? ⟨r,o+i,none⟩=some cs[i]):cK (dV W C) .e r o vs:=by
 intro k hk
 have hk':k<cs.length:=by rw[h.len];exact hk
 have:=h.get k hk'
 rw[List.getElem?_eq_getElem hk]at this⊢
 exact Mu (hc k hk') this
theorem zG{t:TypeId}{cs:List Value}{fuel:Nat}{r:DataW H×List MemPlace}(hu:P.underlying t=some .bool)(h:DataW.trod enc P W 0 sp held fuel t cs=some r):∃b,cs=[.bool b]:=by
 cases fuel with
 |zero=>cases h
 |succ fuel=>
  unfold DataW.trod at h;rw[hu]at h;split at h<;>first|(rename_i e;cases e;done)|cases h|skip
  all_goals simp_all
theorem sm{t:TypeId}{k:IntKind}{cs:List Value}{fuel:Nat}{r:DataW H×List MemPlace}(hu:P.underlying t=some (.int k))(h:DataW.trod enc P W 0 sp held fuel t cs=some r):∃n,cs=[.int k n]∧k.min≤n∧n≤k.max:=by
 cases fuel with
 |zero=>cases h
 |succ fuel=>
  unfold DataW.trod at h;rw[hu]at h;split at h<;>first|(rename_i e;cases e;done)|cases h|skip
  rename_i k0 k' n e;simp only[Option.some.injEq,TypeDesc.int.injEq]at e;subst e;split at h
  ·rename_i hk;obtain⟨rfl,hw⟩:=hk;have hw':(decide (k'.min≤n)&&decide (n≤k'.max))=true:=hw;simp only[aC,decide_eq_true_eq]at hw';exact⟨n,rfl,hw'⟩
  ·cases h
theorem D9{t:TypeId}{cs:List Value}{fuel:Nat}{r:DataW H×List MemPlace}(hu:P.underlying t=some .string)(h:DataW.trod enc P W 0 sp held fuel t cs=some r):∃s:ByteArray,cs=[.string s]∧s.data.toList.length≤Go.maxLen∧r.1= .lit (.string s.data.toList):=by
 cases fuel with
 |zero=>cases h
 |succ fuel=>
  unfold DataW.trod at h;rw[hu]at h;split at h<;>first|(rename_i e;cases e;done)|cases h|skip
  rename_i s e;split at h
  ·rename_i hk;injection h with h
   exact⟨s,rfl,by simpa using hk,by rw[←h]⟩
  ·cases h
def Gw(P:Program)(B:Nat)(t:TypeId)(d:DataW H):Prop:=∀n∈d.weights P t,n≤B
theorem JS{P:Program}{e:TypeId}{n:Nat}:∀{l:List (DataW H)} {d:DataW H},d∈l→n∈d.weights P e→n∈DataW.weightsAll P e l
 |[],_,h,_=>by cases h
 |x::l,d,h,hn=>by
  rw[DataW.weightsAll,List.mem_append];rcases bv.1 h with rfl|h
  ·exact .inl hn
  ·exact .inr (JS h hn)
theorem Cp{P:Program}{n:Nat}:∀{ts:List TypeId} {l:List (DataW H)} {i:Nat} {t:TypeId} {d:DataW H},ts[i]?=some t→l[i]?=some d→n∈d.weights P t→n∈DataW.weightsEach P ts l
 |[],_,i,_,_,h,_,_=>by cases i<;>cases h
 |_::_,[],i,_,_,_,h,_=>by cases i<;>cases h
 |t::ts,d::l,0,_,_,h1,h2,hn=>by
  cases h1;cases h2;rw[DataW.weightsEach,List.mem_append];exact .inl hn
 |t::ts,d::l,i+1,_,_,h1,h2,hn=>by
  rw[DataW.weightsEach,List.mem_append];exact .inr (Cp (i:=i) h1 h2 hn)
theorem KI{B:Nat}{t te:TypeId}{cs:List Value}{fuel:Nat}{r:DataW H×List MemPlace}(hu:P.underlying t=some (.slice te))(h:DataW.trod enc P W 0 sp held fuel t cs=some r):
 cs=[.slice none 0 0]∨ ∃a len cap fuel',cs=[.slice (some a) len cap]∧len≤cap∧cap≤Go.maxLen∧
  (∀i,i<len→ ∃es x,W.cells? 0 (a.add (i*P.cellsOf te)) (P.cellsOf te)=some es∧DataW.trod enc P W 0 sp held fuel' te es=some x∧(Gw P B t r.1→Gw P B te x.1))∧(Gw P B t r.1→len*P.bytesOf te≤B)∧
  (sp a.block=true→0<cap→ ∃es,W.cells? 0 a (P.cellsOf te)=some es):=by
 cases fuel with
 |zero=>cases h
 |succ fuel=>
  unfold DataW.trod at h;rw[hu]at h;split at h<;>first|(rename_i e;cases e;done)|cases h|skip
  ·exact .inl rfl
  ·rename_i e0 a len cap e;simp only[Option.some.injEq,TypeDesc.slice.injEq]at e;subst e;simp only at h;split at h
   ·rename_i hk;obtain⟨_,h1,h2⟩:=hk;cases hm:(List.range len).mapM fun i=>(W.cells? 0 (a.add (i*P.cellsOf te)) (P.cellsOf te)).bind (DataW.trod enc P W 0 sp held fuel te)with
    |none=>rw[hm]at h;cases h
    |some elems=>
     obtain⟨hl,hget⟩:=fq hm;obtain⟨rest,hr⟩:∃rest,r.1= .slice (elems.map (·.1)) rest:=by
      rw[hm]at h;simp only[Option.bind_some]at h;rw[aX]at h;obtain⟨rs,_,h⟩:=h;exact⟨_,by rw[←h]⟩
     have hw:r.1.weights P t=((elems.map (·.1)).length+rest.length)*P.bytesOf te::(DataW.weightsAll P te (elems.map (·.1))++DataW.weightsAll P te rest):=by
      rw[hr,DataW.weights,hu]
     rw[List.length_range]at hl
     have hlen':Gw P B t r.1→len*P.bytesOf te≤B:=fun hW=>by
      have:=hW _ (by rw[hw];exact ck ..);rw[List.length_map,hl]at this;exact bF (Nat.mul_le_mul (Nat.le_add_right _ _) (ak _)) this
     have hel:∀i,i<len→ ∃es x,W.cells? 0 (a.add (i*P.cellsOf te)) (P.cellsOf te)=some es∧DataW.trod enc P W 0 sp held fuel te es=some x∧(Gw P B t r.1→Gw P B te x.1):=fun i hi=>by
      have:=hget i (by simpa using hi) (by rw[hl];exact hi);simp only[List.getElem_range]at this;cases hc:W.cells? 0 (a.add (i*P.cellsOf te)) (P.cellsOf te)with
      |none=>rw[hc]at this;cases this
      |some es=>
       rw[hc]at this;refine⟨es,_,rfl,this,fun hW n hn=>hW n ?_⟩;rw[hw];exact bN _ (List.mem_append_left _ (JS (List.mem_map.2 ⟨_,List.getElem_mem _,rfl⟩) hn))
     refine .inr ⟨a,len,cap,fuel,rfl,h1,h2,hel,hlen',fun hsp h0=>?_⟩;by_cases hlen:0<len
     ·obtain⟨es,_,he,_⟩:=hel 0 hlen;rw[Nat.zero_mul]at he;exact⟨es,by simpa [Addr.add]using he⟩
     ·rw[hm]at h;simp only[Option.bind_some,ae hsp]at h;cases hm2:(List.range (cap-len)).mapM fun j=>(W.cells? 0 (a.add ((len+j)*P.cellsOf te)) (P.cellsOf te)).bind (DataW.trod enc P W 0 sp held fuel te)with
      |none=>rw[hm2]at h;cases h
      |some rest=>
       obtain⟨g1,g2⟩:=fq hm2;rw[List.length_range]at g1;have:=g2 0 (by rw[List.length_range];omega) (by omega);simp only[List.getElem_range]at this;rw[show(len+0)*P.cellsOf te=0 by rw[show len=0 by omega];simp]at this;cases hc:W.cells? 0 (a.add 0) (P.cellsOf te)with
       |none=>rw[hc]at this;cases this
       |some es=>exact⟨es,by simpa [Addr.add]using hc⟩
   ·cases h
theorem KJ{B:Nat}{t:TypeId}{fs:Array Field}{cs:List Value}{fuel:Nat}{r:DataW H×List MemPlace}(hu:P.underlying t=some (.struct fs))(h:DataW.trod enc P W 0 sp held fuel t cs=some r):
 cs.length=P.cellsOf t∧ ∃fuel',∀f∈fs.toList,∃x,DataW.trod enc P W 0 sp held fuel' f.type ((cs.drop f.offset).take (P.cellsOf f.type))=some x∧(Gw P B t r.1→Gw P B f.type x.1):=by
 cases fuel with
 |zero=>cases h
 |succ fuel=>
  have key:(if cs.length=P.cellsOf t then(fs.toList.mapM fun f=>DataW.trod enc P W 0 sp held fuel f.type ((cs.drop f.offset).take (P.cellsOf f.type))).map fun xs=>(DataW.agg (xs.map (·.1)),xs.flatMap (·.2))else none)=some r:=by
   unfold DataW.trod at h;rw[hu]at h;split at h<;>first|(rename_i e;cases e;done)|cases h|skip
   ·rename_i e;simp only[Option.some.injEq,TypeDesc.struct.injEq]at e;subst e;exact h
   ·exact(‹∀fs_1:Array Field,some (TypeDesc.struct fs)=some (TypeDesc.struct fs_1)→False› fs rfl).elim
  split at key
  ·rename_i hk;refine⟨hk,fuel,fun f hf=>?_⟩;rw[aX]at key;obtain⟨xs,hm,hr⟩:=key;obtain⟨hl,hget⟩:=fq hm;obtain⟨i,hi,rfl⟩:=List.getElem_of_mem hf;refine⟨_,hget i hi (by rw[hl];exact hi),fun hW n hn=>hW n ?_⟩;rw[←hr,DataW.weights,hu];refine Cp (i:=i) (t:=fs.toList[i].type) (d:=(xs[i]'(by rw[hl];exact hi)).1) ?_ ?_ hn
   ·rw[List.getElem?_map,List.getElem?_eq_getElem hi];rfl
   ·rw[List.getElem?_map,List.getElem?_eq_getElem (by rw[hl];exact hi)];rfl
  ·cases key
theorem KH{t e:TypeId}{cs:List Value}{fuel:Nat}{r:DataW H×List MemPlace}(hu:P.underlying t=some (.array n e))(h:DataW.trod enc P W 0 sp held fuel t cs=some r):
 cs.length=P.cellsOf t∧ ∃fuel',∀i,i<n→ ∃x,DataW.trod enc P W 0 sp held fuel' e ((cs.drop (i*P.cellsOf e)).take (P.cellsOf e))=some x:=by
 cases fuel with
 |zero=>cases h
 |succ fuel=>
  have key:(if cs.length=P.cellsOf t then((List.range n).mapM fun i=>DataW.trod enc P W 0 sp held fuel e ((cs.drop (i*P.cellsOf e)).take (P.cellsOf e))).map fun xs=>(DataW.agg (xs.map (·.1)),xs.flatMap (·.2))else none)=some r:=by
   unfold DataW.trod at h;rw[hu]at h;split at h<;>first|(rename_i e;cases e;done)|cases h|skip
   ·rename_i e;simp only[Option.some.injEq,TypeDesc.array.injEq]at e;obtain⟨rfl,rfl⟩:=e;exact h
   ·exact(‹∀(n_1:Nat) (e_1:TypeId),some (TypeDesc.array n e)=some (TypeDesc.array n_1 e_1)→False› n e rfl).elim
  split at key
  ·rename_i hk;refine⟨hk,fuel,fun i hi=>?_⟩;rw[aX]at key;obtain⟨xs,hm,hr⟩:=key;obtain⟨hl,hget⟩:=fq hm;rw[List.length_range]at hl;have:=hget i (by rw[List.length_range];exact hi) (by omega);rw[List.getElem_range]at this;exact⟨_,this⟩
  ·cases key
theorem JH{k:IntKind}:∀{n:Nat} {cs:List Value},cs.length=n→(∀i,i<n→ ∃z,(cs.drop i).take 1=[Value.int k z]∧k.min≤z∧z≤k.max)→ ∃zs:List Int,cs=zs.map (Value.int k)∧zs.length=n∧ ∀z∈zs,k.min≤z∧z≤k.max
 |0,cs,h,_=>⟨[],List.eq_nil_of_length_eq_zero h,rfl,fun z hz=>by cases hz⟩
 |n+1,[],h,_=>by cases h
 |n+1,c::cs,h,hi=>by
  obtain⟨z,h1,h2⟩:=hi 0 (Nat.succ_pos _)
  obtain⟨zs,e1,e2,e3⟩:=JH (k:=k) (n:=n) (cs:=cs) (by simpa using h) fun i hn=>by
   have:=hi (i+1) (by omega)
   rwa [List.drop_succ_cons]at this
  have h1':[c]=[Value.int k z]:=h1;injection h1' with h1'
  subst h1';refine⟨z::zs,by rw[e1];rfl,by rw[aP,e2],fun y hy=>?_⟩;rcases bv.1 hy with rfl|hy
  ·exact h2
  ·exact e3 y hy
theorem P2(C:Nat)(k:IntKind)(zs:List Int):zM C (zs.map (Value.int k)) (zs.map (V.i k)):=by
 unfold zM
 rw[List.map_map,List.map_map];rfl
theorem Nw{a:Addr}(h1:a.spot=none)(h2:a.block<C):uL C (.slice (some a) n c)=some (.l a.block a.off n c):=by
 show(if a.spot=none∧a.block<C then some (V.l a.block a.off n c)else _)=_
 rw[ae ⟨h1,h2⟩]
theorem C1{a:Addr}{cs:List Value}(hc:W.cells? 0 a n=some cs)(hn:0<n):a.spot=none∧a.block<W.heap.size:=by
 unfold World.cells? at hc
 rw[ae (aE _)]at hc
 obtain⟨h1,h2⟩:=fq hc
 rw[List.length_range]at h1
 have:=h2 0 (by rw[List.length_range];exact hn) (by omega)
 rw[List.getElem_range,show a.add 0=a from rfl]at this
 unfold World.cell? at this
 split at this
 ·rename_i hh;split at this
  ·cases this
  ·rename_i hs;refine⟨?_,(Array.getElem?_eq_some_iff.1 hh).1⟩;cases hsp:a.spot with
   |none=>rfl
   |some k=>rw[hsp]at hs;simp at hs
 ·cases this
theorem YZ{a:Addr}{len cap:Nat}{Q:List Value→List V→Prop}(hs:a.spot=none)(hb:a.block<C)(hlc:len≤cap)
 (h:∀i,i<len→ ∃cs vs,W.cells? 0 (a.add (i*sz)) sz=some cs∧zM C cs vs∧Q cs vs):
 ∃es:List (List V),es.length=len∧bG (dV W C) .e C sz (.l a.block a.off len cap) es∧ ∀i (hi:i<es.length),∃cs,Q cs es[i]:=by
 obtain⟨b,o,sp⟩:=a
 obtain rfl:sp=none:=hs
 have hget:∀i,i<len→ ∃cs vs,zM C cs vs∧Q cs vs∧cs.length=sz∧ ∀k (hk:k<cs.length),W.cell? ⟨b,o+i*sz+k,none⟩=some cs[k]:=by
  intro i hi;obtain⟨cs,vs,h1,h2,h3⟩:=h i hi;rw[Addr.add_eq]at h1;unfold World.cells? at h1;rw[ae (aE _)]at h1;obtain⟨h4,h5⟩:=fq h1;rw[List.length_range]at h4;refine⟨cs,vs,h2,h3,h4,fun k hk=>?_⟩;have:=h5 k (by rw[List.length_range];omega) hk;rw[List.getElem_range,Addr.add_eq]at this;exact this
 have key:∀n,n≤len→ ∃es:List (List V),es.length=n∧(∀e∈es,e.length=sz)∧cK (dV W C) .e b o es.flatten∧ ∀i (hi:i<es.length),∃cs,Q cs es[i]:=by
  intro n
  induction n with
  |zero=>intro _;exact⟨[],rfl,fun e he=>(by cases he),fun k hk=>(by simp at hk),fun i hi=>(by simp at hi)⟩
  |succ n ih=>
   intro hn;obtain⟨es,h1,h2,h3,h4⟩:=ih (by omega);obtain⟨cs,vs,g1,g2,g3,g4⟩:=hget n (by omega);have hvl:vs.length=sz:=by rw[←g1.len];exact g3
   have h2':∀e∈es++[vs],e.length=sz:=by
    intro e he;rw[List.mem_append,List.mem_singleton]at he;rcases he with he|rfl
    ·exact h2 e he
    ·exact hvl
   have hfl:es.flatten.length=n*sz:=by rw[gk h2,h1]
   refine⟨es++[vs],by simp[h1],h2',?_,fun i hi=>?_⟩
   ·intro k hk;rw[List.flatten_append]at hk⊢;simp only[List.flatten_cons,List.flatten_nil,cu,aG]at hk⊢;by_cases hk1:k<es.flatten.length
    ·rw[List.getElem?_append_left hk1];exact h3 k hk1
    ·rw[List.getElem?_append_right (by omega),hfl];have hr:=YH (o:=o+n*sz) g1 g4 (k-n*sz) (by omega);rw[←hr];congr 1;omega
   ·by_cases hi1:i<es.length
    ·rw[r5 hi1];exact h4 i hi1
    ·rw[qZ (by omega)];have:i-es.length=0:=by simp at hi;omega
     simp only[this,List.getElem_cons_zero];exact⟨cs,g2⟩
 obtain⟨es,h1,h2,h3,h4⟩:=key len (ak _)
 refine⟨es,h1,⟨h2,.inr ⟨b,o,.inl ⟨cap,by omega,by rw[h1]⟩,hb,h3⟩⟩,h4⟩
theorem JO{Q:Nat→α→Prop}(h:∀i,i<n→ ∃x,Q i x):∃l:List α,l.length=n∧ ∀i (hi:i<l.length),Q i l[i]:=by
 induction n with
 |zero=>exact⟨[],rfl,fun i hi=>(by simp at hi)⟩
 |succ n ih=>
  obtain⟨l,h1,h2⟩:=ih fun i hi=>h i (by omega);obtain⟨x,hx⟩:=h n (by omega);refine⟨l++[x],by simp[h1],fun i hi=>?_⟩;by_cases hi1:i<l.length
  ·rw[r5 hi1];exact h2 i hi1
  ·rw[qZ (by omega)];have e:i=n:=by simp at hi;omega
   subst e;simp only[h1,Nat.sub_self,List.getElem_cons_zero];exact hx
theorem Ty.size_pos{ty:Ty}{t:TypeId}(h:so P ty t=true):0<ty.size:=by
 induction ty generalizing t with
 |cons a b iha _=>
  rw[so]at h;split at h
  ·simp only[aC]at h;obtain⟨_,h⟩:=h;split at h
   ·simp only[aC]at h;have:=iha h.2.2.1;show 0<a.size+b.size;omega
   ·cases h
  ·cases h
 |nil=>cases h
 |arr n k=>
  rw[so]at h;split at h
  ·simp only[aC,decide_eq_true_eq]at h;exact h.1.2.1
  ·cases h
 |_=>exact Nat.one_pos
mutual
theorem vg{B:Nat}(hsp:∀b,sp b=true)(hC:W.heap.size≤C):∀(ty:Ty) (t:TypeId) (cs:List Value) (fuel:Nat) (r:DataW H×List MemPlace),so P ty t=true→DataW.trod enc P W 0 sp held fuel t cs=some r→
 (ty.hasSl=true→ ∀v∈cs,MM C v)→(ty.deep=true→ ∀a x,W.cell? a=some x→MM C x)→ ∃vs x,zM C cs vs∧Rp (dV W C) .e C ty vs x∧(Gw P B t r.1→Sz B ty x)
 | .bool,t,cs,fuel,r,hb,h,h1,h2=>by
   rw[so]at hb;split at hb
   ·rename_i hu;obtain⟨b,rfl⟩:=zG hu h;exact⟨[.b b],b,rfl,rfl,fun _=>trivial⟩
   ·cases hb
 | .int k,t,cs,fuel,r,hb,h,h1,h2=>by
   rw[so]at hb;split at hb
   ·rename_i k' hu;obtain rfl:=aY hb;obtain⟨n,rfl,hn⟩:=sm hu h;exact⟨[.i k' n],n,rfl,⟨rfl,hn⟩,fun _=>trivial⟩
   ·cases hb
 | .str,t,cs,fuel,r,hb,h,h1,h2=>by
   rw[so]at hb;split at hb
   ·rename_i hu;obtain⟨s,rfl,hs,hr⟩:=D9 hu h;refine⟨[sV s.data.toList],s.data.toList,rfl,⟨rfl,hs⟩,fun hW=>hW _ ?_⟩;rw[hr,DataW.weights];exact List.mem_singleton.2 rfl
   ·cases hb
 | .sl e,t,cs,fuel,r,hb,h,h1,h2=>by
   rw[so]at hb;split at hb
   ·rename_i te hu;simp only[aC,decide_eq_true_eq]at hb;obtain⟨⟨hsz,hbp⟩,hb⟩:=hb;have hpos:=Ty.size_pos hb;rcases KI (B:=B) hu h with rfl|⟨a,len,cap,fuel',rfl,hlc,hcap,hel,hlW,hfirst⟩
    ·exact⟨[.l0],[],rfl,⟨.l0,[],rfl,⟨fun e he=>(by cases he),.inl ⟨rfl,.inl rfl⟩⟩,aE _,rfl,fun i hi=>(by cases hi)⟩,fun _=>⟨aE _,fun y hy=>(by cases hy)⟩⟩
    ·have hz:=h1 rfl _ (List.mem_singleton.2 rfl);rw[hsz]at hel hfirst;have hok:(a.spot=none∧a.block<C)∨(len=0∧cap=0∧BP a<C∧ ¬(a.spot=none∧a.block<C)):=by
      by_cases h0:0<cap
      ·obtain⟨es,he⟩:=hfirst (hsp _) h0;obtain⟨g1,g2⟩:=C1 he hpos;exact .inl ⟨g1,Nat.lt_of_lt_of_le g2 hC⟩
      ·obtain rfl:cap=0:=by omega
       obtain rfl:len=0:=by omega
       by_cases hq:a.spot=none∧a.block<C
       ·exact .inl hq
       ·exact .inr ⟨rfl,rfl,hz.resolve_left hq,hq⟩
     rcases hok with hok|⟨rfl,rfl,he,hq⟩
     rotate_left
     ·refine⟨[.ue (BP a) 1 0],[],?_,⟨.ue (BP a) 1 0,[],rfl,⟨fun e he=>(by cases he),.inl ⟨rfl,.inr ⟨_,_,_,rfl⟩⟩⟩,aE _,rfl,fun i hi=>(by cases hi)⟩,fun _=>⟨aE _,fun y hy=>(by cases hy)⟩⟩;show[uL C _]=[some _]
      congr 1
      show(if a.spot=none∧a.block<C then _ else if 0=0∧0=0∧BP a<C then some (V.ue (BP a) 1 0)else none)=_;rw[ab hq,ae ⟨rfl,rfl,he⟩]
     obtain⟨es,hl,hS,hQ⟩:=YZ (cap:=cap) (C:=C) (Q:=fun _ vs=>∃x,Rp (dV W C) .e C e vs x∧(Gw P B t r.1→Sz B e x)) hok.1 hok.2 hlc (fun i hi=>by
      obtain⟨cs',x,hc,ht,hxW⟩:=hel i hi
      obtain⟨vs,y,hv,hR,hZ⟩:=vg (B:=B) hsp hC e te cs' fuel' x hb ht
       (fun he v hv=>by
        obtain⟨j,hj,rfl⟩:=List.getElem_of_mem hv;unfold World.cells? at hc;rw[ae (aE _)]at hc;obtain⟨h4,h5⟩:=fq hc;exact h2 he _ _ (h5 j (by rw[List.length_range]at h4⊢;omega) hj))
       (fun he=>h2 (by
        have key:∀t:Ty,t.deep=true→t.hasSl=true:=by
         intro t
         induction t with
         |cons a b iha ihb=>
          intro hd;have hd':(a.deep||b.deep)=true:=hd;show(a.hasSl||b.hasSl)=true;rw[Bool.or_eq_true]at hd'⊢;exact hd'.imp iha ihb
         |sl e _=>intro _;rfl
         |_=>intro hd;cases hd
        exact key e he))
      exact⟨cs',vs,hc,hv,y,hR,fun hW=>hZ (hxW hW)⟩)
     obtain⟨xs,hxl,hx⟩:=JO (n:=es.length) (Q:=fun i x=>(∀h:i<es.length,Rp (dV W C) .e C e es[i] x)∧(Gw P B t r.1→Sz B e x)) (fun i hi=>by
      obtain⟨_,x,hR,hZ⟩:=hQ i hi;exact⟨x,fun _=>hR,hZ⟩)
     refine⟨[.l a.block a.off len cap],xs,?_,⟨.l a.block a.off len cap,es,rfl,hS,?_,hxl.symm,fun i hi hi'=>(hx i hi').1 hi⟩,fun hW=>⟨?_,fun y hy=>?_⟩⟩
     ·show[uL C _]=[some _]
      rw[Nw hok.1 hok.2]
     ·show List.length xs≤_;omega
     ·show List.length xs≤_;rw[hxl,hl];exact bF (Nat.le_mul_of_pos_right _ hbp) (hlW hW)
     ·obtain⟨i,hi,rfl⟩:=List.getElem_of_mem hy;exact(hx i hi).2 hW
   ·cases hb
 | .nil,t,cs,fuel,r,hb,h,h1,h2=>by cases hb
 | .cons a b,t,cs,fuel,r,hb,h,h1,h2=>by
   rw[so]at hb;split at hb
   ·rename_i fs hu;simp only[aC,decide_eq_true_eq]at hb;obtain⟨hsz,hb⟩:=hb;obtain⟨hlen,fuel',hf⟩:=KJ (B:=B) hu h;split at hb
    ·rename_i f rest hfs;simp only[aC,decide_eq_true_eq]at hb;obtain⟨ho,hfa,hta,hrest⟩:=hb;rw[hfs]at hf;obtain⟨x,hx,hxW⟩:=hf f (ck ..);rw[ho,hfa]at hx;have hs:(a.hasSl=true→ ∀v∈(cs.drop 0).take a.size,MM C v):=fun ha v hv=>h1 (by show(a.hasSl||b.hasSl)=true;rw[ha];rfl) v (List.mem_of_mem_drop (List.mem_of_mem_take hv));obtain⟨v1,x1,hv1,hR1,hZ1⟩:=vg (B:=B) hsp hC a f.type _ fuel' x hta hx hs (fun ha=>h2 (by show(a.deep||b.deep)=true;rw[ha];rfl))
     obtain⟨v2,x2,hv2,hR2,hZ2⟩:=Kq (B:=B) (hyp:=Gw P B t r.1) hsp hC b rest cs fuel' a.size hrest (by rw[hlen,hsz]) (fun f' hf'=>hf f' (bN _ hf'))
      (fun hb' v hv=>h1 (by show(a.hasSl||b.hasSl)=true;rw[hb'];simp) v (List.mem_of_mem_drop hv)) (fun hb'=>h2 (by show(a.deep||b.deep)=true;rw[hb'];simp))
     refine⟨v1++v2,(x1,x2),?_,⟨v1,v2,rfl,hR1,hR2⟩,fun hW=>⟨hZ1 (hxW hW),hZ2 hW⟩⟩;have:=hv1.append hv2
     rwa [List.drop_zero,List.take_append_drop]at this
    ·cases hb
   ·cases hb
 | .arr n k,t,cs,fuel,r,hb,h,h1,h2=>by
   rw[so]at hb;split at hb
   ·rename_i n' e hu;simp only[aC,decide_eq_true_eq]at hb;obtain⟨⟨rfl,hn,hc1,hct⟩,hb⟩:=hb;split at hb
    ·rename_i k' hk;obtain rfl:=aY hb;obtain⟨hlen,fuel',hel⟩:=KH hu h;rw[hct]at hlen
     obtain⟨zs,rfl,hz,hr⟩:=JH (k:=k') hlen fun i hi=>by
      obtain⟨x,hx⟩:=hel i hi;rw[hc1,Nat.mul_one]at hx;exact sm hk hx
     exact⟨zs.map (V.i k'),zs,P2 C k' zs,⟨rfl,hz,hr⟩,fun _=>trivial⟩
    ·cases hb
   ·cases hb
theorem Kq{B:Nat}{hyp:Prop}(hsp:∀b,sp b=true)(hC:W.heap.size≤C):∀(ty:Ty) (fs:List Field) (cs:List Value) (fuel o:Nat),Mp P ty fs o=true→cs.length=o+ty.size→
 (∀f∈fs,∃x,DataW.trod enc P W 0 sp held fuel f.type ((cs.drop f.offset).take (P.cellsOf f.type))=some x∧(hyp→Gw P B f.type x.1))→
 (ty.hasSl=true→ ∀v∈cs.drop o,MM C v)→(ty.deep=true→ ∀a x,W.cell? a=some x→MM C x)→ ∃vs x,zM C (cs.drop o) vs∧Rp (dV W C) .e C ty vs x∧(hyp→Sz B ty x)
 | .nil,[],cs,fuel,o,hb,hl,hf,h1,h2=>by
   refine⟨[],(),?_,rfl,fun _=>trivial⟩;rw[List.drop_eq_nil_of_le (by have:(Ty.nil).size=0:=rfl;omega)];rfl
 | .nil,_::_,cs,fuel,o,hb,hl,hf,h1,h2=>by cases hb
 | .bool,fs,cs,fuel,o,hb,hl,hf,h1,h2=>by cases fs<;>cases hb
 | .int k,fs,cs,fuel,o,hb,hl,hf,h1,h2=>by cases fs<;>cases hb
 | .str,fs,cs,fuel,o,hb,hl,hf,h1,h2=>by cases fs<;>cases hb
 | .sl e,fs,cs,fuel,o,hb,hl,hf,h1,h2=>by cases fs<;>cases hb
 | .arr n k,fs,cs,fuel,o,hb,hl,hf,h1,h2=>by cases fs<;>cases hb
 | .cons a b,[],cs,fuel,o,hb,hl,hf,h1,h2=>by cases hb
 | .cons a b,f::rest,cs,fuel,o,hb,hl,hf,h1,h2=>by
   rw[Mp]at hb;simp only[aC,decide_eq_true_eq]at hb;obtain⟨ho,hfa,hta,hrest⟩:=hb;have hl':cs.length=o+(a.size+b.size):=hl;obtain⟨x,hx,hxW⟩:=hf f (ck ..);rw[ho,hfa]at hx;obtain⟨v1,x1,hv1,hR1,hZ1⟩:=vg (B:=B) hsp hC a f.type _ fuel x hta hx (fun ha v hv=>h1 (by show(a.hasSl||b.hasSl)=true;rw[ha];rfl) v (List.mem_of_mem_take hv)) (fun ha=>h2 (by show(a.deep||b.deep)=true;rw[ha];rfl))
   obtain⟨v2,x2,hv2,hR2,hZ2⟩:=Kq (B:=B) (hyp:=hyp) hsp hC b rest cs fuel (o+a.size) hrest (by omega) (fun f' hf'=>hf f' (bN _ hf'))
    (fun hb' v hv=>h1 (by show(a.hasSl||b.hasSl)=true;rw[hb'];simp) v (by rw[←List.drop_drop]at hv;exact List.mem_of_mem_drop hv)) (fun hb'=>h2 (by show(a.deep||b.deep)=true;rw[hb'];simp))
   refine⟨v1++v2,(x1,x2),?_,⟨v1,v2,rfl,hR1,hR2⟩,fun hW=>⟨hZ1 (hxW hW),hZ2 hW⟩⟩;have:=hv1.append hv2
   rwa [←List.drop_drop,List.take_append_drop]at this
end
theorem Et{W W':World}(h:∀i,i<W.heap.size→W'.heap[i]?=W.heap[i]?){a:Addr}{cs:List Value}(hc:W.cells? 0 a n=some cs):W'.cells? 0 a n=some cs:=by
 unfold World.cells? at hc⊢
 rw[ae (aE _)]at hc⊢
 have key:∀(l:List Nat) (r:List Value),(l.mapM fun i=>W.cell? (a.add i))=some r→(l.mapM fun i=>W'.cell? (a.add i))=some r:=by
  intro l
  induction l with
  |nil=>intro r hr;exact hr
  |cons x l ih=>
   intro r hr;rw[List.mapM_cons]at hr⊢;cases h1:W.cell? (a.add x)with
   |none=>rw[h1]at hr;cases hr
   |some v=>
    have e:W'.cell? (a.add x)=some v:=by
     unfold World.cell? at h1⊢;split at h1
     ·rename_i hh;rw[h _ (Array.getElem?_eq_some_iff.1 hh).1,hh];exact h1
     ·cases h1
    rw[h1]at hr;rw[e];cases h2:l.mapM fun i=>W.cell? (a.add i)with
    |none=>rw[h2]at hr;cases hr
    |some vs=>
     rw[h2]at hr;rw[ih vs h2];exact hr
 exact key _ _ hc
theorem X7{W:World}{a:Addr}{cs:List Value}(hc:W.cells? 0 a n=some cs)(hn:0<n):a.block<W.heap.size:=by
 unfold World.cells? at hc
 rw[ae (aE _)]at hc
 obtain⟨h1,h2⟩:=fq hc
 rw[List.length_range]at h1
 have:=h2 0 (by rw[List.length_range];exact hn) (by omega)
 rw[List.getElem_range]at this
 unfold World.cell? at this
 split at this
 ·rename_i hh;have:=(Array.getElem?_eq_some_iff.1 hh).1;unfold Addr.add at this
  simpa using this
 ·cases this
theorem o6{α β:Type}{f g:α→Option β}:∀{l:List α} {r:List β},l.mapM f=some r→(∀x∈l,∀y,f x=some y→g x=some y)→l.mapM g=some r
 |[],r,h,_=>h
 |a::l,r,h,hfg=>by
  rw[List.mapM_cons]at h⊢;cases h1:f a with
  |none=>rw[h1]at h;cases h
  |some b=>
   rw[h1]at h;rw[hfg a (ck ..) b h1];cases h2:l.mapM f with
   |none=>rw[h2]at h;cases h
   |some bs=>
    rw[h2]at h;rw[o6 h2 fun x hx=>hfg x (bN _ hx)];exact h
theorem FG{t:TypeId}{fs:Array Field}{cs:List Value}{fuel:Nat}(hu:P.underlying t=some (.struct fs))(hlen:cs.length=P.cellsOf t):DataW.trod enc P W 0 sp held (fuel+1) t cs=
 (fs.toList.mapM fun f=>DataW.trod enc P W 0 sp held fuel f.type ((cs.drop f.offset).take (P.cellsOf f.type))).map fun xs=>(DataW.agg (xs.map (·.1)),xs.flatMap (·.2)):=by
 rw[DataW.trod_step]
 unfold DataW.trodStep
 rw[hu]
 clear hu
 split
 all_goals first
  |(rename_i e;simp only[Option.some.injEq,TypeDesc.struct.injEq]at e;subst e;rw[ae hlen];done)
  |(rename_i e;cases e;done)
  |exact(‹∀fs_1:Array Field,some (TypeDesc.struct fs)=some (TypeDesc.struct fs_1)→False› fs rfl).elim
  |skip
theorem FF{t e:TypeId}{cs:List Value}{fuel:Nat}(hu:P.underlying t=some (.array n e))(hlen:cs.length=P.cellsOf t):DataW.trod enc P W 0 sp held (fuel+1) t cs=
 ((List.range n).mapM fun i=>DataW.trod enc P W 0 sp held fuel e ((cs.drop (i*P.cellsOf e)).take (P.cellsOf e))).map fun xs=>(DataW.agg (xs.map (·.1)),xs.flatMap (·.2)):=by
 rw[DataW.trod_step]
 unfold DataW.trodStep
 rw[hu]
 clear hu
 split
 all_goals first
  |(rename_i e;simp only[Option.some.injEq,TypeDesc.array.injEq]at e;obtain⟨rfl,rfl⟩:=e;rw[ae hlen];done)
  |(rename_i e;cases e;done)
  |exact(‹∀(n_1:Nat) (e_1:TypeId),some (TypeDesc.array n e)=some (TypeDesc.array n_1 e_1)→False› n e rfl).elim
  |skip
mutual
theorem p9{W W':World}(hW:∀i,i<W.heap.size→W'.heap[i]?=W.heap[i]?):∀(ty:Ty) (t:TypeId) (cs:List Value) (fuel:Nat) (r:DataW H×List MemPlace),so P ty t=true→
 DataW.trod enc P W 0 (fun _=>true) held fuel t cs=some r→DataW.trod enc P W' 0 (fun b=>decide (b<W.heap.size)) held fuel t cs=some r
 |ty,t,cs,0,r,hb,h=>by cases h
 | .bool,t,cs,fuel+1,r,hb,h=>by
   rw[so]at hb;split at hb
   ·rename_i hu;obtain⟨b,rfl⟩:=zG hu h;simp only[DataW.trod,hu]at h⊢;exact h
   ·cases hb
 | .int k,t,cs,fuel+1,r,hb,h=>by
   rw[so]at hb;split at hb
   ·rename_i k' hu;obtain rfl:=aY hb;obtain⟨n,rfl,hn⟩:=sm hu h;simp only[DataW.trod,hu]at h⊢;exact h
   ·cases hb
 | .str,t,cs,fuel+1,r,hb,h=>by
   rw[so]at hb;split at hb
   ·rename_i hu;obtain⟨s,rfl,hs⟩:=D9 hu h;simp only[DataW.trod,hu]at h⊢;exact h
   ·cases hb
 | .sl e,t,cs,fuel+1,r,hb,h=>by
   rw[so]at hb;split at hb
   ·rename_i te hu;simp only[aC,decide_eq_true_eq]at hb;obtain⟨⟨hsz,_⟩,hb⟩:=hb;have hpos:=Ty.size_pos hb;rcases KI (B:=0) hu h with rfl|⟨a,len,cap,fuel',rfl,hlc,hcap,hel⟩
    ·simp only[DataW.trod,hu]at h⊢;exact h
    ·simp only[DataW.trod,hu]at h⊢;rw[ae ⟨aE _,hlc,hcap⟩]at h⊢
     have elem:∀i y,(W.cells? 0 (a.add (i*P.cellsOf te)) (P.cellsOf te)).bind (DataW.trod enc P W 0 (fun _=>true) held fuel te)=some y→
      (W'.cells? 0 (a.add (i*P.cellsOf te)) (P.cellsOf te)).bind (DataW.trod enc P W' 0 (fun b=>decide (b<W.heap.size)) held fuel te)=some y:=by
      intro i y hy;cases hc:W.cells? 0 (a.add (i*P.cellsOf te)) (P.cellsOf te)with
      |none=>rw[hc]at hy;cases hy
      |some es=>
       rw[hc]at hy;rw[Et hW hc];exact p9 hW e te es fuel y hb hy
     cases hm:(List.range len).mapM fun i=>(W.cells? 0 (a.add (i*P.cellsOf te)) (P.cellsOf te)).bind (DataW.trod enc P W 0 (fun _=>true) held fuel te)with
     |none=>rw[hm]at h;cases h
     |some elems=>
      rw[hm]at h;rw[o6 hm fun i _=>elem i];simp only[Option.bind_some,if_true]at h⊢;by_cases hblk:a.block<W.heap.size
      ·rw[af hblk];simp only[if_true];cases hm2:(List.range (cap-len)).mapM fun j=>(W.cells? 0 (a.add ((len+j)*P.cellsOf te)) (P.cellsOf te)).bind (DataW.trod enc P W 0 (fun _=>true) held fuel te)with
       |none=>rw[hm2]at h;cases h
       |some rest=>
        rw[hm2]at h;rw[o6 hm2 fun i _=>elem (len+i)];exact h
      ·rw[ah hblk];have h0:cap-len=0:=by
        by_cases h0:cap-len=0
        ·exact h0
        ·exfalso;cases hm2:(List.range (cap-len)).mapM fun j=>(W.cells? 0 (a.add ((len+j)*P.cellsOf te)) (P.cellsOf te)).bind (DataW.trod enc P W 0 (fun _=>true) held fuel te)with
         |none=>rw[hm2]at h;cases h
         |some rest=>
          obtain⟨g1,g2⟩:=fq hm2;rw[List.length_range]at g1;have:=g2 0 (by rw[List.length_range];omega) (by omega);cases hc:W.cells? 0 (a.add ((len+(List.range (cap-len))[0]'(by rw[List.length_range];omega))*P.cellsOf te)) (P.cellsOf te)with
          |none=>rw[hc]at this;cases this
          |some es=>
           have:=X7 hc (by omega);unfold Addr.add at this;split at this<;>exact hblk this
       rw[h0]at h;simp only[List.range_zero,List.mapM_nil]at h;exact h
   ·cases hb
 | .nil,t,cs,fuel+1,r,hb,h=>by cases hb
 | .cons a b,t,cs,fuel+1,r,hb,h=>by
   rw[so]at hb;split at hb
   ·rename_i fs hu;simp only[aC,decide_eq_true_eq]at hb;obtain⟨hsz,hb⟩:=hb;obtain⟨hlen,_⟩:=KJ (B:=0) hu h;rw[FG hu hlen]at h⊢;split at hb
    ·rename_i f rest hfs;simp only[aC,decide_eq_true_eq]at hb;obtain⟨ho,hfa,hta,hrest⟩:=hb;rw[aX]at h;obtain⟨xs,hm,rfl⟩:=h;rw[hfs]at hm⊢
     rw[o6 hm fun g hg y hy=>by
      rcases bv.1 hg with rfl|hg
      ·exact p9 hW a _ _ fuel y hta hy
      ·exact yT hW b rest fuel a.size hrest g hg _ y hy]
     rfl
    ·cases hb
   ·cases hb
 | .arr n k,t,cs,fuel+1,r,hb,h=>by
   rw[so]at hb;split at hb
   ·rename_i n' e hu;simp only[aC,decide_eq_true_eq]at hb;obtain⟨_,hb⟩:=hb;split at hb
    ·rename_i k' hk;obtain⟨hlen,_⟩:=KH hu h;rw[FF hu hlen]at h⊢;rw[aX]at h;obtain⟨xs,hm,rfl⟩:=h
     rw[o6 hm fun i hi y hy=>by
      cases fuel with
      |zero=>cases hy
      |succ fuel=>
       obtain⟨z,hz,_⟩:=sm hk hy;rw[hz]at hy⊢;simp only[DataW.trod,hk]at hy⊢;exact hy]
     rfl
    ·cases hb
   ·cases hb
theorem yT{W W':World}(hW:∀i,i<W.heap.size→W'.heap[i]?=W.heap[i]?):∀(ty:Ty) (fs:List Field) (fuel o:Nat),Mp P ty fs o=true→ ∀f∈fs,∀(cs:List Value) (y:DataW H×List MemPlace),
 DataW.trod enc P W 0 (fun _=>true) held fuel f.type cs=some y→DataW.trod enc P W' 0 (fun b=>decide (b<W.heap.size)) held fuel f.type cs=some y
 | .nil,[],fuel,o,hb,f,hf,cs,y,h=>by cases hf
 | .nil,_::_,fuel,o,hb,f,hf,cs,y,h=>by cases hb
 | .bool,fs,fuel,o,hb,f,hf,cs,y,h=>by cases fs<;>cases hb
 | .int k,fs,fuel,o,hb,f,hf,cs,y,h=>by cases fs<;>cases hb
 | .str,fs,fuel,o,hb,f,hf,cs,y,h=>by cases fs<;>cases hb
 | .sl e,fs,fuel,o,hb,f,hf,cs,y,h=>by cases fs<;>cases hb
 | .arr n k,fs,fuel,o,hb,f,hf,cs,y,h=>by cases fs<;>cases hb
 | .cons a b,[],fuel,o,hb,f,hf,cs,y,h=>by cases hb
 | .cons a b,g::rest,fuel,o,hb,f,hf,cs,y,h=>by
   rw[Mp]at hb;simp only[aC,decide_eq_true_eq]at hb;obtain⟨ho,hfa,hta,hrest⟩:=hb;rcases bv.1 hf with rfl|hf
   ·exact p9 hW a _ _ fuel y hta h
   ·exact yT hW b rest fuel _ hrest f hf cs y h
end
def Ty.arg:Ty→List V→V
 | .cons _ _,vs=> .g vs
 | .arr _ _,vs=> .g vs
 |_,v::_=>v
 |_,[]=>undef
def Nu(P:Program):List Ty→List TypeId→Bool
 |[],[]=>true
 |ty::r,t::ts=>so P ty t&&Nu P r ts
 |_,_=>false
theorem Cu{base:Nat}{u:TypeId}{v:Value}(h:Cell.okWide P W .any base u v)(hC:W.heap.size≤C):MM C v:=by
 unfold MM
 split
 ·rename_i a;have key:W.has P .any base a 0 0∨ ∃e n,W.has P .any base a e n:=by
   unfold Cell.okWide at h;split at h<;>first|(rename_i e;cases e;done)|skip
   ·rename_i hne;unfold Cell.ok at h;split at h<;>first|(rename_i e;cases e;done)|skip
    all_goals first
     |exact h.elim
     |skip
    all_goals (rename_i e1 e2;first|cases e2|skip)
    exact .inr ⟨_,_,h.2.2⟩
  have:∃e n,W.has P .any base a e n:=by
   rcases key with h|h
   ·exact⟨0,0,h⟩
   ·exact h
  obtain⟨e,n,_,h1,row,cells,h2,_⟩:=this;refine .inl ⟨h1,?_⟩;unfold World.shape? at h2;split at h2
  ·rename_i hh;exact Nat.lt_of_lt_of_le (Array.getElem?_eq_some_iff.1 hh).1 hC
  ·cases h2
 ·trivial
theorem av6{base:Nat}{t:TypeId}{v:Value}(h:Value.okWide P W .any base t v)(hC:W.heap.size≤C):∀x∈v.cells.toList,MM C x:=by
 intro x hx
 unfold Value.okWide at h
 have agg:(∃cs,v= .agg cs∧cs.size=P.cellsOf t∧Row.okWide P W .any base t cs)→MM C x:=by
  rintro⟨cs,rfl,_,ts,_,_,hcell⟩;obtain⟨i,hi,rfl⟩:=List.getElem_of_mem hx
  obtain⟨u,_,hu⟩:=hcell i _ (by
   show cs[i]?=some _;rw[Array.getElem?_eq_getElem (by simpa [Value.cells]using hi)])
  exact Cu hu hC
 split at h
 ·exact agg h
 ·exact agg h
 ·have hv:v.cells=#[v]∨ ∃cs,v= .agg cs:=by
   cases v<;>first|exact .inl rfl|exact .inr ⟨_,rfl⟩
  rcases hv with hv|⟨cs,rfl⟩
  ·rw[hv]at hx;obtain rfl:x=v:=by simpa using hx
   exact Cu h hC
  ·exfalso;unfold Cell.okWide at h;split at h<;>first|(rename_i e1 e2;cases e2;done)|skip
   unfold Cell.ok at h;split at h<;>first|(rename_i e1 e2;cases e2;done)|exact h
theorem bA2{base:Nat}{t:TypeId}{v:Value}{fs:Array Field}(h:Value.okWide P W .any base t v)(hu:P.underlying t=some (.struct fs)):∃cs,v= .agg cs:=by
 unfold Value.okWide at h
 rw[hu]at h
 obtain⟨cs,e,_⟩:=h
 exact⟨cs,e⟩
theorem ag5{base:Nat}{t e:TypeId}{v:Value}(h:Value.okWide P W .any base t v)(hu:P.underlying t=some (.array n e)):∃cs,v= .agg cs:=by
 unfold Value.okWide at h
 rw[hu]at h
 obtain⟨cs,e,_⟩:=h
 exact⟨cs,e⟩
theorem ap3{ty:Ty}{t:TypeId}{base:Nat}{v:Value}(h:Value.okWide P W .any base t v)(hb:so P ty t=true)(hn:∀a b,ty≠ .cons a b)(hna:∀n k,ty≠ .arr n k):v.cells=#[v]:=by
 have hu:∀fs,P.underlying t≠some (.struct fs):=by
  intro fs hu;cases ty with
  |cons a b=>exact hn a b rfl
  |arr n k=>exact hna n k rfl
  |nil=>cases hb
  |_=>rw[so,hu]at hb;cases hb
 have hu2:∀n e,P.underlying t≠some (.array n e):=by
  intro n e hu;cases ty with
  |cons a b=>exact hn a b rfl
  |arr n k=>exact hna n k rfl
  |nil=>cases hb
  |_=>rw[so,hu]at hb;cases hb
 unfold Value.okWide at h
 split at h
 ·exact(hu _ (by assumption)).elim
 ·exact(hu2 _ _ (by assumption)).elim
 ·cases v<;>first|rfl|skip
  exfalso;unfold Cell.okWide at h;split at h<;>first|(rename_i e1 e2;cases e2;done)|skip
  unfold Cell.ok at h;split at h<;>first|(rename_i e1 e2;cases e2;done)|exact h
theorem bA5(hsp:∀b,sp b=true){ty:Ty}{t:TypeId}{base:Nat}{v:Value}{d:DataW H}{ps:List MemPlace}(hb:so P ty t=true)(h:DataW.Trod enc P W 0 sp held t v d ps)(hv:Value.okWide P W .any base t v)(hC:W.heap.size≤C)
 (hd:ty.deep=true→ ∀a x,W.cell? a=some x→MM C x) (B:Nat):∃vs x,conc E0 (ty.arg vs)=v∧bd (· <C) (ty.arg vs)∧Rp (dV W C) .e C ty vs x∧(Gw P B t d→Sz B ty x):=by
 obtain⟨fuel,h⟩:=h
 obtain⟨vs,x,h1,h2⟩:=vg (B:=B) hsp hC ty t _ fuel _ hb h (fun _=>av6 hv hC) hd
 obtain⟨c1,c2⟩:=h1.conc
 refine⟨vs,x,?_,?_,h2⟩
 ·cases ty with
  |cons a b=>
   rw[so]at hb;split at hb
   ·rename_i fs hu;obtain⟨cs,rfl⟩:=bA2 hv hu;show Value.agg (aB E0 vs).toArray=_;rw[c1];simp[Value.cells]
   ·cases hb
  |arr n k=>
   rw[so]at hb;split at hb
   ·rename_i n' e hu;obtain⟨cs,rfl⟩:=ag5 hv hu;show Value.agg (aB E0 vs).toArray=_;rw[c1];simp[Value.cells]
   ·cases hb
  |nil=>cases hb
  |_=>
   have hc:=ap3 hv hb (by intro a b e;cases e) (by intro a b e;cases e);rw[hc]at c1 h1;have hl:=h1.len
   match vs,hl with
   |[w],_=>
    have:[conc E0 w]=[v]:=c1;injection this
 ·cases ty with
  |cons a b=>exact c2
  |arr n k=>exact c2
  |nil=>cases hb
  |_=>
   cases vs with
   |nil=>trivial
   |cons w r=>exact c2.1
def Od(F:RO)(C B:Nat):List Ty→List V→Prop
 |[],as0=>as0=[]
 |ty::r,as0=>∃vs x a',as0=ty.arg vs::a'∧(Rp F .e C ty vs x∧Sz B ty x)∧Od F C B r a'
theorem BV(hsp:∀b,sp b=true){base B:Nat}(hC:W.heap.size≤C):∀{Do:List Ty} {ts:List TypeId} {vs:List Value} {ds:List (DataW H)} {ps:List MemPlace},Nu P Do ts=true→DataW.TrodAll enc P W 0 sp held ts vs ds ps→
 (∀(j:Nat) t v,ts[j]?=some t→vs[j]?=some v→Value.okWide P W .any base t v)→(Do.any Ty.deep=true→ ∀a x,W.cell? a=some x→MM C x)→(∀n∈DataW.weightsEach P ts ds,n≤B)→ ∃as0,aB E0 as0=vs∧i9 (· <C) as0∧Od (dV W C) C B Do as0
 |[],[],[],ds,ps,hb,h,hv,hd,hw=>⟨[],rfl,trivial,rfl⟩
 |[],[],_::_,ds,ps,hb,h,hv,hd,hw=>by cases ds<;>cases h
 |[],_::_,vs,ds,ps,hb,h,hv,hd,hw=>by cases hb
 |_::_,[],vs,ds,ps,hb,h,hv,hd,hw=>by cases hb
 |ty::Do,t::ts,[],ds,ps,hb,h,hv,hd,hw=>by cases ds<;>cases h
 |ty::Do,t::ts,v::vs,[],ps,hb,h,hv,hd,hw=>by cases h
 |ty::Do,t::ts,v::vs,d::ds,ps,hb,h,hv,hd,hw=>by
  have hb':(so P ty t&&Nu P Do ts)=true:=hb;rw[aC]at hb';obtain⟨p,q,h1,h2,_⟩:=h;obtain⟨ws,x,g1,g2,g3,g4⟩:=bA5 hsp hb'.1 h1 (hv 0 t v rfl rfl) hC (fun hh=>hd (by rw[List.any_cons,hh];rfl)) B;obtain⟨as0,a1,a2,a3⟩:=BV hsp hC hb'.2 h2 (fun j t v ht hv'=>hv (j+1) t v ht hv') (fun hh=>hd (by rw[List.any_cons,hh];simp)) (fun n hn=>hw n (by rw[DataW.weightsEach];exact List.mem_append_right _ hn));exact⟨ty.arg ws::as0,by rw[aB,g1,a1],⟨g2,a2⟩,ws,x,as0,rfl,⟨g3,g4 fun n hn=>hw n (by rw[DataW.weightsEach];exact List.mem_append_left _ hn)⟩,a3⟩
theorem BR{W':World}(hW:∀i,i<W.heap.size→W'.heap[i]?=W.heap[i]?):∀{Do:List Ty} {ts:List TypeId} {vs:List Value} {ds:List (DataW H)} {ps:List MemPlace},Nu P Do ts=true→
 DataW.TrodAll enc P W 0 (fun _=>true) held ts vs ds ps→DataW.TrodAll enc P W' 0 (fun b=>decide (b<W.heap.size)) held ts vs ds ps
 |[],[],[],[],ps,hb,h=>h
 |[],[],[],_::_,ps,hb,h=>by cases h
 |[],[],_::_,ds,ps,hb,h=>by cases ds<;>cases h
 |[],_::_,vs,ds,ps,hb,h=>by cases hb
 |_::_,[],vs,ds,ps,hb,h=>by cases hb
 |ty::Do,t::ts,[],ds,ps,hb,h=>by cases ds<;>cases h
 |ty::Do,t::ts,v::vs,[],ps,hb,h=>by cases h
 |ty::Do,t::ts,v::vs,d::ds,ps,hb,h=>by
  have hb':(so P ty t&&Nu P Do ts)=true:=hb;rw[aC]at hb';obtain⟨p,q,⟨fuel,h1⟩,h2,e⟩:=h;exact⟨p,q,⟨fuel,p9 hW ty t _ fuel _ hb'.1 h1⟩,BR hW hb'.2 h2,e⟩
theorem Yk{W:World}{C:Nat}(hC:W.heap.size≤C)(hk:1000≤C):cO (dV W C) .e C:=by
 refine⟨fun _ _=>rfl,fun b hb=>?_,fun _ _=>rfl,hk⟩
 rw[jO,Array.getElem?_eq_none (by omega)];rfl
def am4:Value→Nat
 | .slice (some a) 0 0=>BP a+1
 |_=>0
theorem C0:∀l:List Value,∃B,∀x∈l,am4 x≤B
 |[]=>⟨0,fun x hx=>by cases hx⟩
 |v::l=>by
  obtain⟨B,hB⟩:=C0 l;refine⟨max (am4 v) B,fun x hx=>?_⟩;rcases bv.1 hx with rfl|hx
  ·exact Nat.le_max_left _ _
  ·exact bF (hB x hx) (Nat.le_max_right _ _)
theorem BZ:∀l:List Obj,∃B,∀cs t f,Obj.cells cs t f∈l→ ∀x∈cs.toList,am4 x≤B
 |[]=>⟨0,fun cs t f h=>by cases h⟩
 |o::l=>by
  obtain⟨B,hB⟩:=BZ l;obtain⟨B',hB'⟩:∃B',∀cs t f,o=Obj.cells cs t f→ ∀x∈cs.toList,am4 x≤B':=by
   cases o with
   |cells cs t f=>
    obtain⟨B',h⟩:=C0 cs.toList;exact⟨B',fun cs' t' f' e=>by injection e with e1 e2 e3;subst e1;exact h⟩
   |_=>exact⟨0,fun cs t f e=>by cases e⟩
  refine⟨max B B',fun cs t f h x hx=>?_⟩;rcases bv.1 h with h|h
  ·exact bF (hB' cs t f h.symm x hx) (Nat.le_max_right _ _)
  ·exact bF (hB cs t f h x hx) (Nat.le_max_left _ _)
theorem bG2(W:World):∃C,1000≤C∧W.heap.size≤C∧ ∀a x,W.cell? a=some x→MM C x:=by
 obtain⟨B,hB⟩:=BZ W.heap.toList
 refine⟨max 1000 (max W.heap.size B),Nat.le_max_left _ _,bF (Nat.le_max_left _ _) (Nat.le_max_right _ _),fun a x hx=>?_⟩
 unfold World.cell? at hx
 split at hx
 ·rename_i cs t f hh;split at hx
  ·cases hx
  ·have hm:Obj.cells cs t f∈W.heap.toList:=by
    obtain⟨h1,h2⟩:=Array.getElem?_eq_some_iff.1 hh;rw[←h2];exact Array.getElem_mem_toList h1
   have hxm:x∈cs.toList:=by
    obtain⟨h1,h2⟩:=Array.getElem?_eq_some_iff.1 hx;rw[←h2];exact Array.getElem_mem_toList h1
   have hb:=hB cs t f hm x hxm;unfold MM;split
   ·rename_i a';have hb':BP a'+1≤B:=hb;right;have:=Nat.le_max_right 1000 (max W.heap.size B);have:=Nat.le_max_right W.heap.size B;omega
   ·trivial
 ·cases hx
theorem vO{x:(Ty.sl (.int .u8)).D}(h:Rp F M c (.sl (.int .u8)) vs x):∃v,∃l:List UInt8,vs=[v]∧fC F M c v l∧l.length≤9223372036854775807:=by
 obtain⟨v,es,rfl,hs,hl,he,hr⟩:=h
 have key:∀(es:List (List V)) (xs:List Int),es.length=xs.length→(∀i (h:i<es.length) (h':i<xs.length),es[i]=[V.i .u8 xs[i]]∧IntKind.u8.min≤xs[i]∧xs[i]≤IntKind.u8.max)→ ∃l:List UInt8,es=l.map fun x=>[bV x]:=by
  intro es
  induction es with
  |nil=>intro xs _ _;exact⟨[],rfl⟩
  |cons e es ih=>
   intro xs hl h;cases xs with
   |nil=>cases hl
   |cons z xs=>
    obtain⟨l,rfl⟩:=ih xs (by simpa using hl) (fun i hi hi'=>h (i+1) (by simpa using hi) (by simpa using hi'));obtain⟨h1,h2,h3⟩:=h 0 (by simp) (by simp);simp only[List.getElem_cons_zero]at h1 h2 h3;have h2':0≤z:=h2;have h3':z≤255:=h3;refine⟨UInt8.ofNat z.toNat::l,?_⟩;rw[List.map_cons,h1]
    congr 1
    unfold bV;rw[UInt8.toNat_ofNat',Nat.mod_eq_of_lt (by omega)]
    congr 2
    omega
 obtain⟨l,rfl⟩:=key es x he hr
 refine⟨v,l,rfl,hs,?_⟩
 rw[List.length_map]at he
 have hl':List.length x≤2^63-1:=hl
 have:List.length x=l.length:=he.symm
 omega
end
section
variable{Φ:Nat→Option CF}{rd:Option Nat}{fn:Nat}{F:RO}
def Ff:pW→Ex
 | .none=> .nrm
 | .ret=> .ret
 | .ext id=> .ext id
def RfQ(t:T)(d:List Nat)(l:Nat)(Q:Ex→St→Prop)(M:Mem)(c:Nat):Prop:=
 ∃s pe fn tm ps a b dn,M.get l=some (.loop s pe fn tm ps a b dn)∧s≠ .busy∧Q (Ff pe) (.mk t d (M.set l (.loop .exhausted pe fn tm ps a b dn)) c)
theorem ay3{f:X}{ps:List aM}{asg body:CC}{d:List Nat}{l dn:Nat}{Q:Ex→St→Prop}
 (h:tF (jt (K Φ rd fn F) (f.ev t) [.y l] (M.set l (.loop .ready .none fn t ps asg body dn)) (l+1)) fun _ M' c'=>RfQ t d l Q M' c'):
 ∃e s',og f ps asg body (K Φ rd fn F) t d M l dn= .k e s'∧Q e s':=by
 obtain⟨v,M',c',he,s,pe,fn',tm,ps',a,b,dn',hl,hs,hq⟩:=h
 refine⟨Ff pe,_,?_,hq⟩
 show(M.set l (.loop .ready .none fn t ps asg body dn)).force (fun M=>fN (Nat.succ l) fun c=>lb t d l (jt (K Φ rd fn F) (f.ev t) [.y l] M c))=_
 rw[Tr.force_eq,b9]
 show lb t d l (jt (K Φ rd fn F) (f.ev t) [.y l] (M.set l (.loop .ready .none fn t ps asg body dn)) (l+1))=_
 rw[he]
 show CS t d M' c' l (dR (M'.get l))=_
 rw[hl]
 show CS t d M' c' l (.k s pe fn' tm ps' a b dn')=_
 cases s with
 |busy=>exact absurd rfl hs
 |_=>
  show(M'.set l (.loop .exhausted pe fn' tm ps' a b dn')).force (fun M=>xp (.mk t d M c') pe)=_;rw[Tr.force_eq];cases pe<;>rfl
theorem cc4{f:X}{ps:List aM}{asg body:CC}{d:List Nat}{Q:Ex→St→Prop}
 (h:tF (jt (K Φ none fn F) (f.ev t) [.y (c+1)] ((M.set c (.defs false)).set (c+1) (.loop .ready .none fn t ps asg body c)) (c+2)) fun _ M' c'=>RfQ t (c::d) (c+1) Q M' c'):
 Wp (.rf f ps asg body) (K Φ none fn F) (.mk t d M c) Q:=by
 obtain⟨e,s',h1,h2⟩:=ay3 h
 refine⟨e,s',?_,h2⟩
 show(M.set c (.defs false)).force (fun M=>fN (Nat.succ c) fun c'=>og f ps asg body (K Φ none fn F) t (c::d) M c' c)=_
 rw[Tr.force_eq,b9]
 exact h1
theorem ao8(f:Nat)(first caps args:List V)(M:Mem)(c:Nat):jt (K Φ rd fn F) (.f f first caps) args M c=eX (lU Φ) F f (first++(args++caps)) M c (Φ f):=rfl
def YQ(l:Nat)(P:V→Mem→Nat→Prop)(e:Ex)(s:St):Prop:=
 ∃t' M' c' s0 pe fn tm ps a b dn,s= .mk t' [] M' c'∧M'.get l=some (.loop s0 pe fn tm ps a b dn)∧match e with
  | .nrm=>P (.b true) (M'.set l (.loop .ready .none fn tm ps a b dn)) c'
  | .ret=>P (.b false) (M'.set l (.loop .done .ret fn tm ps a b dn)) c'
  | .ext id=>P (.b false) (M'.set l (.loop .done (.ext id) fn tm ps a b dn)) c'
  | .gto _=>False
theorem ab2{l fn':Nat}{args:List V}{P:V→Mem→Nat→Prop}{pe:pW}{tm:T}{ps:List aM}{asg body:CC}{dn:Nat}(hl:M.get l=some (.loop .ready pe fn' tm ps asg body dn))(hp:di ps args tm=some t)
 (h:Wp asg (K Φ (some l) fn' F) (.mk t [] M c) fun e s=>e= .nrm∧ ∃t1 M1 c1 pe1 fn1 tm1 ps1 a1 b1 dn1,s= .mk t1 [] M1 c1∧M1.get l=some (.loop .ready pe1 fn1 tm1 ps1 a1 b1 dn1)∧Wp body (K Φ (some l) fn' F) (.mk t1 [] (M1.set l (.loop .busy pe1 fn1 tm1 ps1 a1 b1 dn1)) c1) (YQ l P)):
 tF (nb (K Φ rd fn F) (.y l) args M c) P:=by
 obtain⟨e,s,ha,rfl,t1,M1,c1,pe1,fn1,tm1,ps1,a1,b1,dn1,rfl,hl1,e2,s2,hb,t',M',c',s0,pe',fn2,tm2,ps2,a2,b2,dn2,rfl,hl2,hq⟩:=h
 have e1:nb (K Φ rd fn F) (.y l) args M c=lg l (.k e2 (.mk t' [] M' c')):=by
  show rk (K Φ rd fn F) l args M c (dR (M.get l))=_;rw[hl];show Df (K Φ rd fn F) l fn' asg body M c (di ps args tm)=_;rw[hp];show nv (K Φ rd fn F) l fn' body (lU Φ (some l) fn' F asg (.mk t [] M c))=_;rw[vZ,ha];show qN (K Φ rd fn F) l fn' body t1 M1 c1 (dR (M1.get l))=_;rw[hl1];show(M1.set l (.loop .busy pe1 fn1 tm1 ps1 a1 b1 dn1)).force (fun M=>lg l (lU Φ (some l) fn' F body (.mk t1 [] M c1)))=_;rw[Tr.force_eq,vZ,hb]
 rw[e1]
 cases e2 with
 |nrm=>
  refine⟨_,_,_,?_,hq⟩;show uf M' l c' .ready .none true (dR (M'.get l))=_;rw[hl2];show(M'.set l (.loop .ready .none fn2 tm2 ps2 a2 b2 dn2)).force (fun M=>RC.k (.b true) M c')=_;rw[Tr.force_eq]
 |ret=>
  refine⟨_,_,_,?_,hq⟩;show uf M' l c' .done .ret false (dR (M'.get l))=_;rw[hl2];show(M'.set l (.loop .done .ret fn2 tm2 ps2 a2 b2 dn2)).force (fun M=>RC.k (.b false) M c')=_;rw[Tr.force_eq]
 |ext id=>
  refine⟨_,_,_,?_,hq⟩;show uf M' l c' .done (.ext id) false (dR (M'.get l))=_;rw[hl2];show(M'.set l (.loop .done (.ext id) fn2 tm2 ps2 a2 b2 dn2)).force (fun M=>RC.k (.b false) M c')=_;rw[Tr.force_eq]
 |gto l=>exact hq.elim
def cf1(Φ:Nat→Option CF)(F:RO)(l fn':Nat)(body:CC)(P:V→Mem→Nat→Prop)(e:Ex)(s:St):Prop:=
 e= .nrm∧ ∃t1 M1 c1 pe1 fn1 tm1 ps1 a1 b1 dn1,s= .mk t1 [] M1 c1∧M1.get l=some (.loop .ready pe1 fn1 tm1 ps1 a1 b1 dn1)∧Wp body (K Φ (some l) fn' F) (.mk t1 [] (M1.set l (.loop .busy pe1 fn1 tm1 ps1 a1 b1 dn1)) c1) (YQ l P)
theorem ah1{l fn':Nat}{body:CC}{P:V→Mem→Nat→Prop}{t1:T}{pe1:pW}{fn1:Nat}{tm1:T}{ps1:List aM}{a1 b1:CC}{dn1:Nat}(hl:M1.get l=some (.loop .ready pe1 fn1 tm1 ps1 a1 b1 dn1))
 (h:Wp body (K Φ (some l) fn' F) (.mk t1 [] (M1.set l (.loop .busy pe1 fn1 tm1 ps1 a1 b1 dn1)) c1) (YQ l P)):cf1 Φ F l fn' body P .nrm (.mk t1 [] M1 c1):=⟨rfl,_,_,_,_,_,_,_,_,_,_,rfl,hl,h⟩
theorem ab1{l fn':Nat}{args:List V}{P:V→Mem→Nat→Prop}{pe:pW}{tm:T}{ps:List aM}{asg body:CC}{dn:Nat}(hl:M.get l=some (.loop .ready pe fn' tm ps asg body dn))(hp:di ps args tm=some t)
 (h:Wp asg (K Φ (some l) fn' F) (.mk t [] M c) (cf1 Φ F l fn' body P)):tF (nb (K Φ rd fn F) (.y l) args M c) P:=ab2 hl hp h
theorem cd2{l:Nat}{P:V→Mem→Nat→Prop}{t':T}{s0:LS}{pe:pW}{tm:T}{ps:List aM}{a b:CC}{dn:Nat}(hl:M'.get l=some (.loop s0 pe fn tm ps a b dn))(h:P (.b true) (M'.set l (.loop .ready .none fn tm ps a b dn)) c'):YQ l P .nrm (.mk t' [] M' c'):=
 ⟨_,_,_,_,_,_,_,_,_,_,_,rfl,hl,h⟩
theorem B0{d:Nat}{r:List Nat}(h:M.get d=some (.defs false)):cV (d::r) M=cV r (M.set d (.defs true)):=by
 show Option.rec (motive:=fun _=>Option Mem) none (fun blk=>xJ (cV r) M d blk) (M.get d)=_
 rw[h]
 show xJ (cV r) M d (.defs false)=_
 unfold xJ
 show(M.set d (.defs true)).force (fun M=>cV r M)=_
 rw[Tr.force_eq]
theorem sR(F:RO)(res:List RV)(Post:V→Mem→Nat→Prop)(t:T)(d:List Nat)(M:Mem)(c:Nat):dA F res Post .ret (.mk t d M c)=Oi (cV d M) F t res c Post:=rfl
theorem sQ(M:Mem)(t:T)(res:List RV)(c:Nat)(Post:V→Mem→Nat→Prop):Oi (some M) F t res c Post=Lh (fj F M t res) M c Post:=rfl
theorem AH{α:Type}(v w:Option α):∀(t:Tr α) (k:Nat) (x:α),t.get k=some x→(t.put v k).put w k=t.put w k
 | .e,k,x,h=>by cases h
 | .n l y r,k,x,h=>by
   rw[Tr.put_n,Tr.put_n];rw[Tr.get_n]at h;by_cases h0:k=0
   ·rw[ae h0,ae h0,Tr.put_n,ae h0]
   ·rw[ab h0]at h;rw[ab h0,ab h0];by_cases h2:k%2=0
    ·rw[ae h2]at h;rw[ae h2,ae h2,Tr.put_n,ab h0,ae h2,AH v w r _ x h]
    ·rw[ab h2]at h;rw[ab h2,ab h2,Tr.put_n,ab h0,ab h2,AH v w l _ x h]
theorem ap8{x:bL}(h:M.get b=some x):(M.del b).set b x=M:=by
 show((M.put none b).put (some x) b)=M
 rw[AH _ _ M b x h,rS x M b h]
theorem mK{M:Mem}(b:Nat):∀{F:RO},ce M F=true→ce (M.del b) F=true
 |[],_=>rfl
 |(b',x)::F,h=>by
  rw[fQ,aC]at h;rw[fQ,mK b h.2,Tr.get_del];split
  ·rfl
  ·rw[h.1];rfl
theorem jd(mask:Nat):∀(reads:List (Nat×Nat)) (F:RO) (M:Mem) (s:List (Nat×bL)),ce M F=true→ ∃F' M' s',bO mask reads F M s=Pr.mk F' M' s'∧ce M' F'=true∧bc s' M'=bc s M
 |[],F,M,s,h=>⟨F,M,s,rfl,h,rfl⟩
 |(i,b)::r,F,M,s,h=>by
  rw[bO];cases testBit mask i with
  |true=>exact jd mask r F M s h
  |false=>
   show∃F' M' s',(match M.get b with|none=>bO mask r F M s|some blk=>(M.del b).force fun M=>bO mask r ((b,blk)::F) M ((b,blk)::s))=Pr.mk F' M' s'∧_;cases hb:M.get b with
   |none=>exact jd mask r F M s h
   |some blk=>
    obtain⟨F',M',s',h1,h2,h3⟩:=jd mask r ((b,blk)::F) (M.del b) ((b,blk)::s) (by
     rw[fQ,mK b h,Tr.get_del,ae rfl];rfl)
    refine⟨F',M',s',?_,h2,?_⟩
    ·show(M.del b).force (fun M=>bO mask r ((b,blk)::F) M ((b,blk)::s))=_;rw[Tr.force_eq];exact h1
    ·rw[h3];show((M.del b).set b blk).force (fun M=>bc s M)=_;rw[Tr.force_eq,ap8 hb]
def Ok(o:Option V)(p:Option aM)(base:Nat)(r:List (Nat×Nat×CO))(k:Kn)(t:T)(M:Mem)(c:Nat)(reads:List (Nat×Nat))(R:DS→Prop):Prop:=match o with
 |some v=>oH base r k (.mk (setT t p v) M c [] reads) R
 |none=>False
theorem cL1(v:V)(p:Option aM)(base:Nat)(r:List (Nat×Nat×CO))(k:Kn)(t:T)(M:Mem)(c:Nat)(reads:List (Nat×Nat))(R:DS→Prop):Ok (some v) p base r k t M c reads R=oH base r k (.mk (setT t p v) M c [] reads) R:=Eq.trans rfl (Eq.refl _)
theorem d81{base mask:Nat}{dst:Option aM}{o:OK}{g:aM}{want:Bool}{r:List (Nat×Nat×CO)}{R:DS→Prop}(hg:cS t g= .b want):
 oH base ((i,mask,.mk dst o (some (g,want)))::r) k (.mk t M c pend reads) R=oH base ((i,mask,.mk dst o none)::r) k (.mk t M c pend reads) R:=by
 have hw:wanted t (some (g,want))=true:=by
  show iw want (cS t g)=_;rw[hg];cases want<;>rfl
 have hs:ut k base (i,mask,.mk dst o (some (g,want))) (.mk t M c pend reads)=ut k base (i,mask,.mk dst o none) (.mk t M c pend reads):=by
  show(bif wanted t (some (g,want))then _ else _)=_;rw[hw];rfl
 apply propext
 rw[fZ,fZ,hs]
theorem d80{base mask:Nat}{dst:Option aM}{o:OK}{g:aM}{want:Bool}{r:List (Nat×Nat×CO)}{R:DS→Prop}(hg:cS t g= .b (!want)):
 oH base ((i,mask,.mk dst o (some (g,want)))::r) k (.mk t M c pend reads) R=oH base r k (.mk (setT t dst undef) M c pend reads) R:=by
 have hw:wanted t (some (g,want))=false:=by
  show iw want (cS t g)=_;rw[hg];cases want<;>rfl
 have hs:ut k base (i,mask,.mk dst o (some (g,want))) (.mk t M c pend reads)=some (.mk (setT t dst undef) M c pend reads):=by
  show(bif wanted t (some (g,want))then _ else(setT t dst undef).force fun t=>some (DS.mk t M c pend reads))=_;rw[hw];show(setT t dst undef).force (fun t=>some (DS.mk t M c pend reads))=_;rw[Tr.force_eq]
 apply propext
 rw[fZ,hs]
 constructor
 ·rintro⟨s',h,q⟩;obtain rfl:=ag h;exact q
 ·exact fun q=>⟨_,rfl,q⟩
theorem d82{base mask:Nat}{dst:Option aM}{o:OK}{g:aM}{want:Bool}{r:List (Nat×Nat×CO)}{R:DS→Prop}(hg:cS t g=undef):
 oH base ((i,mask,.mk dst o (some (g,want)))::r) k (.mk t M c pend reads) R=oH base r k (.mk (setT t dst undef) M c pend reads) R:=by
 have hw:wanted t (some (g,want))=false:=by
  show iw want (cS t g)=_;rw[hg];rfl
 have hs:ut k base (i,mask,.mk dst o (some (g,want))) (.mk t M c pend reads)=some (.mk (setT t dst undef) M c pend reads):=by
  show(bif wanted t (some (g,want))then _ else(setT t dst undef).force fun t=>some (DS.mk t M c pend reads))=_;rw[hw];show(setT t dst undef).force (fun t=>some (DS.mk t M c pend reads))=_;rw[Tr.force_eq]
 apply propext
 rw[fZ,hs]
 constructor
 ·rintro⟨s',h,q⟩;obtain rfl:=ag h;exact q
 ·exact fun q=>⟨_,rfl,q⟩
theorem bK7(n:Nat)(b o:Nat)(M:Mem)(h:loadN F M b o n=some vs)(t:T)(x:X)(hx:x.ev t= .p b o):oM (.ldn n x) F M t= .r (.g vs) b:=by
 have hblk:∃blk,look F M b=some blk:=by
  unfold loadN at h;cases hl:look F M b with
  |none=>rw[hl]at h;cases h
  |some blk=>exact⟨blk,rfl⟩
 obtain⟨blk,hb⟩:=hblk
 have q:∀F' M',loadN F' M' b o n=some vs→dh (.ldn n x) F' M' t= .r (.g vs) b:=by
  intro F' M' h';show(t8 (x.ev t) .f fun b o=>qgb b (loadN F' M' b o n))=_;rw[hx];show qgb b (loadN F' M' b o n)=_;rw[h'];rfl
 show EA (.ldn n x) F M t (dh (.ldn n x) F M t)=_
 rw[q F M h]
 show Xf (.ldn n x) t b (look F M b)=_
 rw[hb]
 show CJ b (dh (.ldn n x) [(b,blk)] .e t)=_
 have h':loadN [(b,blk)] .e b o n=some vs:=by
  unfold loadN at h⊢;rw[hb]at h;rw[aQ (show(Tr.e:Mem).get b=none from rfl),dq,ae rfl];exact h
 rw[q _ _ h'];rfl
def cG1(n:Nat)(X:V)(F:RO)(M:Mem):QR:=oM (.ldn n (.c X)) F M .e
def cG2(b:Nat):Option (List V)→QR
 |some vs=> .r (.g vs) b
 |none=> .f
theorem Mw(b:Nat)(vs:List V):cG2 b (some vs)= .r (.g vs) b:=Eq.trans rfl (Eq.refl _)
theorem aq1(n:Nat)(x:X)(M:Mem)(t:T):oM (.ldn n x) F M t=cG1 n (x.ev t) F M:=Eq.trans rfl (Eq.refl _)
theorem bK6(n b o:Nat)(M:Mem):cG1 n (.p b o) F M=cG2 b (loadN F M b o n):=by
 cases h:loadN F M b o n with
 |some vs=>exact bK7 n b o M h .e _ rfl
 |none=>
  show EA (.ldn n (.c (.p b o))) F M .e (qgb b (loadN F M b o n))=_;rw[h];rfl
theorem cA7(c a b:X)(M:Mem)(t:T):oM (.pk c a b) F M t=oV (pkV (c.ev t) (a.ev t) (b.ev t)):=by
 refine(ij ?_).trans (congrArg oV (cT2 (F:=F) c a b M t))
 intro F' M'
 show(Fa (c.ev t) QR.f fun x=>Bool.rec (motive:=fun _=>QR) (.v (b.ev t)) (.v (a.ev t)) x)=oV (Fa (c.ev t) QR.f fun x=>Bool.rec (motive:=fun _=>QR) (.v (b.ev t)) (.v (a.ev t)) x).val
 cases c.ev t with
 |b x=>cases x<;>rfl
 |_=>rfl
theorem cA8(op:UnOp)(x:X)(M:Mem)(t:T):oM (.un op x) F M t=oV (unV op (x.ev t)):=by
 refine(ij ?_).trans (congrArg oV (cT3 (F:=F) op x M t))
 intro F' M'
 refine nq ?_
 show(dh (.un op x) F' M' t= .f∨_)
 cases op with
 |neg=>
  show((wO (x.ev t) QR.f fun k n=>vI k (wr k (Int.sub 0 n)))= .f∨ ∃y,(wO (x.ev t) QR.f fun k n=>vI k (wr k (Int.sub 0 n)))= .v y);cases x.ev t with
  |i k n=>exact .inr ⟨_,fe _ _⟩
  |_=>exact .inl rfl
 |not=>
  show((Fa (x.ev t) QR.f fun b=>vB (t6 b))= .f∨ ∃y,(Fa (x.ev t) QR.f fun b=>vB (t6 b))= .v y);cases x.ev t with
  |b b=>exact .inr ⟨_,nu _⟩
  |_=>exact .inl rfl
 |xor=>
  show((wO (x.ev t) QR.f fun k n=>kJ k (Nat.xor (Nat.sub (Nat.pow 2 (kd k)) 1) (toU k n)))= .f∨ ∃y,(wO (x.ev t) QR.f fun k n=>kJ k (Nat.xor (Nat.sub (Nat.pow 2 (kd k)) 1) (toU k n)))= .v y);cases x.ev t with
  |i k n=>exact .inr ⟨_,fe _ _⟩
  |_=>exact .inl rfl
 |plus=>exact .inl rfl
def xw:Sh→Bool
 | .ptr=>false
 | .agg _=>false
 |_=>true
def u9:List (Nat×Sh)→Bool
 |[]=>true
 |(_,s)::r=>xw s&&u9 r
def Nk:Sh→Bool
 | .ptr=>false
 | .agg ks=>u9 ks
 |_=>true
theorem Xp{sh:Sh}(h:xw sh=true)(F':RO)(M M':Mem)(lit:Bool)(x y:V):Jn F' M' sh lit x y=Jn F M sh lit x y:=by
 cases sh<;>first|rfl|cases h
theorem wc(F':RO)(M M':Mem)(xs ys:List V):∀{ks:List (Nat×Sh)},u9 ks=true→ng F' M' xs ys ks=ng F M xs ys ks
 |[],_=>rfl
 |(o,s)::r,h=>by
  have h':(xw s&&u9 r)=true:=h;rw[aC]at h';rw[qj,qj,wc F' M M' xs ys h'.2]
  congr 1
  cases xs[o]? with
  |none=>rfl
  |some x=>
   cases ys[o]? with
   |none=>rfl
   |some y=>exact Xp h'.1 F' M M' false x y
theorem Xs{sh:Sh}(h:Nk sh=true)(F':RO)(M M':Mem)(lit:Bool)(x y:V):yR F' M' sh lit x y=yR F M sh lit x y:=by
 cases sh with
 |agg ks=>
  show yP F' M' ks x y=yP F M ks x y;unfold yP;cases x<;>first|rfl|skip
  cases y<;>first|rfl|skip
  exact wc F' M M' _ _ h
 |ptr=>cases h
 |_=>rfl
theorem cA3(neg:Bool)(sh:Sh)(lit:Bool)(x y:X)(M:Mem)(t:T)(h:Nk sh=true):oM (.eq neg sh lit x y) F M t=oV (au9 neg (yR F M sh lit (x.ev t) (y.ev t))):=by
 refine(ij ?_).trans (congrArg oV (cS3 (F:=F) neg sh lit x y M t))
 intro F' M'
 show zq neg (yR F' M' sh lit (x.ev t) (y.ev t))=oV (zq neg (yR [] .e sh lit (x.ev t) (y.ev t))).val
 rw[Xs (F:=[]) h F' .e M']
 refine nq ?_
 cases yR [] .e sh lit (x.ev t) (y.ev t)with
 |none=>exact .inl rfl
 |some r=>exact .inr ⟨_,nu _⟩
theorem YT(ks:List (Nat×Sh)):Nk (.agg ks)=u9 ks:=rfl
theorem Np:u9 []=true:=Eq.trans rfl (Eq.refl _)
theorem Fz(o:Nat)(s:Sh)(r:List (Nat×Sh)):u9 ((o,s)::r)=(xw s&&u9 r):=rfl
theorem Nl:xw .int=true:=Eq.trans rfl (Eq.refl _)
theorem Fy:xw .bool=true:=Eq.trans rfl (Eq.refl _)
theorem Nm:xw .str=true:=Eq.trans rfl (Eq.refl _)
theorem YU:Nk .int=true:=Eq.trans rfl (Eq.refl _)
theorem Nn:Nk .bool=true:=Eq.trans rfl (Eq.refl _)
theorem YV:Nk .str=true:=Eq.trans rfl (Eq.refl _)
theorem Xr(lit:Bool)(M:Mem)(a b:Bool):yR F M .bool lit (.b a) (.b b)=some (decide (a=b)):=C8 (F:=F) lit M a b
theorem cA5(off:Nat)(x:X)(M:Mem)(t:T):oM (.fa off x) F M t=oV (match x.ev t with| .p b o=>some (.p b (o+off))|_=>none):=by
 refine(ij ?_).trans (congrArg oV (cS5 (F:=F) off x M t))
 intro F' M'
 refine nq ?_
 show((t8 (x.ev t) QR.f fun b o=>uX b (Nat.add o off))= .f∨ ∃y,(t8 (x.ev t) QR.f fun b o=>uX b (Nat.add o off))= .v y)
 cases x.ev t with
 |p b o=>exact .inr ⟨.p b (o+off),by show uX b (o+off)=_;unfold uX;rw[b9]⟩
 |_=>exact .inl rfl
theorem bH2(x:X)(M:Mem)(t:T):oM (.ln .slice x) F M t=oV (l6 (x.ev t)):=by
 refine(ij ?_).trans (congrArg oV ((bP8 (F:=F) .slice x M t).trans (cG5 (F:=F) M _)))
 intro F' M'
 refine nq ?_
 show(Kd (EZ (x.ev t))= .f∨ ∃y,Kd (EZ (x.ev t))= .v y)
 cases EZ (x.ev t)with
 |none=>exact .inl rfl
 |some n=>exact .inr ⟨_,rfl⟩
theorem bH3(x:X)(M:Mem)(t:T):oM (.ln .str x) F M t=oV (lnV .str F M (x.ev t)):=by
 refine(ij ?_).trans (congrArg oV (bP8 (F:=F) .str x M t))
 intro F' M'
 refine nq ?_
 show((tY (x.ev t) QR.f fun n _=> .v (.i .i64 (.ofNat n)))= .f∨ ∃y,(tY (x.ev t) QR.f fun n _=>QR.v (.i .i64 (.ofNat n)))= .v y)
 cases x.ev t with
 |s n x=>exact .inr ⟨_,rfl⟩
 |_=>exact .inl rfl
theorem bG9(x i:X)(M:Mem)(t:T):oM (.ixS x i) F M t=oV (Av (x.ev t) (i.ev t)):=by
 refine(ij ?_).trans (congrArg oV (bq4 (F:=F) x i M t))
 intro F' M'
 refine nq ?_
 show((tY (x.ev t) QR.f fun n s=>Option.rec (motive:=fun _=>QR) .f (fun i=>od n s i) (sF (i.ev t)))= .f∨ ∃y,(tY (x.ev t) QR.f fun n s=>Option.rec (motive:=fun _=>QR) .f (fun i=>od n s i) (sF (i.ev t)))= .v y)
 cases x.ev t with
 |s n x=>
  show(Option.rec (motive:=fun _=>QR) .f (fun i=>od n x i) (sF (i.ev t))= .f∨ ∃y,(Option.rec (motive:=fun _=>QR) .f (fun i=>od n x i) (sF (i.ev t)):QR)= .v y);cases sF (i.ev t)with
  |none=>exact .inl rfl
  |some k=>
   show(Bool.rec (motive:=fun _=>QR) .f (fN (Nat.mod (Nat.div x (jn k)) 256) fun c=> .v (.i .u8 (.ofNat c))) (Nat.blt k n)= .f∨ ∃y,(Bool.rec (motive:=fun _=>QR) .f (fN (Nat.mod (Nat.div x (jn k)) 256) fun c=> .v (.i .u8 (.ofNat c))) (Nat.blt k n):QR)= .v y);cases Nat.blt k n with
   |false=>exact .inl rfl
   |true=>exact .inr ⟨_,by show fN _ _=_;rw[b9]⟩
 |_=>exact .inl rfl
def uO(u:List (Option V))(i:Nat):Option V:=(u[i]?).join
def oq(I:Nat→St→Prop)(n:Nat)(Q:Ex→St→Prop):Ex→St→Prop
 | .nrm,s=>∃m,m<n∧I m s
 |e,s=>Q e s
theorem Ft(I:Nat→St→Prop)(n:Nat)(Q:Ex→St→Prop)(s:St):oq I n Q .nrm s=∃m,m<n∧I m s:=Eq.trans rfl (Eq.refl _)
theorem Fu(I:Nat→St→Prop)(n:Nat)(Q:Ex→St→Prop)(s:St):oq I n Q .ret s=Q .ret s:=Eq.trans rfl (Eq.refl _)
theorem Fs(I:Nat→St→Prop)(n:Nat)(Q:Ex→St→Prop)(s:St)(id:Nat):oq I n Q (.ext id) s=Q (.ext id) s:=Eq.trans rfl (Eq.refl _)
theorem bD{b:CC}{Q:Ex→St→Prop}(I:Nat→St→Prop)(h:∀n s,I n s→Wp b (K Φ rd fn F) s (oq I n Q)):∀n s,I n s→Wp (.loop b) (K Φ rd fn F) s Q:=
 Nz I fun n s hs=>(h n s hs).mono fun e s' he=>by cases e<;>exact he
end
section
variable{Φ:Nat→Option CF}{rd:Option Nat}{fn:Nat}{F:RO}
theorem Nt{fz:Nat}{ex str:Bool}{d:List V}(hM:M.get b=some (.cells ty n ex fz str d t))(h1:o+vs.length≤n)(h2:fz≤o)(h3:bj vs=true):
 dK M b o vs=some (M.set b (.cells ty n ex fz str d (bz vs o t))):=by
 show Option.rec (motive:=fun _=>Option Mem) none (fun blk=>oY M b o vs blk) (M.get b)=_
 rw[hM]
 show(Bool.rec (motive:=fun _=>Option Mem) none (Bool.rec (motive:=fun _=>Option Mem) none (Bool.rec (motive:=fun _=>Option Mem) none (fR M b o vs ty n ex fz str d t) (bj vs)) (Nat.ble fz o)) (Nat.ble (Nat.add o vs.length) n))=_
 rw[bb,bb,bb,cE,cE,af (show Nat.add o vs.length≤n from h1),af h2,h3]
 simp only[if_true]
 unfold fR
 rw[Tr.force_eq,Tr.force_eq]
def dH5(M:Mem)(c0 c b ty sz cap:Nat)(v:V)(es:List (List V)):Prop:=
 (∀e∈es,e.length=sz)∧es.length≤cap∧c0≤b∧b<c∧v= .l b 0 es.length cap∧ ∃d t,M.get b=some (.cells ty (cap*sz) true 0 false d t)∧ ∀k,k<es.flatten.length→cell (cap*sz) d t k=es.flatten[k]?
def dj8(ty sz bytes:Nat)(zero:List V)(l c:V)(b:Nat):Option (V×bL):=lz (.mks ty sz bytes zero (.c l) (.c c)) b .e
theorem af7(ty sz bytes:Nat)(zero:List V)(l c:X)(b:Nat)(t:T):lz (.mks ty sz bytes zero l c) b t=dj8 ty sz bytes zero (l.ev t) (c.ev t) b:=Eq.trans rfl (Eq.refl _)
def gh(F:RO)(M:Mem)(lo c sz:Nat)(v:V)(es:List (List V)):Prop:=∀M':Mem,(∀b,lo≤b→b<c→M'.get b=M.get b)→bG F M' c sz v es
theorem gh.sl{lo:Nat}(h:gh F M lo c sz v es):bG F M c sz v es:=h M fun _ _ _=>rfl
theorem gh.up{lo lo':Nat}(h:gh F M lo c sz v es)(hc:c≤c')(hl:lo'≤lo)(hM:∀b,lo≤b→b<c→M'.get b=M.get b):gh F M' lo' c' sz v es:=by
 intro M2 h2
 have h3:=h M2 fun b h1 h4=>(h2 b (by omega) (by omega)).trans (hM b h1 h4)
 rcases h3 with⟨a,b|⟨b,o,hv,hb,hcs⟩⟩
 ·exact⟨a,.inl b⟩
 ·exact⟨a,.inr ⟨b,o,hv,by omega,hcs⟩⟩
theorem gh.gr{lo:Nat}(h:gh F M lo c sz v es)(hg:Gr c M c' M'):gh F M' lo c' sz v es:=h.up hg.le (ak _) fun b _ hb=>hg.old b hb
theorem cA.own(h:cA M c0 c b ty sz v es):gh F M c0 c sz v es:=by
 intro M' hM
 refine cA.sl (c0:=c0) (b:=b) (ty:=ty) (M:=M') ?_
 rcases h with⟨h0,h|⟨h1,h2,rfl,h3⟩⟩
 ·exact⟨h0,.inl h⟩
 ·exact⟨h0,.inr ⟨h1,h2,rfl,by rw[hM b h1 h2];exact h3⟩⟩
theorem cO.put{x y:bL}(h:cO F M c)(hb:b<c)(hx:M.get b=some x):cO F (M.set b y) c:=by
 refine⟨fun b' hb'=>?_,h.hiF,fun b' hb'=>?_,h.ge⟩
 ·rw[az _ _ (by omega)];exact h.hiM b' hb'
 ·have:b'≠b:=by
   intro e;subst e;rw[h.ap b' hb']at hx;cases hx
  rw[az _ _ this];exact h.ap b' hb'
theorem bS{l:List V}(h:M.get b=some (au ty l))(o:Nat)(vs:List V)(h1:o+vs.length≤l.length)(h2:bj vs=true):dK M b o vs=some (M.set b (au ty (over l o vs))):=by
 have:=kT M b o ty l vs h1 h2
 rwa [←ot h]at this
theorem aj{l:List V}(h:M.get b=some (au ty l))(o:Nat):load1 F M b o=l[o]?:=by
 rw[ot h];exact qy M b o ty l
theorem lK{l:List V}(h:M.get b=some (au ty l))(n:Nat)(hn:l.length=n):loadN F M b 0 n=some l:=by
 rw[ot h,wG M b 0 n ty l (by omega),List.drop_zero,←hn,List.take_length]
theorem CA:Ff .none= .nrm:=Eq.trans rfl (Eq.refl _)
theorem Ny(a b:CC)(k:Kn)(t:T)(d:List Nat)(M:Mem)(c:Nat)(Q:Ex→St→Prop):Wp (.cond (.c (.b true)) a b) k (.mk t d M c) Q=Wp a k (.mk t d M c) Q:=Dd rfl
theorem Nx(a b:CC)(k:Kn)(t:T)(d:List Nat)(M:Mem)(c:Nat)(Q:Ex→St→Prop):Wp (.cond (.c (.b false)) a b) k (.mk t d M c) Q=Wp b k (.mk t d M c) Q:=Dc rfl
end
theorem ai{a b:Prop}(x:a)(y:b):a∧b:=⟨x,y⟩
def WL:=ai @aC6 (ai @WF (ai @yH (ai @bo0 (ai @Fr (ai @fQ (ai @az (ai @Tr.get_e (ai @Au (ai @Xk (ai @mt (ai @cc0 (ai @dB5 (ai @bM7 (ai @bM6 (ai @av3 (ai @cA6 (ai @cA2 (ai @bG6 (ai @cw2 (ai @cA4 (ai @bH0 (ai @cG0 (ai @XV (ai @bG8 (ai @cS8 (ai @cG5 (ai @bn6 (ai @XY (ai @fO (ai @XZ (ai @bP (ai @YP (ai @YR (ai @YO (ai @cc2 (ai @cc3 (ai @aC9 (ai @aC7 (ai @aa3 (ai @Ek (ai @El (ai @Ej (ai @ME (ai @MF (ai @MD (ai @cc1 (ai @dC2 (ai @dC0 (ai @dC1 (ai @da0 (ai @d86 (ai @d85 (ai @d87 (ai @Dd (ai @Dc (ai @du5 (ai @du3 (ai @du4 (ai @cL2 (ai @lS (ai @Nj (ai @dy9 (ai @cT2 (ai @cL0 (ai @cK9 (ai @aB0 (ai @sJ (ai @bE0 (ai @bD8 (ai @bD9 (ai @bD7 (ai @bD6 (ai @bE1 (ai @cT3 (ai @bP5 (ai @bP8 (ai @lnS (ai @bq4 (ai @cS9 (ai @cT0 (ai @cF9 (ai @cG4 (ai @qy (ai @cS5 (ai @Jk (ai @ar0 (ai @aD3 (ai @LN (ai @ev_t (ai @ev_c (ai @ar4 (ai @Xw (ai @Tr.setP_h (ai @Tr.setP_l (ai @Tr.setP_r (ai @bJ9 (ai @bK1 (ai @bK0 (ai @bK2 (ai @Xn (ai @Xo (ai @di9 (ai @Nb (ai @bN6 (ai @Eu (ai @Ym (ai @Yn (ai @Bool.not_true (ai @Bool.not_false (ai @Bool.false_eq_true (ai @Bool.true_eq_false (ai @decide_true (ai @decide_false (ai @Yt (ai @Yd (ai @Mf (ai @Mi (ai @Mn (ai @Ml (ai @EL (ai @Mj (ai @Mo (ai @EJ (ai @Mk (ai @EK (ai @Mg (ai @EI (ai @Mh (ai @DM (ai @d8 (ai @at3 (ai @at5 (ai @at9 (ai @at8 (ai @XM (ai @at6 (ai @au0 (ai @XL (ai @at7 (ai @at4 (ai @XK (ai @Bool.and_true (ai @Bool.true_and (ai @ar3 (ai @Cd (ai @Md (ai @wg (ai @rN (ai @fW (ai @Nat.zero_add (ai @and_self (ai @and_true (ai @true_and (ai @cS1 (ai @qE (ai @cS6 (ai @cS7 (ai @cS4 (ai @cS2 (ai @Lx (ai @LY (ai @LX (ai @qj (ai @bL4 (ai @bL5 (ai @cS3 (ai @aq7 (ai @aq8 (ai @aq5 (ai @C8 (ai @d99 (ai @ap0 (ai @cT1 (ai @ay2 (ai @ay1 (ai @Co (ai @Y1 (ai @wG (ai @kT (ai @FB (ai @MH (ai @af3 (ai @af6 (ai @Zl (ai @XO (ai @au7 (ai @au8 (ai @bL3 (ai @Nat.add_assoc (ai @aa7 (ai @bq6 (ai @dy6 (ai @af5 (ai @Xv (ai @sS (ai @Fd (ai @oc (ai @LG (ai @bq7 (ai @dj6 (ai @vJ (ai @vK (ai @Jo (ai @aq9 (ai @d81 (ai @d80 (ai @d82 (ai @aq1 (ai @bK6 (ai @Mw (ai @cA7 (ai @bH2 (ai @bH3 (ai @bG9 (ai @cA8 (ai @cA3 (ai @YT (ai @Np (ai @Fz (ai @Nl (ai @Fy (ai @Nm (ai @Xr (ai @YU (ai @Nn (ai @YV (ai @cA5 (ai @cL1 (ai @af7 (ai @Ny (ai @Nx (ai @Ft (ai @Fu (ai @Fs (ai @decide_eq_true_eq (ai @or_self (ai @or_true (ai @or_false (ai @true_or (ai @false_or (ai @and_false (@false_and))))))))))))))))))))))))))))))))))))))))))))))))))))))))))))))))))))))))))))))))))))))))))))))))))))))))))))))))))))))))))))))))))))))))))))))))))))))))))))))))))))))))))))))))))))))))))))))))))))))))))))))))))))))))))))))))))))))))))))))))))
def WM:=ai @cond_true.{1} (ai @cond_false.{1} (ai @List.getElem?_cons_zero.{0} (ai @List.getElem?_cons_succ.{0} (ai @Option.getD_some.{0} (ai @if_true.{1} (ai @if_false.{1} (ai @ite_true.{1} (ai @ite_false.{1} (ai @List.set_cons_zero.{0} (ai @List.set_cons_succ.{0} (ai @List.length_cons.{0} (ai @List.length_nil.{0} (ai @List.nil_append.{0} (ai @List.append_nil.{0} (ai @List.cons_append.{0} (ai @List.drop_zero.{0} (ai @List.take_succ_cons.{0} (ai @List.take_zero.{0} (ai @List.take_nil.{0} (ai @List.drop_succ_cons.{0} (ai @Option.map_some.{0,0} (ai @Option.isSome_some.{0} (@Option.map_none.{0,0})))))))))))))))))))))))
def WX:=ai @WL @WM
end
end Go.Proofs.YtcnblipfcihcpaaGreatDoor.Ev
