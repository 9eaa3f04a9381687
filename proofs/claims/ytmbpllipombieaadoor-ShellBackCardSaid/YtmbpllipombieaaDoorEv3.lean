/- What is proved here: pieces of the evaluator's soundness: if the evaluator comes to a value, the model's run comes to it, for every world and tape; no conditions beyond the hypotheses of each theorem. -/
import Derived.Test.YtmbpllipombieaaDoorEv2
import Derived.Lib.LaidTab
import GoSem.ClaimJoined
set_option linter.unusedSimpArgs false
set_option linter.unusedVariables false
set_option linter.defProp false
namespace Go.Proofs.YtmbpllipombieaaDoor.Ev
open Go
noncomputable section
def LR(a b:Rs):Prop:=a= .f∨a=b
def LC(a b:RC):Prop:=a= .f∨a=b
def LO{α:Type}(a b:Option α):Prop:=a=none∨a=b
def ip(ex ex':sP):Prop:=∀rd fn F c s,LR (ex rd fn F c s) (ex' rd fn F c s)
section
variable{Φ:Nat→Option CF}{ex ex':sP}{rd:Option Nat}{fn:Nat}{F:RO}
theorem Lk(h:ip ex ex')(F:RO)(f:Nat)(args:List V)(M:Mem)(c:Nat)(o:Option CF):LC (cS ex F f args M c o) (cS ex' F f args M c o):=by
 cases o with
 |none=>exact .inl rfl
 |some cf=>
  cases cf with
  |orc g=>exact .inr rfl
  |mk n res body=>
   show LC (kD res F (ex none f F body (.mk (bz n args) [] M c))) (kD res F (ex' none f F body (.mk (bz n args) [] M c)));rcases h none f F body (.mk (bz n args) [] M c)with e|e
   ·rw[e];exact .inl rfl
   ·rw[e];exact .inr rfl
theorem ra(h:ip ex ex')(f:Nat)(args:List V)(M:Mem)(c:Nat):LC (jU (.mk Φ ex rd fn F) f args M c) (jU (.mk Φ ex' rd fn F) f args M c):=Lk h F f args M c _
theorem FW(h:ip ex ex')(l fn':Nat)(body:CC)(t:T)(M:Mem)(c:Nat)(lp:Lp):LC (mQ (.mk Φ ex rd fn F) l fn' body t M c lp) (mQ (.mk Φ ex' rd fn F) l fn' body t M c lp):=by
 cases lp with
 |f=>exact .inl rfl
 |k s pe fn2 tm ps a b d=>
  cases s with
  |ready=>
   show LC ((M.set l (.loop .busy pe fn2 tm ps a b d)).force fun M=>iR l (ex (some l) fn' F body (.mk t [] M c))) ((M.set l (.loop .busy pe fn2 tm ps a b d)).force fun M=>iR l (ex' (some l) fn' F body (.mk t [] M c)));rw[Tr.force_eq,Tr.force_eq];rcases h (some l) fn' F body (.mk t [] (M.set l (.loop .busy pe fn2 tm ps a b d)) c)with e|e
   ·rw[e];exact .inl rfl
   ·rw[e];exact .inr rfl
  |_=>exact .inl rfl
theorem OM(h:ip ex ex')(l fn':Nat)(body:CC)(r:Rs):LC (k8 (.mk Φ ex rd fn F) l fn' body r) (k8 (.mk Φ ex' rd fn F) l fn' body r):=by
 cases r with
 |f=>exact .inl rfl
 |k e s=>
  cases e with
  |nrm=>
   obtain⟨t,d,M,c⟩:=s;cases d with
   |nil=>exact FW (Φ:=Φ) (rd:=rd) (fn:=fn) h l fn' body t M c _
   |cons _ _=>exact .inl rfl
  |_=>exact .inl rfl
theorem SA(h:ip ex ex')(l fn':Nat)(asg body:CC)(M:Mem)(c:Nat)(o:Option T):LC (yM (.mk Φ ex rd fn F) l fn' asg body M c o) (yM (.mk Φ ex' rd fn F) l fn' asg body M c o):=by
 cases o with
 |none=>exact .inl rfl
 |some t=>
  show LC (k8 (.mk Φ ex rd fn F) l fn' body (ex (some l) fn' F asg (.mk t [] M c))) (k8 (.mk Φ ex' rd fn F) l fn' body (ex' (some l) fn' F asg (.mk t [] M c)));rcases h (some l) fn' F asg (.mk t [] M c)with e|e
  ·rw[e];exact .inl rfl
  ·rw[e];exact OM h l fn' body _
theorem Ln(h:ip ex ex')(l:Nat)(args:List V)(M:Mem)(c:Nat)(lp:Lp):LC (nn (.mk Φ ex rd fn F) l args M c lp) (nn (.mk Φ ex' rd fn F) l args M c lp):=by
 cases lp with
 |f=>exact .inl rfl
 |k s pe fn2 tm ps a b d=>
  cases s with
  |ready=>exact SA h l fn2 a b M c _
  |_=>exact .inl rfl
theorem Lm(h:ip ex ex')(v:V)(args:List V)(M:Mem)(c:Nat):LC (iy (.mk Φ ex rd fn F) v args M c) (iy (.mk Φ ex' rd fn F) v args M c):=by
 cases v with
 |f g a b=>exact ra (Φ:=Φ) (rd:=rd) (fn:=fn) h g _ M c
 |y l=>exact Ln h l args M c _
 |_=>exact .inl rfl
theorem Ll(h:ip ex ex')(v:V)(args:List V)(M:Mem)(c:Nat):LC (gd (.mk Φ ex rd fn F) v args M c) (gd (.mk Φ ex' rd fn F) v args M c):=by
 cases v with
 |f g a b=>exact ra (Φ:=Φ) (rd:=rd) (fn:=fn) h g _ M c
 |_=>exact .inl rfl
theorem Lx(h:ip ex ex')(o:EO)(M:Mem)(c:Nat)(t:T):LC (eE o (.mk Φ ex rd fn F) M c t) (eE o (.mk Φ ex' rd fn F) M c t):=by
 cases o with
 |call f as=>exact ra (Φ:=Φ) (rd:=rd) (fn:=fn) h f _ M c
 |cv f as=>exact Lm h _ _ M c
 |_=>exact .inr rfl
theorem NC(h:ip ex ex')(o:OK)(dst:Option aJ)(t:T)(d:List Nat)(M:Mem)(c:Nat):LO (S9 o (.mk Φ ex rd fn F) dst t d M c) (S9 o (.mk Φ ex' rd fn F) dst t d M c):=by
 cases o with
 |q o=>exact .inr rfl
 |a o=>exact .inr rfl
 |e o=>
  show LO (th dst t d (eE o (.mk Φ ex rd fn F) M c t)) (th dst t d (eE o (.mk Φ ex' rd fn F) M c t));rcases Lx (Φ:=Φ) (rd:=rd) (fn:=fn) (F:=F) h o M c t with e|e
  ·rw[e];exact .inl rfl
  ·rw[e];exact .inr rfl
theorem Nm(h:ip ex ex')(o:CO)(s:St):LO (dE o (.mk Φ ex rd fn F) s) (dE o (.mk Φ ex' rd fn F) s):=by
 obtain⟨dst,op,g⟩:=o
 obtain⟨t,d,M,c⟩:=s
 cases g with
 |none=>exact NC h op dst t d M c
 |some g=>
  show LO (Yw op (.mk Φ ex rd fn F) dst t d M c (wanted t (some g))) (Yw op (.mk Φ ex' rd fn F) dst t d M c (wanted t (some g)));cases wanted t (some g)with
  |false=>exact .inr rfl
  |true=>exact NC h op dst t d M c
theorem ul(h:ip ex ex'):∀(ops:List CO) (s:St),LO (cR ops (.mk Φ ex rd fn F) s) (cR ops (.mk Φ ex' rd fn F) s)
 |[],s=> .inr rfl
 |o::r,s=>by
  show LO (jK (cR r) (.mk Φ ex rd fn F) (dE o (.mk Φ ex rd fn F) s)) (jK (cR r) (.mk Φ ex' rd fn F) (dE o (.mk Φ ex' rd fn F) s));rcases Nm (Φ:=Φ) (rd:=rd) (fn:=fn) (F:=F) h o s with e|e
  ·rw[e];exact .inl rfl
  ·rw[e];cases dE o (.mk Φ ex' rd fn F) s with
   |none=>exact .inl rfl
   |some s1=>exact ul h r s1
theorem QB(h:ip ex ex')(e:EO)(dst:Option aJ)(t:T)(c:Nat)(pend:List (Nat×Nat×bv))(reads:List (Nat×Nat))(p:Pr):
 LO (oB e (.mk Φ ex rd fn F) dst t c pend reads p) (oB e (.mk Φ ex' rd fn F) dst t c pend reads p):=by
 obtain⟨F',M,saved⟩:=p
 show LO (bif bS F' M pend then lN F' dst t pend reads saved (eE e (.mk Φ ex rd fn F') M c t)else none) (bif bS F' M pend then lN F' dst t pend reads saved (eE e (.mk Φ ex' rd fn F') M c t)else none)
 cases bS F' M pend with
 |false=>exact .inl rfl
 |true=>
  rcases Lx (Φ:=Φ) (rd:=rd) (fn:=fn) (F:=F') h e M c t with e|e
  ·rw[e];exact .inl rfl
  ·rw[e];exact .inr rfl
theorem ZZ(h:ip ex ex')(base:Nat)(x:Nat×Nat×CO)(s:DS):LO (pX (.mk Φ ex rd fn F) base x s) (pX (.mk Φ ex' rd fn F) base x s):=by
 obtain⟨i,mask,dst,op,g⟩:=x
 obtain⟨t,M,c,pend,reads⟩:=s
 show LO (bif wanted t g then Lt (.mk Φ ex rd fn F) base i mask dst op t M c pend reads else _) (bif wanted t g then Lt (.mk Φ ex' rd fn F) base i mask dst op t M c pend reads else _)
 cases wanted t g with
 |false=>exact .inr rfl
 |true=>
  cases op with
  |q o=>exact .inr rfl
  |a o=>exact .inr rfl
  |e o=>
   show LO (t8 o (.mk Φ ex rd fn F) mask dst t c reads (dM mask pend M)) (t8 o (.mk Φ ex' rd fn F) mask dst t c reads (dM mask pend M));obtain⟨M1,p1⟩:=dM mask pend M;exact QB h o dst t c p1 reads _
theorem Cq(h:ip ex ex')(base:Nat):∀(ops:List (Nat×Nat×CO)) (s:DS),LO (gv (.mk Φ ex rd fn F) base ops s) (gv (.mk Φ ex' rd fn F) base ops s)
 |[],s=> .inr rfl
 |o::r,s=>by
  rw[gv,gv];rcases ZZ (Φ:=Φ) (rd:=rd) (fn:=fn) (F:=F) h base o s with e|e
  ·rw[e];exact .inl rfl
  ·rw[e];cases pX (.mk Φ ex' rd fn F) base o s with
   |none=>exact .inl rfl
   |some s1=>exact Cq h base r s1
theorem wV(h:ip ex ex')(c:CC)(s:St):LR (n9 (.mk Φ ex rd fn F) c s) (n9 (.mk Φ ex' rd fn F) c s):=h rd fn F c s
theorem Di(h:ip ex ex')(f:X)(ps:List aJ)(asg body:CC)(t:T)(d:List Nat)(M:Mem)(l dn:Nat):LR (kQ f ps asg body (.mk Φ ex rd fn F) t d M l dn) (kQ f ps asg body (.mk Φ ex' rd fn F) t d M l dn):=by
 show LR ((M.set l (.loop .ready .none fn t ps asg body dn)).force fun M=>fN (Nat.succ l) fun c=>iP t d l (gd (.mk Φ ex rd fn F) (f.ev t) [.y l] M c)) ((M.set l (.loop .ready .none fn t ps asg body dn)).force fun M=>fN (Nat.succ l) fun c=>iP t d l (gd (.mk Φ ex' rd fn F) (f.ev t) [.y l] M c))
 rw[Tr.force_eq,Tr.force_eq,bo,bo]
 rcases Ll (Φ:=Φ) (rd:=rd) (fn:=fn) (F:=F) h (f.ev t) [.y l] (M.set l (.loop .ready .none fn t ps asg body dn)) (Nat.succ l)with e|e
 ·rw[e];exact .inl rfl
 ·rw[e];exact .inr rfl
theorem RW(h:ip ex ex')(f:X)(ps:List aJ)(asg body:CC)(t:T)(d:List Nat)(M:Mem)(l:Nat)(lp:Lp):LR (Fu f ps asg body (.mk Φ ex rd fn F) t d M l lp) (Fu f ps asg body (.mk Φ ex' rd fn F) t d M l lp):=by
 cases lp with
 |f=>exact .inl rfl
 |k s pe fn2 tm ps' a b dn=>exact Di h f ps asg body t d M l dn
theorem xD(h:ip ex ex'):∀(c:CC) (s:St),LR (b8 c (.mk Φ ex rd fn F) s) (b8 c (.mk Φ ex' rd fn F) s):=by
 intro c
 induction c with
 |skip=>exact fun s=> .inr rfl
 |reg ops=>
  intro s;show LR (nQ (cR ops (.mk Φ ex rd fn F) s)) (nQ (cR ops (.mk Φ ex' rd fn F) s));rcases ul (Φ:=Φ) (rd:=rd) (fn:=fn) (F:=F) h ops s with e|e
  ·rw[e];exact .inl rfl
  ·rw[e];exact .inr rfl
 |dreg n ops=>
  intro s;obtain⟨t,d,M,c⟩:=s;show LR (fN (Nat.add c n) fun c'=>rj d (gv (.mk Φ ex rd fn F) c ops (.mk t M c' [] []))) (fN (Nat.add c n) fun c'=>rj d (gv (.mk Φ ex' rd fn F) c ops (.mk t M c' [] [])));rw[bo,bo];rcases Cq (Φ:=Φ) (rd:=rd) (fn:=fn) (F:=F) h c ops (.mk t M (Nat.add c n) [] [])with e|e
  ·rw[e];exact .inl rfl
  ·rw[e];exact .inr rfl
 |seq a b iha ihb=>
  intro s;show LR (jf (b8 b) (.mk Φ ex rd fn F) (b8 a (.mk Φ ex rd fn F) s)) (jf (b8 b) (.mk Φ ex' rd fn F) (b8 a (.mk Φ ex' rd fn F) s));rcases iha s with e|e
  ·rw[e];exact .inl rfl
  ·rw[e];cases b8 a (.mk Φ ex' rd fn F) s with
   |f=>exact .inl rfl
   |k e s1=>
    cases e with
    |nrm=>exact ihb s1
    |_=>exact .inr rfl
 |cond x a b iha ihb=>
  intro s;show LR (gU x a b (b8 a) (b8 b) (.mk Φ ex rd fn F) s) (gU x a b (b8 a) (b8 b) (.mk Φ ex' rd fn F) s);unfold gU;cases x.ev (stT s)with
  |b v=>
   cases v with
   |true=>exact iha s
   |false=>exact ihb s
  |_=>exact .inl rfl
 |block id b ih=>
  intro s;show LR (ea id (b8 b (.mk Φ ex rd fn F) s)) (ea id (b8 b (.mk Φ ex' rd fn F) s));rcases ih s with e|e
  ·rw[e];exact .inl rfl
  ·rw[e];exact .inr rfl
 |loop b ih=>
  intro s;show LR (fp b (.mk Φ ex rd fn F) (b8 b (.mk Φ ex rd fn F) s)) (fp b (.mk Φ ex' rd fn F) (b8 b (.mk Φ ex' rd fn F) s));rcases ih s with e|e
  ·rw[e];exact .inl rfl
  ·rw[e];cases b8 b (.mk Φ ex' rd fn F) s with
   |f=>exact .inl rfl
   |k e s1=>
    cases e with
    |nrm=>exact wV (Φ:=Φ) h _ s1
    |_=>exact .inr rfl
 |rf f ps a b _ _=>
  intro s;obtain⟨t,d,M,c⟩:=s;cases rd with
  |some l=>exact RW h f ps a b t d M c _
  |none=>
   show LR ((M.set c (.defs false)).force fun M=>fN (Nat.succ c) fun c'=>kQ f ps a b (.mk Φ ex none fn F) t (c::d) M c' c) ((M.set c (.defs false)).force fun M=>fN (Nat.succ c) fun c'=>kQ f ps a b (.mk Φ ex' none fn F) t (c::d) M c' c);rw[Tr.force_eq,Tr.force_eq,bo,bo];exact Di h f ps a b t (c::d) _ _ c
 |exit id=>exact fun s=> .inr rfl
 |scope b tbl ihb _=>
  intro s;show LR (fW tbl (.mk Φ ex rd fn F) (b8 b (.mk Φ ex rd fn F) s)) (fW tbl (.mk Φ ex' rd fn F) (b8 b (.mk Φ ex' rd fn F) s));rcases ihb s with e|e
  ·rw[e];exact .inl rfl
  ·rw[e];cases b8 b (.mk Φ ex' rd fn F) s with
   |f=>exact .inl rfl
   |k e s1=>
    cases e with
    |gto l=>
     show LR (mI tbl (.mk Φ ex rd fn F) s1 (gf l tbl)) (mI tbl (.mk Φ ex' rd fn F) s1 (gf l tbl));cases gf l tbl with
     |none=>exact .inl rfl
     |some c=>exact wV (Φ:=Φ) h _ s1
    |_=>exact .inr rfl
 |tab l c r _ _=>exact fun s=> .inr rfl
 |goto l=>exact fun s=> .inr rfl
 |ret=>exact fun s=> .inr rfl
 |bad=>exact fun s=> .inr rfl
end
theorem Cw(Φ:Nat→Option CF):∀(n:Nat),ip (exec Φ n) (exec Φ (n+1))
 |0=>fun rd fn F c s=> .inl rfl
 |n+1=>fun rd fn F c s=>xD (Cw Φ n) c s
theorem oF(Φ:Nat→Option CF){n:Nat}(m:Nat):ip (exec Φ n) (exec Φ (n+m)):=by
 induction m with
 |zero=>exact fun rd fn F c s=> .inr rfl
 |succ m ih=>
  intro rd fn F c s;rcases ih rd fn F c s with h|h
  ·exact .inl h
  ·rcases Cw Φ (n+m) rd fn F c s with h2|h2
   ·exact .inl (h.trans h2)
   ·exact .inr (h.trans h2)
def VR(a:Nat→Rs)(b:Rs):Prop:=b= .f∨ ∃n,∀m,n≤m→a m=b
def VC(a:Nat→RC)(b:RC):Prop:=b= .f∨ ∃n,∀m,n≤m→a m=b
def VO{α:Type}(a:Nat→Option α)(b:Option α):Prop:=b=none∨ ∃n,∀m,n≤m→a m=b
def tu(ex:Nat→sP)(ex':sP):Prop:=∀rd fn F c s,VR (fun m=>ex m rd fn F c s) (ex' rd fn F c s)
section
variable{Φ:Nat→Option CF}{ex:Nat→sP}{ex':sP}{rd:Option Nat}{fn:Nat}{F:RO}
theorem Qr(h:tu ex ex')(F:RO)(f:Nat)(args:List V)(M:Mem)(c:Nat)(o:Option CF):VC (fun m=>cS (ex m) F f args M c o) (cS ex' F f args M c o):=by
 cases o with
 |none=>exact .inl rfl
 |some cf=>
  cases cf with
  |orc g=>exact .inr ⟨0,fun m hm=>rfl⟩
  |mk n res body=>
   show VC (fun m=>kD res F (ex m none f F body (.mk (bz n args) [] M c))) (kD res F (ex' none f F body (.mk (bz n args) [] M c)));rcases h none f F body (.mk (bz n args) [] M c)with e|⟨n,e⟩
   ·rw[e];exact .inl rfl
   ·exact .inr ⟨n,fun m hm=>congrArg (kD res F) (e m hm)⟩
theorem ve(h:tu ex ex')(f:Nat)(args:List V)(M:Mem)(c:Nat):VC (fun m=>jU (.mk Φ (ex m) rd fn F) f args M c) (jU (.mk Φ ex' rd fn F) f args M c):=Qr h F f args M c _
theorem ON(h:tu ex ex')(l fn':Nat)(body:CC)(t:T)(M:Mem)(c:Nat)(lp:Lp):VC (fun m=>mQ (.mk Φ (ex m) rd fn F) l fn' body t M c lp) (mQ (.mk Φ ex' rd fn F) l fn' body t M c lp):=by
 cases lp with
 |f=>exact .inl rfl
 |k s pe fn2 tm ps a b d=>
  cases s with
  |ready=>
   show VC (fun m=>(M.set l (.loop .busy pe fn2 tm ps a b d)).force fun M=>iR l (ex m (some l) fn' F body (.mk t [] M c))) ((M.set l (.loop .busy pe fn2 tm ps a b d)).force fun M=>iR l (ex' (some l) fn' F body (.mk t [] M c)));simp only[Tr.force_eq];rcases h (some l) fn' F body (.mk t [] (M.set l (.loop .busy pe fn2 tm ps a b d)) c)with e|⟨n,e⟩
   ·rw[e];exact .inl rfl
   ·exact .inr ⟨n,fun m hm=>congrArg (iR l) (e m hm)⟩
  |_=>exact .inl rfl
theorem Sz(h:tu ex ex')(l fn':Nat)(body:CC)(r:Rs):VC (fun m=>k8 (.mk Φ (ex m) rd fn F) l fn' body r) (k8 (.mk Φ ex' rd fn F) l fn' body r):=by
 cases r with
 |f=>exact .inl rfl
 |k e s=>
  cases e with
  |nrm=>
   obtain⟨t,d,M,c⟩:=s;cases d with
   |nil=>exact ON (Φ:=Φ) (rd:=rd) (fn:=fn) h l fn' body t M c _
   |cons _ _=>exact .inl rfl
  |_=>exact .inl rfl
theorem aw3(h:tu ex ex')(l fn':Nat)(asg body:CC)(M:Mem)(c:Nat)(o:Option T):VC (fun m=>yM (.mk Φ (ex m) rd fn F) l fn' asg body M c o) (yM (.mk Φ ex' rd fn F) l fn' asg body M c o):=by
 cases o with
 |none=>exact .inl rfl
 |some t=>
  show VC (fun m=>k8 (.mk Φ (ex m) rd fn F) l fn' body (ex m (some l) fn' F asg (.mk t [] M c))) (k8 (.mk Φ ex' rd fn F) l fn' body (ex' (some l) fn' F asg (.mk t [] M c)));rcases h (some l) fn' F asg (.mk t [] M c)with e|⟨n,e⟩
  ·rw[e];exact .inl rfl
  ·rcases Sz (Φ:=Φ) (rd:=rd) (fn:=fn) (F:=F) h l fn' body (ex' (some l) fn' F asg (.mk t [] M c))with e2|⟨n2,e2⟩
   ·exact .inl e2
   ·exact .inr ⟨max n n2,fun m hm=>by
     have h1:=e m (bg (Nat.le_max_left _ _) hm);have h2:=e2 m (bg (Nat.le_max_right _ _) hm);simp only at h1 h2⊢;rw[h1,h2]⟩
theorem Qw(h:tu ex ex')(l:Nat)(args:List V)(M:Mem)(c:Nat)(lp:Lp):VC (fun m=>nn (.mk Φ (ex m) rd fn F) l args M c lp) (nn (.mk Φ ex' rd fn F) l args M c lp):=by
 cases lp with
 |f=>exact .inl rfl
 |k s pe fn2 tm ps a b d=>
  cases s with
  |ready=>exact aw3 h l fn2 a b M c _
  |_=>exact .inl rfl
theorem Qv(h:tu ex ex')(v:V)(args:List V)(M:Mem)(c:Nat):VC (fun m=>iy (.mk Φ (ex m) rd fn F) v args M c) (iy (.mk Φ ex' rd fn F) v args M c):=by
 cases v with
 |f g a b=>exact ve (Φ:=Φ) (rd:=rd) (fn:=fn) h g _ M c
 |y l=>exact Qw h l args M c _
 |_=>exact .inl rfl
theorem Qt(h:tu ex ex')(v:V)(args:List V)(M:Mem)(c:Nat):VC (fun m=>gd (.mk Φ (ex m) rd fn F) v args M c) (gd (.mk Φ ex' rd fn F) v args M c):=by
 cases v with
 |f g a b=>exact ve (Φ:=Φ) (rd:=rd) (fn:=fn) h g _ M c
 |_=>exact .inl rfl
theorem Y5(h:tu ex ex')(o:EO)(M:Mem)(c:Nat)(t:T):VC (fun m=>eE o (.mk Φ (ex m) rd fn F) M c t) (eE o (.mk Φ ex' rd fn F) M c t):=by
 cases o with
 |call f as=>exact ve (Φ:=Φ) (rd:=rd) (fn:=fn) h f _ M c
 |cv f as=>exact Qv h _ _ M c
 |_=>exact .inr ⟨0,fun m hm=>rfl⟩
theorem Yy(h:tu ex ex')(o:OK)(dst:Option aJ)(t:T)(d:List Nat)(M:Mem)(c:Nat):VO (fun m=>S9 o (.mk Φ (ex m) rd fn F) dst t d M c) (S9 o (.mk Φ ex' rd fn F) dst t d M c):=by
 cases o with
 |q o=>exact .inr ⟨0,fun m hm=>rfl⟩
 |a o=>exact .inr ⟨0,fun m hm=>rfl⟩
 |e o=>
  show VO (fun m=>th dst t d (eE o (.mk Φ (ex m) rd fn F) M c t)) (th dst t d (eE o (.mk Φ ex' rd fn F) M c t));rcases Y5 (Φ:=Φ) (rd:=rd) (fn:=fn) (F:=F) h o M c t with e|⟨n,e⟩
  ·rw[e];exact .inl rfl
  ·exact .inr ⟨n,fun m hm=>congrArg (th dst t d) (e m hm)⟩
theorem S2(h:tu ex ex')(o:CO)(s:St):VO (fun m=>dE o (.mk Φ (ex m) rd fn F) s) (dE o (.mk Φ ex' rd fn F) s):=by
 obtain⟨dst,op,g⟩:=o
 obtain⟨t,d,M,c⟩:=s
 cases g with
 |none=>exact Yy h op dst t d M c
 |some g=>
  show VO (fun m=>Yw op (.mk Φ (ex m) rd fn F) dst t d M c (wanted t (some g))) (Yw op (.mk Φ ex' rd fn F) dst t d M c (wanted t (some g)));cases wanted t (some g)with
  |false=>exact .inr ⟨0,fun m hm=>rfl⟩
  |true=>exact Yy h op dst t d M c
theorem yq(h:tu ex ex'):∀(ops:List CO) (s:St),VO (fun m=>cR ops (.mk Φ (ex m) rd fn F) s) (cR ops (.mk Φ ex' rd fn F) s)
 |[],s=> .inr ⟨0,fun m hm=>rfl⟩
 |o::r,s=>by
  show VO (fun m=>jK (cR r) (.mk Φ (ex m) rd fn F) (dE o (.mk Φ (ex m) rd fn F) s)) (jK (cR r) (.mk Φ ex' rd fn F) (dE o (.mk Φ ex' rd fn F) s));rcases S2 (Φ:=Φ) (rd:=rd) (fn:=fn) (F:=F) h o s with e|⟨n,e⟩
  ·rw[e];exact .inl rfl
  ·cases hs:dE o (.mk Φ ex' rd fn F) s with
   |none=>exact .inl rfl
   |some s1=>
    rw[hs]at e;rcases yq h r s1 with e2|⟨n2,e2⟩
    ·exact .inl e2
    ·exact .inr ⟨max n n2,fun m hm=>by
      have h1:=e m (bg (Nat.le_max_left _ _) hm);have h2:=e2 m (bg (Nat.le_max_right _ _) hm);simp only at h1 h2⊢;rw[h1];exact h2⟩
theorem a00(h:tu ex ex')(e:EO)(dst:Option aJ)(t:T)(c:Nat)(pend:List (Nat×Nat×bv))(reads:List (Nat×Nat))(p:Pr):
 VO (fun m=>oB e (.mk Φ (ex m) rd fn F) dst t c pend reads p) (oB e (.mk Φ ex' rd fn F) dst t c pend reads p):=by
 obtain⟨F',M,saved⟩:=p
 show VO (fun m=>bif bS F' M pend then lN F' dst t pend reads saved (eE e (.mk Φ (ex m) rd fn F') M c t)else none) (bif bS F' M pend then lN F' dst t pend reads saved (eE e (.mk Φ ex' rd fn F') M c t)else none)
 cases bS F' M pend with
 |false=>exact .inl rfl
 |true=>
  rcases Y5 (Φ:=Φ) (rd:=rd) (fn:=fn) (F:=F') h e M c t with e|⟨n,e⟩
  ·rw[e];exact .inl rfl
  ·exact .inr ⟨n,fun m hm=>congrArg (lN F' dst t pend reads saved) (e m hm)⟩
theorem aI8(h:tu ex ex')(base:Nat)(x:Nat×Nat×CO)(s:DS):VO (fun m=>pX (.mk Φ (ex m) rd fn F) base x s) (pX (.mk Φ ex' rd fn F) base x s):=by
 obtain⟨i,mask,dst,op,g⟩:=x
 obtain⟨t,M,c,pend,reads⟩:=s
 show VO (fun m=>bif wanted t g then Lt (.mk Φ (ex m) rd fn F) base i mask dst op t M c pend reads else _) (bif wanted t g then Lt (.mk Φ ex' rd fn F) base i mask dst op t M c pend reads else _)
 cases wanted t g with
 |false=>exact .inr ⟨0,fun m hm=>rfl⟩
 |true=>
  cases op with
  |q o=>exact .inr ⟨0,fun m hm=>rfl⟩
  |a o=>exact .inr ⟨0,fun m hm=>rfl⟩
  |e o=>
   show VO (fun m=>t8 o (.mk Φ (ex m) rd fn F) mask dst t c reads (dM mask pend M)) (t8 o (.mk Φ ex' rd fn F) mask dst t c reads (dM mask pend M));obtain⟨M1,p1⟩:=dM mask pend M;exact a00 h o dst t c p1 reads _
theorem Ls(h:tu ex ex')(base:Nat):∀(ops:List (Nat×Nat×CO)) (s:DS),VO (fun m=>gv (.mk Φ (ex m) rd fn F) base ops s) (gv (.mk Φ ex' rd fn F) base ops s)
 |[],s=> .inr ⟨0,fun m hm=>rfl⟩
 |o::r,s=>by
  simp only[gv];rcases aI8 (Φ:=Φ) (rd:=rd) (fn:=fn) (F:=F) h base o s with e|⟨n,e⟩
  ·rw[e];exact .inl rfl
  ·cases hs:pX (.mk Φ ex' rd fn F) base o s with
   |none=>exact .inl rfl
   |some s1=>
    rw[hs]at e;rcases Ls h base r s1 with e2|⟨n2,e2⟩
    ·exact .inl e2
    ·exact .inr ⟨max n n2,fun m hm=>by
      have h1:=e m (bg (Nat.le_max_left _ _) hm);have h2:=e2 m (bg (Nat.le_max_right _ _) hm);simp only at h1 h2⊢;rw[h1];exact h2⟩
theorem Cc(h:tu ex ex')(c:CC)(s:St):VR (fun m=>n9 (.mk Φ (ex m) rd fn F) c s) (n9 (.mk Φ ex' rd fn F) c s):=h rd fn F c s
theorem Nc(h:tu ex ex')(f:X)(ps:List aJ)(asg body:CC)(t:T)(d:List Nat)(M:Mem)(l dn:Nat):VR (fun m=>kQ f ps asg body (.mk Φ (ex m) rd fn F) t d M l dn) (kQ f ps asg body (.mk Φ ex' rd fn F) t d M l dn):=by
 show VR (fun m=>(M.set l (.loop .ready .none fn t ps asg body dn)).force fun M=>fN (Nat.succ l) fun c=>iP t d l (gd (.mk Φ (ex m) rd fn F) (f.ev t) [.y l] M c)) ((M.set l (.loop .ready .none fn t ps asg body dn)).force fun M=>fN (Nat.succ l) fun c=>iP t d l (gd (.mk Φ ex' rd fn F) (f.ev t) [.y l] M c))
 simp only[Tr.force_eq,bo]
 rcases Qt (Φ:=Φ) (rd:=rd) (fn:=fn) (F:=F) h (f.ev t) [.y l] (M.set l (.loop .ready .none fn t ps asg body dn)) (Nat.succ l)with e|⟨n,e⟩
 ·rw[e];exact .inl rfl
 ·exact .inr ⟨n,fun m hm=>congrArg (iP t d l) (e m hm)⟩
theorem ag2(h:tu ex ex')(f:X)(ps:List aJ)(asg body:CC)(t:T)(d:List Nat)(M:Mem)(l:Nat)(lp:Lp):VR (fun m=>Fu f ps asg body (.mk Φ (ex m) rd fn F) t d M l lp) (Fu f ps asg body (.mk Φ ex' rd fn F) t d M l lp):=by
 cases lp with
 |f=>exact .inl rfl
 |k s pe fn2 tm ps' a b dn=>exact Nc h f ps asg body t d M l dn
theorem QU(h:tu ex ex'):∀(c:CC) (s:St),VR (fun m=>b8 c (.mk Φ (ex m) rd fn F) s) (b8 c (.mk Φ ex' rd fn F) s):=by
 intro c
 induction c with
 |skip=>exact fun s=> .inr ⟨0,fun m hm=>rfl⟩
 |reg ops=>
  intro s;show VR (fun m=>nQ (cR ops (.mk Φ (ex m) rd fn F) s)) (nQ (cR ops (.mk Φ ex' rd fn F) s));rcases yq (Φ:=Φ) (rd:=rd) (fn:=fn) (F:=F) h ops s with e|⟨n,e⟩
  ·rw[e];exact .inl rfl
  ·exact .inr ⟨n,fun m hm=>congrArg nQ (e m hm)⟩
 |dreg k ops=>
  intro s;obtain⟨t,d,M,c⟩:=s;show VR (fun m=>fN (Nat.add c k) fun c'=>rj d (gv (.mk Φ (ex m) rd fn F) c ops (.mk t M c' [] []))) (fN (Nat.add c k) fun c'=>rj d (gv (.mk Φ ex' rd fn F) c ops (.mk t M c' [] [])));simp only[bo];rcases Ls (Φ:=Φ) (rd:=rd) (fn:=fn) (F:=F) h c ops (.mk t M (Nat.add c k) [] [])with e|⟨n,e⟩
  ·rw[e];exact .inl rfl
  ·exact .inr ⟨n,fun m hm=>congrArg (rj d) (e m hm)⟩
 |seq a b iha ihb=>
  intro s;show VR (fun m=>jf (b8 b) (.mk Φ (ex m) rd fn F) (b8 a (.mk Φ (ex m) rd fn F) s)) (jf (b8 b) (.mk Φ ex' rd fn F) (b8 a (.mk Φ ex' rd fn F) s));rcases iha s with e|⟨n,e⟩
  ·rw[e];exact .inl rfl
  ·cases hs:b8 a (.mk Φ ex' rd fn F) s with
   |f=>exact .inl rfl
   |k x s1=>
    rw[hs]at e;cases x with
    |nrm=>
     rcases ihb s1 with e2|⟨n2,e2⟩
     ·exact .inl e2
     ·exact .inr ⟨max n n2,fun m hm=>by
       have h1:=e m (bg (Nat.le_max_left _ _) hm);have h2:=e2 m (bg (Nat.le_max_right _ _) hm);simp only at h1 h2⊢;rw[h1];exact h2⟩
    |_=>exact .inr ⟨n,fun m hm=>congrArg (jf (b8 b) (.mk Φ (ex m) rd fn F)) (e m hm)⟩
 |cond x a b iha ihb=>
  intro s;show VR (fun m=>gU x a b (b8 a) (b8 b) (.mk Φ (ex m) rd fn F) s) (gU x a b (b8 a) (b8 b) (.mk Φ ex' rd fn F) s);unfold gU;cases x.ev (stT s)with
  |b v=>
   cases v with
   |true=>exact iha s
   |false=>exact ihb s
  |_=>exact .inl rfl
 |block id b ih=>
  intro s;show VR (fun m=>ea id (b8 b (.mk Φ (ex m) rd fn F) s)) (ea id (b8 b (.mk Φ ex' rd fn F) s));rcases ih s with e|⟨n,e⟩
  ·rw[e];exact .inl rfl
  ·exact .inr ⟨n,fun m hm=>congrArg (ea id) (e m hm)⟩
 |loop b ih=>
  intro s;show VR (fun m=>fp b (.mk Φ (ex m) rd fn F) (b8 b (.mk Φ (ex m) rd fn F) s)) (fp b (.mk Φ ex' rd fn F) (b8 b (.mk Φ ex' rd fn F) s));rcases ih s with e|⟨n,e⟩
  ·rw[e];exact .inl rfl
  ·cases hs:b8 b (.mk Φ ex' rd fn F) s with
   |f=>exact .inl rfl
   |k x s1=>
    rw[hs]at e;cases x with
    |nrm=>
     rcases Cc (Φ:=Φ) (rd:=rd) (fn:=fn) (F:=F) h (.loop b) s1 with e2|⟨n2,e2⟩
     ·exact .inl e2
     ·exact .inr ⟨max n n2,fun m hm=>by
       have h1:=e m (bg (Nat.le_max_left _ _) hm);have h2:=e2 m (bg (Nat.le_max_right _ _) hm);simp only at h1 h2⊢;rw[h1];exact h2⟩
    |_=>exact .inr ⟨n,fun m hm=>congrArg (fp b (.mk Φ (ex m) rd fn F)) (e m hm)⟩
 |rf f ps a b _ _=>
  intro s;obtain⟨t,d,M,c⟩:=s;cases rd with
  |some l=>exact ag2 h f ps a b t d M c _
  |none=>
   show VR (fun m=>(M.set c (.defs false)).force fun M=>fN (Nat.succ c) fun c'=>kQ f ps a b (.mk Φ (ex m) none fn F) t (c::d) M c' c) ((M.set c (.defs false)).force fun M=>fN (Nat.succ c) fun c'=>kQ f ps a b (.mk Φ ex' none fn F) t (c::d) M c' c);simp only[Tr.force_eq,bo];exact Nc h f ps a b t (c::d) _ _ c
 |exit id=>exact fun s=> .inr ⟨0,fun m hm=>rfl⟩
 |scope b tbl ihb _=>
  intro s;show VR (fun m=>fW tbl (.mk Φ (ex m) rd fn F) (b8 b (.mk Φ (ex m) rd fn F) s)) (fW tbl (.mk Φ ex' rd fn F) (b8 b (.mk Φ ex' rd fn F) s));rcases ihb s with e|⟨n,e⟩
  ·rw[e];exact .inl rfl
  ·cases hs:b8 b (.mk Φ ex' rd fn F) s with
   |f=>exact .inl rfl
   |k x s1=>
    rw[hs]at e;cases x with
    |gto l=>
     have hj:VR (fun m=>mI tbl (.mk Φ (ex m) rd fn F) s1 (gf l tbl)) (mI tbl (.mk Φ ex' rd fn F) s1 (gf l tbl)):=by
      cases gf l tbl with
      |none=>exact .inl rfl
      |some c=>exact Cc (Φ:=Φ) h _ s1
     rcases hj with e2|⟨n2,e2⟩
     ·exact .inl e2
     ·exact .inr ⟨max n n2,fun m hm=>by
       have h1:=e m (bg (Nat.le_max_left _ _) hm);have h2:=e2 m (bg (Nat.le_max_right _ _) hm);simp only at h1 h2⊢;rw[h1];exact h2⟩
    |_=>exact .inr ⟨n,fun m hm=>congrArg (fW tbl (.mk Φ (ex m) rd fn F)) (e m hm)⟩
 |tab l c r _ _=>exact fun s=> .inr ⟨0,fun m hm=>rfl⟩
 |goto l=>exact fun s=> .inr ⟨0,fun m hm=>rfl⟩
 |ret=>exact fun s=> .inr ⟨0,fun m hm=>rfl⟩
 |bad=>exact fun s=> .inr ⟨0,fun m hm=>rfl⟩
end
open Classical in
def gV(Φ:Nat→Option CF):sP:=fun rd fn F c s=>if h:∃n,exec Φ n rd fn F c s≠ .f then exec Φ (Classical.choose h) rd fn F c s else .f
theorem vf{Φ:Nat→Option CF}{n:Nat}{rd:Option Nat}{fn:Nat}{F:RO}{c:CC}{s:St}(h:exec Φ n rd fn F c s≠ .f):gV Φ rd fn F c s=exec Φ n rd fn F c s:=by
 have hx:∃n,exec Φ n rd fn F c s≠ .f:=⟨n,h⟩
 unfold gV
 rw[dif_pos hx]
 have hc:=Classical.choose_spec hx
 rcases oF Φ (n:=n) (Classical.choose hx) rd fn F c s with e1|e1
 ·exact absurd e1 h
 ·rcases oF Φ (n:=Classical.choose hx) n rd fn F c s with e2|e2
  ·exact absurd e2 hc
  ·rw[e1,e2,Nat.add_comm]
theorem tO(Φ:Nat→Option CF)(rd:Option Nat)(fn:Nat)(F:RO)(c:CC)(s:St):gV Φ rd fn F c s= .f∨ ∃n,gV Φ rd fn F c s=exec Φ n rd fn F c s:=by
 by_cases hx:∃n,exec Φ n rd fn F c s≠ .f
 ·exact .inr ⟨_,by unfold gV;rw[dif_pos hx]⟩
 ·exact .inl (by unfold gV;rw[dif_neg hx])
theorem LW(Φ:Nat→Option CF)(n:Nat):ip (exec Φ n) (gV Φ):=by
 intro rd fn F c s
 by_cases h:exec Φ n rd fn F c s= .f
 ·exact .inl h
 ·exact .inr (vf h).symm
theorem a03(Φ:Nat→Option CF)(rd:Option Nat)(fn:Nat)(F:RO)(c:CC)(s:St):LR (gV Φ rd fn F c s) (b8 c (.mk Φ (gV Φ) rd fn F) s):=by
 by_cases hx:∃n,exec Φ n rd fn F c s≠ .f
 ·obtain⟨n,hn⟩:=hx;rw[vf hn];cases n with
  |zero=>exact .inl rfl
  |succ n=>exact xD (LW Φ n) c s
 ·exact .inl (by unfold gV;rw[dif_neg hx])
theorem aJ0(Φ:Nat→Option CF):tu (exec Φ) (gV Φ):=by
 intro rd fn F c s
 rcases tO Φ rd fn F c s with h|⟨n,h⟩
 ·exact .inl h
 ·by_cases hf:gV Φ rd fn F c s= .f
  ·exact .inl hf
  ·refine .inr ⟨n,fun m hm=>?_⟩;have:exec Φ m rd fn F c s≠ .f:=by
    obtain⟨k,rfl⟩:∃k,m=n+k:=⟨m-n,by omega⟩
    rcases oF Φ (n:=n) k rd fn F c s with e|e
    ·exact absurd (h.trans e) hf
    ·rw[←e,←h];exact hf
   exact(vf this).symm
theorem oC(Φ:Nat→Option CF)(rd:Option Nat)(fn:Nat)(F:RO)(c:CC)(s:St):gV Φ rd fn F c s=b8 c (.mk Φ (gV Φ) rd fn F) s:=by
 rcases a03 Φ rd fn F c s with h|h
 ·rcases QU (Φ:=Φ) (rd:=rd) (fn:=fn) (F:=F) (aJ0 Φ) c s with h2|⟨n,h2⟩
  ·rw[h,h2]
  ·have h3:exec Φ (n+1) rd fn F c s=b8 c (.mk Φ (gV Φ) rd fn F) s:=h2 n (ag _);by_cases hf:b8 c (.mk Φ (gV Φ) rd fn F) s= .f
   ·rw[h,hf]
   ·rw[←h3];exact vf (by rw[h3];exact hf)
 ·exact h
theorem Lw{P:Program}(hm:P.follows .mixedOrders=true){Φ:Nat→Option CF}(hΦ:eA P Φ):wH P (gV Φ):=by
 intro rd fn F cc t d M ct e t' d' M' ct' h
 rcases tO Φ rd fn F cc (.mk t d M ct)with h1|⟨n,h1⟩
 ·rw[h1]at h;cases h
 ·rw[h1]at h;exact ru hm hΦ n rd fn F cc t d M ct e t' d' M' ct' h
structure oq(F0:RO)(M0:Mem)(F:RO)(M:Mem):Prop where
 m:∀b blk,M0.get b=some blk→M.get b=some blk
 f:∀b blk,bq F0 b=some blk→look F M b=some blk
 ap:∀b,(bq F0 b).isSome→M0.get b=none
theorem oq.look{F0:RO}{M0:Mem}{F:RO}{M:Mem}(h:oq F0 M0 F M){b:Nat}{blk:bv}(hb:look F0 M0 b=some blk):look F M b=some blk:=by
 cases hm:M0.get b with
 |some x=>
  rw[au hm]at hb;obtain rfl:=ae hb;exact au (h.m b _ hm)
 |none=>
  rw[aR hm]at hb;exact h.f b blk hb
theorem oq.rel{P:Program}{E:cH}{F0 F:RO}{M0 M:Mem}{c:Nat→Prop}{w:World}(h:oq F0 M0 F M)(hr:jR P E F M c w):jR P E F0 M0 c w where
 has:=fun b blk hb=>hr.has b blk (h.look hb)
 inj:=by
  intro b b' h1 h2 e;obtain⟨x,hx⟩:=bB.1 h1;obtain⟨y,hy⟩:=bB.1 h2;exact hr.inj b b' (by rw[h.look hx];rfl) (by rw[h.look hy];rfl) e
 apart:=h.ap
theorem jR.lt{P:Program}{E:cH}{F:RO}{M:Mem}{c:Nat→Prop}{w:World}(h:jR P E F M c w){b:Nat}(hb:(look F M b).isSome):E.ρ b<w.heap.size:=by
 obtain⟨x,hx⟩:=bB.1 hb
 obtain⟨_,_,o',ho',_⟩:=h.has b x hx
 exact(Array.getElem?_eq_some_iff.1 ho').1
theorem kd.framed{P:Program}{E E':cH}{F0 F:RO}{M0 M M1 N:Mem}{c c':Nat→Prop}{w w':World}(hsub:oq F0 M0 F M)(hr:jR P E F M c w)(hS:kd P F0 E M0 c w E' M1 c' w')
 (hN:∀b blk,N.get b=some blk→M1.get b=some blk∨(M.get b=some blk∧M0.get b=none)):kd P F E M c w E' N c' w':=by
 have old:∀b blk,look F M b=some blk→M0.get b=none→c b∧eC c blk∧E'.ρ b=E.ρ b∧ ∃o,w'.heap[E'.ρ b]?=some o∧dN P E' b blk o:=by
  intro b blk hb h0;obtain⟨hcb,hbd,o,ho,hB⟩:=hr.has b blk hb;have e:=hS.ext.ρ b hcb;refine⟨hcb,hbd,e,o,?_,hB.ext hS.ext hcb hbd⟩;rw[e,hS.frame _ (Array.getElem?_eq_some_iff.1 ho).1,ho];intro b0 hb0 e0;obtain⟨x0,hx0⟩:=bB.1 hb0;have:b0=b:=hr.inj b0 b (by rw[au (hsub.m b0 x0 hx0)];rfl) (by rw[hb];rfl) e0;subst this;rw[h0]at hx0;cases hx0
 have new_old:∀b b' blk',(M1.get b).isSome→look F M b'=some blk'→M0.get b'=none→E'.ρ b≠E.ρ b':=by
  intro b b' blk' h1 h2 h0 e;rcases hS.own b h1 with⟨b0,hb0,e0⟩|hge
  ·obtain⟨x0,hx0⟩:=bB.1 hb0;have:b0=b':=hr.inj b0 b' (by rw[au (hsub.m b0 x0 hx0)];rfl) (by rw[h2];rfl) (e0.trans e);subst this;rw[h0]at hx0;cases hx0
  ·have:=hr.lt (b:=b') (by rw[h2];rfl);omega
 have fM0:∀b,(bq F b).isSome→M0.get b=none:=by
  intro b hb;cases h:M0.get b with
  |none=>rfl
  |some x=>have:=hr.apart b hb;rw[hsub.m b x h]at this;cases this
 have fM:∀b blk,bq F b=some blk→look F M b=some blk:=fun b blk hb=>by rw[aR (hr.apart b (by rw[hb];rfl))];exact hb
 have nocommon:∀b blk',look F M b=some blk'→M0.get b=none→M1.get b=none:=by
  intro b blk' h2 h0;cases h1:M1.get b with
  |none=>rfl
  |some x=>
   exfalso;have:=new_old b b blk' (by rw[h1];rfl) h2 h0;exact this (old b blk' h2 h0).2.2.1
 have lookN:∀b blk,look F N b=some blk→M1.get b=some blk∨(look F M b=some blk∧M0.get b=none):=by
  intro b blk hb;cases h:N.get b with
  |some x=>
   rw[au h]at hb;obtain rfl:=ae hb;rcases hN b _ h with h1|⟨h1,h2⟩
   ·exact .inl h1
   ·exact .inr ⟨au h1,h2⟩
  |none=>
   rw[aR h]at hb;exact .inr ⟨fM b blk hb,fM0 b (by rw[hb];rfl)⟩
 refine⟨hS.ext,hS.le,⟨?_,?_,?_⟩,?_,?_,hS.size,hS.os,hS.output,hS.tape⟩
 ·intro b blk hb;rcases lookN b blk hb with h1|⟨h1,h2⟩
  ·exact hS.rel.has b blk (au h1)
  ·obtain⟨a1,a2,_,a3⟩:=old b blk h1 h2;exact⟨hS.le b a1,fE hS.le _ a2,a3⟩
 ·intro b b' h1 h2 e;obtain⟨x,hx⟩:=bB.1 h1;obtain⟨y,hy⟩:=bB.1 h2;rcases lookN b x hx with g1|⟨g1,g0⟩
  ·rcases lookN b' y hy with k1|⟨k1,k0⟩
   ·exact hS.rel.inj b b' (lW (by rw[g1];rfl)) (lW (by rw[k1];rfl)) e
   ·exfalso;exact new_old b b' y (by rw[g1];rfl) k1 k0 (e.trans (old b' y k1 k0).2.2.1)
  ·rcases lookN b' y hy with k1|⟨k1,k0⟩
   ·exfalso;exact new_old b' b x (by rw[k1];rfl) g1 g0 (e.symm.trans (old b x g1 g0).2.2.1)
   ·refine hr.inj b b' (by rw[g1];rfl) (by rw[k1];rfl) ?_;rw[←(old b x g1 g0).2.2.1,←(old b' y k1 k0).2.2.1];exact e
 ·intro b hb;obtain⟨x,hx⟩:=bB.1 hb;cases h:N.get b with
  |none=>rfl
  |some y=>
   exfalso;have:=nocommon b x (fM b x hx) (fM0 b hb);rcases hN b y h with h1|⟨h1,h2⟩
   ·rw[this]at h1;cases h1
   ·have:=hr.apart b hb;rw[h1]at this;cases this
 ·intro b hb;obtain⟨x,hx⟩:=bB.1 hb;rcases hN b x hx with h1|⟨h1,h2⟩
  ·rcases hS.own b (by rw[h1];rfl)with⟨b0,hb0,e0⟩|hge
   ·obtain⟨x0,hx0⟩:=bB.1 hb0;exact .inl ⟨b0,by rw[hsub.m b0 x0 hx0];rfl,e0⟩
   ·exact .inr hge
  ·exact .inl ⟨b,by rw[h1];rfl,((old b x (au h1) h2).2.2.1).symm⟩
 ·intro r hr' hn;refine hS.frame r hr' fun b hb=>?_;obtain⟨x,hx⟩:=bB.1 hb;exact hn b (by rw[hsub.m b x hx];rfl)
structure Wf(F:RO)(M:Mem)(ct:Nat)(args:List V):Prop where
 ge:1000≤ct
 args:fw (· <ct) args
 lt:∀b blk,look F M b=some blk→b<ct
 bd:∀b blk,look F M b=some blk→eC (· <ct) blk
 ap:∀b,(bq F b).isSome→M.get b=none
theorem b04{P:Program}{E:cH}{F:RO}{M:Mem}{c:Nat→Prop}{w:World}{ct:Nat}{args:List V}(hr:jR P E F M c w)(hbig:∀g,g<1000→c g)(hf:eY c ct)(ha:fw c args):Wf F M ct args:=by
 have hlt:∀b,c b→b<ct:=fun b hb=>by
  by_cases h:b<ct
  ·exact h
  ·exact absurd hb (hf b (by omega))
 refine⟨?_,iX hlt args ha,fun b blk hb=>hlt b (hr.has b blk hb).1,fun b blk hb=>fE hlt blk (hr.has b blk hb).2.1,hr.apart⟩
 by_cases h:1000≤ct
 ·exact h
 ·exact absurd (hbig ct (by omega)) (hf ct (ag _))
mutual
theorem ml{p q:Nat→Prop}:∀v,bd p v→bd q v→bd (fun b=>p b∧q b) v
 | .b _,_,_| .i _ _,_,_| .s _ _,_,_| .p0,_,_| .l0,_,_| .m0,_,_| .f0,_,_| .a0,_,_=>trivial
 | .p _ _,h,g=>⟨h,g⟩
 | .l _ _ _ _,h,g=>⟨h,g⟩
 | .u _ _ _ _ _,h,g=>⟨h,g⟩
 | .ue _ _ _,h,g=>⟨h,g⟩
 | .m _,h,g=>⟨h,g⟩
 | .y _,h,g=>⟨h,g⟩
 | .f _ a e,h,g=>⟨ng a h.1 g.1,ng e h.2 g.2⟩
 | .a _ v,h,g=>ml v h g
 | .g cs,h,g=>ng cs h g
 | .t cs,h,g=>ng cs h g
theorem ng{p q:Nat→Prop}:∀l,fw p l→fw q l→fw (fun b=>p b∧q b) l
 |[],_,_=>trivial
 |v::l,h,g=>⟨ml v h.1 g.1,ng l h.2 g.2⟩
end
theorem Eb{p q:Nat→Prop}(blk:bv)(h:eC p blk)(g:eC q blk):eC (fun b=>p b∧q b) blk:=by
 cases blk with
 |cells ty n ex fz str d t=>exact fun k v hk=>ml v (h k v hk) (g k v hk)
 |map es c=>exact fun e he=>⟨ml _ (h e he).1 (g e he).1,ml _ (h e he).2 (g e he).2⟩
 |loop s pe fn tm ps a b d=>exact⟨fun p=>ml _ (h.1 p) (g.1 p),h.2,g.2⟩
 |defs _=>trivial
 |siter _ _ _=>trivial
 |miter m _ _ _=>exact fun b hb=>⟨h b hb,g b hb⟩
theorem ad8{P:Program}(hm:P.follows .mixedOrders=true){Φ:Nat→Option CF}(hΦ:eA P Φ){f:Nat}{g:RO→List V→Mem→Nat→RC}
 (h:∀F args M ct v N ct',g F args M ct= .k v N ct'→Wf F M ct args→ ∃F0 M0 M1 ct1,oq F0 M0 F M∧cS (gV Φ) F0 f args M0 ct (Φ f)= .k v M1 ct1∧ct≤ct'∧bd (· <ct') v∧
  ∀b blk,N.get b=some blk→(M1.get b=some blk∧b<ct'∧eC (· <ct') blk)∨(M.get b=some blk∧M0.get b=none)):dK P f g:=by
 intro F args M ct v N ct' hg E c w hr hglob hbig hf ha
 obtain⟨F0,M0,M1,ct1,hsub,hc,hle,hbv,hN⟩:=h F args M ct v N ct' hg (b04 hr hbig hf ha)
 obtain⟨fn,h1,h2,h3,hC⟩:=gJ (rd:=none) (fn:=0) (F₀:=[]) hΦ (Lw hm hΦ) F0 f args M0 ct v M1 ct1 hc E c w (hsub.rel hr) hglob hbig hf ha
 refine⟨fn,h1,h2,h3,hC.mono ?_⟩
 rintro e w' ⟨E',c',rfl,hS,hb,hG⟩
 have hS':=hS.framed hsub hr (N:=N) fun b blk hb=>(hN b blk hb).imp (fun h=>h.1) id
 have hlt:∀b,c b→b<ct:=fun b hb=>by
  by_cases h:b<ct
  ·exact h
  ·exact absurd hb (hf b (by omega))
 have up:∀b,c b→c' b∧b<ct':=fun b hb=>⟨hS.le b hb,Nat.lt_of_lt_of_le (hlt b hb) hle⟩
 refine⟨E',fun b=>c' b∧b<ct',rfl,⟨hS'.ext,up,⟨?_,hS'.rel.inj,hS'.rel.apart⟩,hS'.own,hS'.frame,hS'.size,hS'.os,hS'.output,hS'.tape⟩,ml v hb hbv,⟨hle,fun b hb=>?_⟩⟩
 ·intro b blk hb;obtain⟨g1,g2,g3⟩:=hS'.rel.has b blk hb
  have old:look F M b=some blk→(c' b∧b<ct')∧eC (fun b=>c' b∧b<ct') blk:=fun ho=>by
   obtain⟨k1,k2,_⟩:=hr.has b blk ho;exact⟨up b k1,fE up blk k2⟩
  have:(c' b∧b<ct')∧eC (fun b=>c' b∧b<ct') blk:=by
   cases hn:N.get b with
   |some x=>
    rw[au hn]at hb;obtain rfl:=ae hb;rcases hN b _ hn with⟨k1,k2,k3⟩|⟨k1,_⟩
    ·exact⟨⟨g1,k2⟩,Eb _ g2 k3⟩
    ·exact old (au k1)
   |none=>
    rw[aR hn]at hb;exact old (by rw[aR (hr.apart b (by rw[hb];rfl))];exact hb)
  exact⟨this.1,this.2,g3⟩
 ·rcases hG.new b hb.1 with h|h
  ·exact .inl h
  ·exact .inr ⟨h.1,hb.2⟩
def aN(h:List V→Option V)(_:RO)(args:List V)(M:Mem)(c:Nat):RC:=match h args with
 |some v=> .k v M c
 |none=> .f
theorem gC{P:Program}(hm:P.follows .mixedOrders=true){Φ:Nat→Option CF}(hΦ:eA P Φ){f:Nat}{h:List V→Option V}
 (hh:∀args v ct,h args=some v→1000≤ct→bd (fun _=>False) v∧ ∃M1 ct1,cS (gV Φ) [] f args .e ct (Φ f)= .k v M1 ct1):dK P f (aN h):=by
 refine ad8 hm hΦ ?_
 intro F args M ct v N ct' hg hW
 unfold aN at hg
 split at hg
 ·rename_i x hx;injection hg with e1 e2 e3
  subst e1 e2 e3;obtain⟨h1,M1,ct1,h2⟩:=hh args x ct hx hW.ge;exact⟨[],.e,M1,ct1,⟨fun b blk hb=>(by cases hb),fun b blk hb=>(by cases hb),fun b hb=>(by cases hb)⟩,h2,ag _,dY (fun b hb=>hb.elim) x h1,fun b blk hb=> .inr ⟨hb,rfl⟩⟩
 ·cases hg
def Gi(Φ:Nat→Option CF)(f:Nat)(cf:CF):Nat→Option CF:=fun k=>if k=f then some cf else Φ k
theorem iQ{P:Program}{Φ:Nat→Option CF}(hΦ:eA P Φ){f:Nat}{g:RO→List V→Mem→Nat→RC}(hg:dK P f g):eA P (Gi Φ f (.orc g)):=by
 intro k cf hk
 unfold Gi at hk
 split at hk
 ·rename_i e;subst e;obtain rfl:=ae hk;exact hg
 ·exact hΦ k cf hk
section
variable{Φ:Nat→Option CF}{rd:Option Nat}{fn:Nat}{F:RO}
abbrev K(Φ:Nat→Option CF)(rd:Option Nat)(fn:Nat)(F:RO):Kn:= .mk Φ (gV Φ) rd fn F
def Wp(c:CC)(k:Kn)(s:St)(Q:Ex→St→Prop):Prop:=∃e s',b8 c k s= .k e s'∧Q e s'
def mZ(ops:List CO)(k:Kn)(s:St)(R:St→Prop):Prop:=∃s',cR ops k s=some s'∧R s'
def qp(b:CC)(k:Kn)(Q:Ex→St→Prop):Ex→St→Prop
 | .nrm,s=>Wp b k s Q
 |e,s=>Q e s
def mm(id:Nat)(Q:Ex→St→Prop):Ex→St→Prop
 | .ext id',s=>if id'=id then Q .nrm s else Q (.ext id') s
 |e,s=>Q e s
def CG(b:CC)(k:Kn)(Q:Ex→St→Prop):Ex→St→Prop
 | .nrm,s=>Wp (.loop b) k s Q
 |e,s=>Q e s
theorem DK(k:Kn)(s:St)(Q:Ex→St→Prop):Wp .skip k s Q=Q .nrm s:=by
 apply propext;constructor
 ·rintro⟨e,s',h,q⟩;cases h;exact q
 ·exact fun q=>⟨_,_,rfl,q⟩
theorem av3(k:Kn)(s:St)(Q:Ex→St→Prop):Wp .ret k s Q=Q .ret s:=by
 apply propext;constructor
 ·rintro⟨e,s',h,q⟩;cases h;exact q
 ·exact fun q=>⟨_,_,rfl,q⟩
theorem Sq(id:Nat)(k:Kn)(s:St)(Q:Ex→St→Prop):Wp (.exit id) k s Q=Q (.ext id) s:=by
 apply propext;constructor
 ·rintro⟨e,s',h,q⟩;cases h;exact q
 ·exact fun q=>⟨_,_,rfl,q⟩
theorem av2(ops:List CO)(k:Kn)(s:St)(Q:Ex→St→Prop):Wp (.reg ops) k s Q=mZ ops k s (Q .nrm):=by
 apply propext;constructor
 ·rintro⟨e,s',h,q⟩;have h':nQ (cR ops k s)= .k e s':=h;cases hs:cR ops k s with
  |none=>rw[hs]at h';cases h'
  |some s1=>
   rw[hs]at h';have:Rs.k .nrm s1= .k e s':=h';injection this with e1 e2
   subst e1 e2;exact⟨_,hs,q⟩
 ·rintro⟨s',h,q⟩;exact⟨_,_,show nQ (cR ops k s)=_ by rw[h];rfl,q⟩
theorem BN(a b:CC)(k:Kn)(s:St)(Q:Ex→St→Prop):Wp (.seq a b) k s Q=Wp a k s (qp b k Q):=by
 apply propext;constructor
 ·rintro⟨e,s',h,q⟩;have h':jf (b8 b) k (b8 a k s)= .k e s':=h;cases hs:b8 a k s with
  |f=>rw[hs]at h';cases h'
  |k e1 s1=>
   rw[hs]at h';refine⟨e1,s1,hs,?_⟩;cases e1 with
   |nrm=>exact⟨e,s',h',q⟩
   |ret=>have h2:Rs.k .ret s1= .k e s':=h';injection h2 with a1 a2;subst a1 a2;exact q
   |ext id=>have h2:Rs.k (.ext id) s1= .k e s':=h';injection h2 with a1 a2;subst a1 a2;exact q
   |gto id=>have h2:Rs.k (.gto id) s1= .k e s':=h';injection h2 with a1 a2;subst a1 a2;exact q
 ·rintro⟨e1,s1,h1,q⟩;cases e1 with
  |nrm=>
   obtain⟨e,s',h2,q⟩:=q;exact⟨e,s',show jf (b8 b) k (b8 a k s)=_ by rw[h1];exact h2,q⟩
  |ret=>exact⟨_,_,show jf (b8 b) k (b8 a k s)=_ by rw[h1];rfl,q⟩
  |ext id=>exact⟨_,_,show jf (b8 b) k (b8 a k s)=_ by rw[h1];rfl,q⟩
  |gto id=>exact⟨_,_,show jf (b8 b) k (b8 a k s)=_ by rw[h1];rfl,q⟩
theorem yr(b:CC)(k:Kn)(Q:Ex→St→Prop)(s:St):qp b k Q .nrm s=Wp b k s Q:=rfl
theorem Np(b:CC)(k:Kn)(Q:Ex→St→Prop)(s:St):qp b k Q .ret s=Q .ret s:=rfl
theorem Nn(b:CC)(k:Kn)(Q:Ex→St→Prop)(s:St)(id:Nat):qp b k Q (.ext id) s=Q (.ext id) s:=rfl
theorem OG(id:Nat)(b:CC)(k:Kn)(s:St)(Q:Ex→St→Prop):Wp (.block id b) k s Q=Wp b k s (mm id Q):=by
 apply propext;constructor
 ·rintro⟨e,s',h,q⟩;have h':ea id (b8 b k s)= .k e s':=h;cases hs:b8 b k s with
  |f=>rw[hs]at h';cases h'
  |k e1 s1=>
   rw[hs]at h';refine⟨e1,s1,hs,?_⟩;cases e1 with
   |nrm=>have h2:Rs.k .nrm s1= .k e s':=h';injection h2 with a1 a2;subst a1 a2;exact q
   |ret=>have h2:Rs.k .ret s1= .k e s':=h';injection h2 with a1 a2;subst a1 a2;exact q
   |gto l=>have h2:Rs.k (.gto l) s1= .k e s':=h';injection h2 with a1 a2;subst a1 a2;exact q
   |ext i=>
    have h2:Bool.rec (motive:=fun _=>Rs) (.k (.ext i) s1) (.k .nrm s1) (Nat.beq i id)= .k e s':=h';rw[bb,bI]at h2;show(if i=id then Q .nrm s1 else Q (.ext i) s1);by_cases hi:i=id
    ·rw[ac (by simpa using hi)]at h2;injection h2 with a1 a2;subst a1 a2
     rw[ac hi];exact q
    ·rw[ab (by simpa using hi)]at h2;injection h2 with a1 a2;subst a1 a2
     rw[ab hi];exact q
 ·rintro⟨e1,s1,h1,q⟩;cases e1 with
  |nrm=>exact⟨_,_,show ea id (b8 b k s)=_ by rw[h1];rfl,q⟩
  |ret=>exact⟨_,_,show ea id (b8 b k s)=_ by rw[h1];rfl,q⟩
  |gto l=>exact⟨_,_,show ea id (b8 b k s)=_ by rw[h1];rfl,q⟩
  |ext i=>
   have h2:ea id (b8 b k s)=Bool.rec (motive:=fun _=>Rs) (.k (.ext i) s1) (.k .nrm s1) (Nat.beq i id):=by rw[h1];rfl
   rw[bb,bI]at h2;replace q:(if i=id then Q .nrm s1 else Q (.ext i) s1):=q;by_cases hi:i=id
   ·rw[ac (by simpa using hi)]at h2;rw[ac hi]at q;exact⟨_,_,h2,q⟩
   ·rw[ab (by simpa using hi)]at h2;rw[ab hi]at q;exact⟨_,_,h2,q⟩
theorem zW(id:Nat)(Q:Ex→St→Prop)(s:St):mm id Q .nrm s=Q .nrm s:=rfl
theorem zX(id:Nat)(Q:Ex→St→Prop)(s:St):mm id Q .ret s=Q .ret s:=rfl
theorem zU(id i:Nat)(Q:Ex→St→Prop)(s:St):mm id Q (.ext i) s=if i=id then Q .nrm s else Q (.ext i) s:=rfl
theorem iG(b:CC)(s:St)(Q:Ex→St→Prop):Wp (.loop b) (K Φ rd fn F) s Q=Wp b (K Φ rd fn F) s (CG b (K Φ rd fn F) Q):=by
 apply propext;constructor
 ·rintro⟨e,s',h,q⟩;have h':fp b (K Φ rd fn F) (b8 b (K Φ rd fn F) s)= .k e s':=h;cases hs:b8 b (K Φ rd fn F) s with
  |f=>rw[hs]at h';cases h'
  |k e1 s1=>
   rw[hs]at h';refine⟨e1,s1,hs,?_⟩;cases e1 with
   |nrm=>
    have h2:gV Φ rd fn F (.loop b) s1= .k e s':=h';rw[oC]at h2;exact⟨e,s',h2,q⟩
   |ret=>have h2:Rs.k .ret s1= .k e s':=h';injection h2 with a1 a2;subst a1 a2;exact q
   |ext id=>have h2:Rs.k (.ext id) s1= .k e s':=h';injection h2 with a1 a2;subst a1 a2;exact q
   |gto id=>have h2:Rs.k (.gto id) s1= .k e s':=h';injection h2 with a1 a2;subst a1 a2;exact q
 ·rintro⟨e1,s1,h1,q⟩;cases e1 with
  |nrm=>
   obtain⟨e,s',h2,q⟩:=q;refine⟨e,s',show fp b (K Φ rd fn F) (b8 b (K Φ rd fn F) s)=_ from ?_,q⟩;rw[h1];show gV Φ rd fn F (.loop b) s1=_;rw[oC];exact h2
  |ret=>exact⟨_,_,show fp b (K Φ rd fn F) (b8 b (K Φ rd fn F) s)=_ by rw[h1];rfl,q⟩
  |ext id=>exact⟨_,_,show fp b (K Φ rd fn F) (b8 b (K Φ rd fn F) s)=_ by rw[h1];rfl,q⟩
  |gto id=>exact⟨_,_,show fp b (K Φ rd fn F) (b8 b (K Φ rd fn F) s)=_ by rw[h1];rfl,q⟩
theorem F3(b:CC)(k:Kn)(Q:Ex→St→Prop)(s:St):CG b k Q .nrm s=Wp (.loop b) k s Q:=rfl
theorem F4(b:CC)(k:Kn)(Q:Ex→St→Prop)(s:St):CG b k Q .ret s=Q .ret s:=rfl
theorem EZ(b:CC)(k:Kn)(Q:Ex→St→Prop)(s:St)(id:Nat):CG b k Q (.ext id) s=Q (.ext id) s:=rfl
theorem Wp.mono{c:CC}{k:Kn}{s:St}{Q Q':Ex→St→Prop}(h:Wp c k s Q)(hq:∀e s',Q e s'→Q' e s'):Wp c k s Q':=by
 obtain⟨e,s',h1,q⟩:=h
 exact⟨e,s',h1,hq e s' q⟩
theorem FV{b:CC}{Q:Ex→St→Prop}(I:Nat→St→Prop)(h:∀n s,I n s→Wp b (K Φ rd fn F) s fun e s'=>match e with| .nrm=>∃m,m<n∧I m s'|e=>Q e s'):∀n s,I n s→Wp (.loop b) (K Φ rd fn F) s Q:=by
 intro n
 induction n using Nat.strongRecOn with
 |_ n ih=>
  intro s hs;rw[iG];refine(h n s hs).mono fun e s' he=>?_;cases e with
  |nrm=>obtain⟨m,hm,hI⟩:=he;exact ih m hm s' hI
  |_=>exact he
theorem yJ{x:X}{a b:CC}{k:Kn}{t:T}{d:List Nat}{M:Mem}{c:Nat}{Q:Ex→St→Prop}(hx:x.ev t= .b true):Wp (.cond x a b) k (.mk t d M c) Q=Wp a k (.mk t d M c) Q:=by
 have he:b8 (.cond x a b) k (.mk t d M c)=b8 a k (.mk t d M c):=by
  show gU x a b (b8 a) (b8 b) k (.mk t d M c)=_;unfold gU;show CN (x.ev t) _ _=_;rw[hx];rfl
 unfold Wp;rw[he]
theorem yI{x:X}{a b:CC}{k:Kn}{t:T}{d:List Nat}{M:Mem}{c:Nat}{Q:Ex→St→Prop}(hx:x.ev t= .b false):Wp (.cond x a b) k (.mk t d M c) Q=Wp b k (.mk t d M c) Q:=by
 have he:b8 (.cond x a b) k (.mk t d M c)=b8 b k (.mk t d M c):=by
  show gU x a b (b8 a) (b8 b) k (.mk t d M c)=_;unfold gU;show CN (x.ev t) _ _=_;rw[hx];rfl
 unfold Wp;rw[he]
theorem av1(k:Kn)(s:St)(R:St→Prop):mZ [] k s R=R s:=by
 apply propext;constructor
 ·rintro⟨s',h,q⟩;cases h;exact q
 ·exact fun q=>⟨_,rfl,q⟩
theorem fu(o:CO)(r:List CO)(k:Kn)(s:St)(R:St→Prop):mZ (o::r) k s R↔ ∃s',dE o k s=some s'∧mZ r k s' R:=by
 constructor
 ·rintro⟨s',h,q⟩;have h':jK (cR r) k (dE o k s)=some s':=h;cases hs:dE o k s with
  |none=>rw[hs]at h';cases h'
  |some s1=>rw[hs]at h';exact⟨s1,rfl,s',h',q⟩
 ·rintro⟨s1,h1,s',h2,q⟩;exact⟨s',show jK (cR r) k (dE o k s)=some s' by rw[h1];exact h2,q⟩
def QR.to{β:Type}(r:QR)(f:β)(g:V→β):β:=match r with
 | .f=>f
 | .v x=>g x
 | .r x _=>g x
theorem bi7{p:aJ}{o:QO}{r:List CO}{k:Kn}{t:T}{d:List Nat}{M:Mem}{c:Nat}{R:St→Prop}{x:V}(h:(cG o k.F M t).val=some x):
 mZ (.mk (some p) (.q o) none::r) k (.mk t d M c) R=mZ r k (.mk (t.setP p x) d M c) R:=by
 have hs:dE (.mk (some p) (.q o) none) k (.mk t d M c)=some (.mk (t.setP p x) d M c):=by
  show S0 (some p) t d M c (cG o k.F M t)=_;cases hq:cG o k.F M t with
  |f=>rw[hq]at h;cases h
  |v y=>rw[hq]at h;obtain rfl:=ae h;exact fo _ _ _ _ _ _
  |r y b=>rw[hq]at h;obtain rfl:=ae h;exact fo _ _ _ _ _ _
 apply propext
 rw[fu,hs]
 constructor
 ·rintro⟨s',h,q⟩;obtain rfl:=ae h;exact q
 ·exact fun q=>⟨_,rfl,q⟩
theorem bi6{p:aJ}{o:AO}{r:List CO}{k:Kn}{t:T}{d:List Nat}{M:Mem}{c:Nat}{R:St→Prop}{v:V}{blk:bv}(h:iV o c t=some (v,blk)):
 mZ (.mk (some p) (.a o) none::r) k (.mk t d M c) R=mZ r k (.mk (t.setP p v) d (M.set c blk) (c+1)) R:=by
 have hs:dE (.mk (some p) (.a o) none) k (.mk t d M c)=some (.mk (t.setP p v) d (M.set c blk) (c+1)):=by
  show RZ (some p) t d M c (iV o c t)=_;rw[h];show Nk (some p) t d M c v blk=_;unfold Nk;rw[Tr.force_eq,bo,fo];rfl
 apply propext
 rw[fu,hs]
 constructor
 ·rintro⟨s',h,q⟩;obtain rfl:=ae h;exact q
 ·exact fun q=>⟨_,rfl,q⟩
theorem b05{dst:Option aJ}{o:EO}{r:List CO}{k:Kn}{t:T}{d:List Nat}{M M':Mem}{c c':Nat}{R:St→Prop}{v:V}(h:eE o k M c t= .k v M' c'):
 mZ (.mk dst (.e o) none::r) k (.mk t d M c) R=mZ r k (.mk (setT t dst v) d M' c') R:=by
 have hs:dE (.mk dst (.e o) none) k (.mk t d M c)=some (.mk (setT t dst v) d M' c'):=by
  show th dst t d (eE o k M c t)=_;rw[h];exact fo _ _ _ _ _ _
 apply propext
 rw[fu,hs]
 constructor
 ·rintro⟨s',h,q⟩;obtain rfl:=ae h;exact q
 ·exact fun q=>⟨_,rfl,q⟩
theorem b07{dst:Option aJ}{o:OK}{g:aJ}{want:Bool}{r:List CO}{k:Kn}{t:T}{d:List Nat}{M:Mem}{c:Nat}{R:St→Prop}(hg:cd t g= .b want):
 mZ (.mk dst o (some (g,want))::r) k (.mk t d M c) R=mZ (.mk dst o none::r) k (.mk t d M c) R:=by
 have hw:wanted t (some (g,want))=true:=by
  show fX want (cd t g)=_;rw[hg];cases want<;>rfl
 have hs:dE (.mk dst o (some (g,want))) k (.mk t d M c)=dE (.mk dst o none) k (.mk t d M c):=by
  show Yw o k dst t d M c (wanted t (some (g,want)))=_;rw[hw];rfl
 apply propext
 rw[fu,fu,hs]
theorem b06{dst:Option aJ}{o:OK}{g:aJ}{want:Bool}{r:List CO}{k:Kn}{t:T}{d:List Nat}{M:Mem}{c:Nat}{R:St→Prop}(hg:cd t g= .b (!want)):
 mZ (.mk dst o (some (g,want))::r) k (.mk t d M c) R=mZ r k (.mk (setT t dst undef) d M c) R:=by
 have hw:wanted t (some (g,want))=false:=by
  show fX want (cd t g)=_;rw[hg];cases want<;>rfl
 have hs:dE (.mk dst o (some (g,want))) k (.mk t d M c)=some (.mk (setT t dst undef) d M c):=by
  show Yw o k dst t d M c (wanted t (some (g,want)))=_;rw[hw];exact fo _ _ _ _ _ _
 apply propext
 rw[fu,hs]
 constructor
 ·rintro⟨s',h,q⟩;obtain rfl:=ae h;exact q
 ·exact fun q=>⟨_,rfl,q⟩
theorem b08{dst:Option aJ}{o:OK}{g:aJ}{want:Bool}{r:List CO}{k:Kn}{t:T}{d:List Nat}{M:Mem}{c:Nat}{R:St→Prop}(hg:cd t g=undef):
 mZ (.mk dst o (some (g,want))::r) k (.mk t d M c) R=mZ r k (.mk (setT t dst undef) d M c) R:=by
 have hw:wanted t (some (g,want))=false:=by
  show fX want (cd t g)=_;rw[hg];rfl
 have hs:dE (.mk dst o (some (g,want))) k (.mk t d M c)=some (.mk (setT t dst undef) d M c):=by
  show Yw o k dst t d M c (wanted t (some (g,want)))=_;rw[hw];exact fo _ _ _ _ _ _
 apply propext
 rw[fu,hs]
 constructor
 ·rintro⟨s',h,q⟩;obtain rfl:=ae h;exact q
 ·exact fun q=>⟨_,rfl,q⟩
def Q(n:Nat):aJ:=bp n
def DR(o:Option (List V))(M:Mem)(c:Nat)(Post:V→Mem→Nat→Prop):Prop:=match o with
 |none=>False
 |some vs=>Post (qh vs) M c
def Gv(o:Option Mem)(F:RO)(t:T)(res:List RV)(c:Nat)(Post:V→Mem→Nat→Prop):Prop:=match o with
 |none=>False
 |some M=>DR (dF F M t res) M c Post
def lO(F:RO)(res:List RV)(Post:V→Mem→Nat→Prop):Ex→St→Prop
 | .nrm,.mk t d M c=>Gv (bY d M) F t res c Post
 | .ret,.mk t d M c=>Gv (bY d M) F t res c Post
 |_,_=>False
theorem LJ(F:RO)(res:List RV)(Post:V→Mem→Nat→Prop)(t:T)(M:Mem)(c:Nat):lO F res Post .nrm (.mk t [] M c)=DR (dF F M t res) M c Post:=rfl
theorem LL(F:RO)(res:List RV)(Post:V→Mem→Nat→Prop)(t:T)(M:Mem)(c:Nat):lO F res Post .ret (.mk t [] M c)=DR (dF F M t res) M c Post:=rfl
theorem b67(vs:List V)(M:Mem)(c:Nat)(Post:V→Mem→Nat→Prop):DR (some vs) M c Post=Post (qh vs) M c:=rfl
def tN(v:V):Option (List V)→Option (List V)
 |some l=>some (v::l)
 |none=>none
theorem A9(v:V)(l:List V):tN v (some l)=some (v::l):=rfl
theorem Ft(F:RO)(M:Mem)(t:T):dF F M t []=some []:=rfl
theorem ag1(F:RO)(M:Mem)(t:T)(p:aJ)(r:List RV):dF F M t (.t p::r)=tN (cd t p) (dF F M t r):=by
 show ql (cd t p) (dF F M t r)=_
 cases dF F M t r<;>rfl
theorem MI(v:V):qh [v]=v:=rfl
theorem MJ(v w:V)(l:List V):qh (v::w::l)= .t (v::w::l):=rfl
theorem tK{f n:Nat}{res:List RV}{body:CC}{args:List V}{M:Mem}{c:Nat}{Post:V→Mem→Nat→Prop}(hf:Φ f=some (.mk n res body))
 (h:Wp body (K Φ none f F) (.mk (bz n args) [] M c) (lO F res Post)):∃v M' c',cS (gV Φ) F f args M c (Φ f)= .k v M' c'∧Post v M' c':=by
 obtain⟨e,s,h1,hq⟩:=h
 obtain⟨t,d,M1,c1⟩:=s
 have hend:CB e=true∧Gv (bY d M1) F t res c1 Post:=by
  cases e with
  |nrm=>exact⟨rfl,hq⟩
  |ret=>exact⟨rfl,hq⟩
  |ext id=>exact hq.elim
  |gto l=>exact hq.elim
 have hcall:cS (gV Φ) F f args M c (some (.mk n res body))=Bool.rec (motive:=fun _=>RC) .f (vn res F t c1 (bY d M1)) (CB e):=by
  show kD res F (gV Φ none f F body (.mk (bz n args) [] M c))=_;rw[oC,h1];rfl
 rw[hf,hcall,hend.1]
 have h2:=hend.2
 cases hd:bY d M1 with
 |none=>rw[hd]at h2;exact h2.elim
 |some M2=>
  rw[hd]at h2;have h3:DR (dF F M2 t res) M2 c1 Post:=h2;cases hr:dF F M2 t res with
  |none=>rw[hr]at h3;exact h3.elim
  |some vs=>
   rw[hr]at h3;exact⟨qh vs,M2,c1,show vp c1 M2 (dF F M2 t res)=_ by rw[hr];rfl,h3⟩
end
section
variable{Φ:Nat→Option CF}{rd:Option Nat}{fn:Nat}{F:RO}
def aC3(o:Option V)(p:aJ)(r:List CO)(k:Kn)(t:T)(d:List Nat)(M:Mem)(c:Nat)(R:St→Prop):Prop:=match o with
 |none=>False
 |some x=>mZ r k (.mk (t.setP p x) d M c) R
def aC1(o:Option (V×bv))(p:aJ)(r:List CO)(k:Kn)(t:T)(d:List Nat)(M:Mem)(c:Nat)(R:St→Prop):Prop:=match o with
 |none=>False
 |some x=>mZ r k (.mk (t.setP p x.1) d (M.set c x.2) (c+1)) R
def Zt(o:RC)(p:aJ)(r:List CO)(k:Kn)(t:T)(d:List Nat)(R:St→Prop):Prop:=match o with
 | .f=>False
 | .k v M c=>mZ r k (.mk (t.setP p v) d M c) R
def SO(o:RC)(r:List CO)(k:Kn)(t:T)(d:List Nat)(R:St→Prop):Prop:=match o with
 | .f=>False
 | .k v M c=>mZ r k (.mk t d M c) R
theorem bf2(x:V)(p:aJ)(r:List CO)(k:Kn)(t:T)(d:List Nat)(M:Mem)(c:Nat)(R:St→Prop):aC3 (some x) p r k t d M c R=mZ r k (.mk (t.setP p x) d M c) R:=rfl
theorem bf0(v:V)(b:bv)(p:aJ)(r:List CO)(k:Kn)(t:T)(d:List Nat)(M:Mem)(c:Nat)(R:St→Prop):aC1 (some (v,b)) p r k t d M c R=mZ r k (.mk (t.setP p v) d (M.set c b) (c+1)) R:=rfl
theorem bf1(v:V)(M:Mem)(c:Nat)(p:aJ)(r:List CO)(k:Kn)(t:T)(d:List Nat)(R:St→Prop):Zt (.k v M c) p r k t d R=mZ r k (.mk (t.setP p v) d M c) R:=rfl
theorem aQ2(v:V)(M:Mem)(c:Nat)(r:List CO)(k:Kn)(t:T)(d:List Nat)(R:St→Prop):SO (.k v M c) r k t d R=mZ r k (.mk t d M c) R:=rfl
theorem bj1(p:aJ)(o:QO)(r:List CO)(t:T)(d:List Nat)(M:Mem)(c:Nat)(R:St→Prop):
 mZ (.mk (some p) (.q o) none::r) (K Φ rd fn F) (.mk t d M c) R=aC3 (cG o F M t).val p r (K Φ rd fn F) t d M c R:=by
 cases h:(cG o F M t).val with
 |some x=>rw[bi7 (k:=K Φ rd fn F) h];rfl
 |none=>
  apply propext;rw[fu];constructor
  ·rintro⟨s',h1,_⟩;have h1':S0 (some p) t d M c (cG o F M t)=some s':=h1;cases hq:cG o F M t with
   |f=>rw[hq]at h1';cases h1'
   |v y=>rw[hq]at h;cases h
   |r y b=>rw[hq]at h;cases h
  ·exact False.elim
theorem bi9(p:aJ)(o:AO)(r:List CO)(t:T)(d:List Nat)(M:Mem)(c:Nat)(R:St→Prop):
 mZ (.mk (some p) (.a o) none::r) (K Φ rd fn F) (.mk t d M c) R=aC1 (iV o c t) p r (K Φ rd fn F) t d M c R:=by
 cases h:iV o c t with
 |some x=>rw[bi6 (k:=K Φ rd fn F) (v:=x.1) (blk:=x.2) h];rfl
 |none=>
  apply propext;rw[fu];constructor
  ·rintro⟨s',h1,_⟩;have h1':RZ (some p) t d M c (iV o c t)=some s':=h1;rw[h]at h1';cases h1'
  ·exact False.elim
theorem bj0(p:aJ)(o:EO)(r:List CO)(t:T)(d:List Nat)(M:Mem)(c:Nat)(R:St→Prop):
 mZ (.mk (some p) (.e o) none::r) (K Φ rd fn F) (.mk t d M c) R=Zt (eE o (K Φ rd fn F) M c t) p r (K Φ rd fn F) t d R:=by
 cases h:eE o (K Φ rd fn F) M c t with
 |k v M' c'=>rw[b05 h];rfl
 |f=>
  apply propext;rw[fu];constructor
  ·rintro⟨s',h1,_⟩;have h1':th (some p) t d (eE o (K Φ rd fn F) M c t)=some s':=h1;rw[h]at h1';cases h1'
  ·exact False.elim
theorem b18(o:EO)(r:List CO)(t:T)(d:List Nat)(M:Mem)(c:Nat)(R:St→Prop):
 mZ (.mk none (.e o) none::r) (K Φ rd fn F) (.mk t d M c) R=SO (eE o (K Φ rd fn F) M c t) r (K Φ rd fn F) t d R:=by
 cases h:eE o (K Φ rd fn F) M c t with
 |k v M' c'=>rw[b05 h];rfl
 |f=>
  apply propext;rw[fu];constructor
  ·rintro⟨s',h1,_⟩;have h1':th none t d (eE o (K Φ rd fn F) M c t)=some s':=h1;rw[h]at h1';cases h1'
  ·exact False.elim
theorem Sy(f:Nat)(as:List X)(M:Mem)(c:Nat)(t:T):eE (.call f as) (K Φ rd fn F) M c t=cS (gV Φ) F f (evs as t) M c (Φ f):=rfl
theorem Ek(F:RO)(f:Nat)(args:List V)(M:Mem)(c:Nat)(g:RO→List V→Mem→Nat→RC):cS (gV Φ) F f args M c (some (.orc g))=g F args M c:=rfl
theorem ab1(l r:T)(v:V):cd (Tr.n l (some v) r) .h=v:=Eq.trans (rfl:_=v) (Eq.refl v)
theorem ab3(l r:T):cd (Tr.n l none r) .h=undef:=Eq.trans (rfl:_=undef) (Eq.refl undef)
theorem ab2(l r:T)(v:Option V)(p:aJ):cd (Tr.n l v r) (.l p)=cd l p:=Eq.trans (rfl:_=cd l p) (Eq.refl _)
theorem ab4(l r:T)(v:Option V)(p:aJ):cd (Tr.n l v r) (.r p)=cd r p:=Eq.trans (rfl:_=cd r p) (Eq.refl _)
theorem ev_t(p:aJ)(t:T):(X.t p).ev t=cd t p:=rfl
theorem ev_c(v:V)(t:T):(X.c v).ev t=v:=rfl
theorem QT(t:T):evs [] t=[]:=rfl
theorem LU(x:X)(l:List X)(t:T):evs (x::l) t=x.ev t::evs l t:=rfl
theorem bg9(x:X)(M:Mem)(t:T):(cG (.mv x) F M t).val=some (x.ev t):=rfl
def pkV:V→V→V→Option V
 | .b x,a,b=>some (bif x then a else b)
 |_,_,_=>none
theorem aU7(c a b:X)(M:Mem)(t:T):(cG (.pk c a b) F M t).val=pkV (c.ev t) (a.ev t) (b.ev t):=by
 show(Fo c a b F M t).val=_
 unfold Fo pkV
 cases c.ev t with
 |b x=>cases x<;>rfl
 |_=>rfl
theorem aP9(a b:V):pkV (.b true) a b=some a:=rfl
theorem aP8(a b:V):pkV (.b false) a b=some b:=rfl
def du(op:BinOp):V→V→Option V
 | .i k a,.i k' b=>(eG op k a k' b).val
 | .s n a,.s m b=>(L9 op n a m b).val
 |_,_=>none
theorem ai0(op:BinOp)(x y:X)(M:Mem)(t:T):(cG (.bi op x y) F M t).val=du op (x.ev t) (y.ev t):=by
 show(y0 op x y F M t).val=_
 unfold y0 du
 cases x.ev t with
 |i k a=>
  show(rN (y.ev t) QR.f fun k' b=>eG op k a k' b).val=_;cases y.ev t<;>rfl
 |s n a=>
  show(ua (y.ev t) QR.f fun m b=>L9 op n a m b).val=_;cases y.ev t<;>rfl
 |_=>cases y.ev t<;>rfl
theorem ZE(k:IntKind)(a b:Int):du .add (.i k a) (.i k b)=some (.i k (k.wrap (a+b))):=by
 cases k<;>simp[du,eG,dH,nh,Ya,fZ,qd,ft,jk,Cb,QR.val]
theorem zT(k:IntKind)(a b:Int):du .sub (.i k a) (.i k b)=some (.i k (k.wrap (a-b))):=by
 show _=some (V.i k (k.wrap (Int.sub a b)))
 cases k<;>simp[du,eG,dH,nh,Yj,fZ,qd,ft,jk,QR.val]
theorem ZJ(k:IntKind)(a b:Int):du .lss (.i k a) (.i k b)=some (.b (decide (a<b))):=by
 cases k<;>simp[du,eG,dH,nh,Yg,fZ,qd,lh,fU,QR.val]
theorem ZH(k:IntKind)(a b:Int):du .gtr (.i k a) (.i k b)=some (.b (decide (b<a))):=by
 cases k<;>simp[du,eG,dH,nh,Ye,fZ,qd,lh,fU,QR.val]
theorem dle(a b:Int):decide (a≤b)= !decide (b<a):=by
 by_cases h:b<a
 ·rw[aj h,ak (by omega)];rfl
 ·rw[ak h,aj (by omega)];rfl
theorem ZI(k:IntKind)(a b:Int):du .leq (.i k a) (.i k b)=some (.b (decide (a≤b))):=by
 cases k<;>simp[du,eG,dH,nh,Yf,fZ,qd,lh,fU,fV,QR.val,dle,-decide_not,-Int.not_lt]
theorem ZG(k:IntKind)(a b:Int):du .geq (.i k a) (.i k b)=some (.b (decide (b≤a))):=by
 cases k<;>simp[du,eG,dH,nh,Yd,fZ,qd,lh,fU,fV,QR.val,dle,-decide_not,-Int.not_lt]
theorem ZF(k:IntKind)(a b:Int):du .eql (.i k a) (.i k b)=some (.b (decide (a=b))):=by
 cases k<;>simp[du,eG,dH,nh,Yc,fZ,qd,lh,cW,QR.val]
theorem ZL(k:IntKind)(a b:Int):du .neq (.i k a) (.i k b)=some (.b (decide (a≠b))):=by
 cases k<;>simp[du,eG,dH,nh,Yi,fZ,qd,lh,cW,fV,QR.val]
def unV(op:UnOp)(x:V):Option V:=(cG (.un op (.c x)) [] .e .e).val
theorem aU8(op:UnOp)(x:X)(M:Mem)(t:T):(cG (.un op x) F M t).val=unV op (x.ev t):=by
 cases op<;>rfl
theorem ah8(x:Bool):unV .not (.b x)=some (.b (!x)):=by cases x<;>rfl
def lnV(sh:Sh)(F:RO)(M:Mem)(x:V):Option V:=(cG (.ln sh (.c x)) F M .e).val
theorem ai1(sh:Sh)(x:X)(M:Mem)(t:T):(cG (.ln sh x) F M t).val=lnV sh F M (x.ev t):=by
 cases sh<;>rfl
theorem lnS(n x:Nat)(M:Mem):lnV .str F M (.s n x)=some (.i .i64 (n:Int)):=rfl
def vv(x i:V):Option V:=(cG (.ixS (.c x) (.c i)) [] .e .e).val
theorem YN(x i:X)(M:Mem)(t:T):(cG (.ixS x i) F M t).val=vv (x.ev t) (i.ev t):=rfl
end
def sy(k:IntKind):List Int→List V
 |[]=>[]
 |z::r=> .i k z::sy k r
def pc(ty:Nat)(k:IntKind)(zs:List Int):bv:= .cells ty zs.length false zs.length true [] (bG (sy k zs) 0 .e)
abbrev BX:=Nat×IntKind×List Int
def yA:List BX→(Nat→Nat)→RO
 |[],_=>[]
 |(g,k,zs)::r,ty=>(g,pc (ty g) k zs)::yA r ty
def tz(W:World)(t:BX):Prop:=∃ty fr,W.heap[t.1]?=some (.cells (t.2.2.map fun z=>Value.int t.2.1 z).toArray ty fr)
theorem lI(k:IntKind)(zs:List Int):sy k zs=zs.map (V.i k):=by
 induction zs with
 |nil=>rfl
 |cons z r ih=>rw[sy,ih];rfl
theorem ah4{c:Nat→Prop}{ty:Nat}{k:IntKind}{zs:List Int}:eC c (pc ty k zs):=by
 intro j v hv
 rw[cI]at hv
 split at hv
 ·rename_i hj;rw[d6]at hv;have hlen:(sy k zs).length=zs.length:=by rw[lI];simp
  rw[ac (by omega)]at hv;rw[lI]at hv;simp only[Nat.sub_zero,List.getElem?_map]at hv;rw[List.getElem?_eq_getElem hj]at hv;simp only[Option.map_some]at hv;obtain rfl:=ae hv;trivial
 ·cases hv
theorem yB{L:List BX}{ty:Nat→Nat}{b:Nat}{blk:bv}(h:bq (yA L ty) b=some blk):∃t∈L,t.1=b∧blk=pc (ty b) t.2.1 t.2.2:=by
 induction L with
 |nil=>cases h
 |cons t r ih=>
  obtain⟨g,k,zs⟩:=t;have h':Bool.rec (motive:=fun _=>Option bv) (bq (yA r ty) b) (some (pc (ty g) k zs)) (Nat.beq g b)=some blk:=h;rw[bb,bI]at h';by_cases e:g=b
  ·rw[ac (by simpa using e)]at h';subst e;exact⟨_,bw ..,rfl,(ae h').symm⟩
  ·rw[ab (by simpa using e)]at h';obtain⟨t,ht,h1,h2⟩:=ih h';exact⟨t,bn _ ht,h1,h2⟩
theorem md{P:Program}{W:World}{name:String}{k:IntKind}{zs:List Int}{g:Nat}{t e:TypeId}{n:Nat}
 (hg:P.globalNamed name=some g) (hty:(P.globals[g]?).map (·.type)=some t) (ht:P.underlying t=some (.array n e)) (he:P.underlying e=some (.int k)) (hce:P.cellsOf e=1) (hct:P.cellsOf t=n):
 ∀{laid:List (String×DataW Unit)} {ps:List MemPlace},(name,Lib.tabData k zs)∈laid→DataW.LaidVars P W laid ps→tz W (g,k,zs)
 |x::r,ps,hm,h=>by
  obtain⟨g',t',cs,fuel,p,q,hg',ht',hvar,hd,hr,_⟩:=h;rcases bf.1 hm with e1|hm'
  ·subst e1;obtain rfl:=ae (hg.symm.trans hg');obtain rfl:=ae (hty.symm.trans ht');have hcs:=Lib.cells_of_tab ht he hce hct hd;unfold World.var? at hvar;rw[hg]at hvar;simp only[Option.bind_some]at hvar;split at hvar
   ·rename_i cs' ty fr hh;obtain rfl:=ae hvar;refine⟨ty,fr,?_⟩;show W.heap[g]?=_;rw[hh,←hcs]
   ·cases hvar
  ·exact md hg hty ht he hce hct hm' hr
theorem sw{P:Program}{W:World}{name:String}{k:IntKind}{zs:List Int}{g:Nat}{t e:TypeId}{n:Nat}
 (hg:P.globalNamed name=some g) (hty:(P.globals[g]?).map (·.type)=some t) (ht:P.underlying t=some (.array n e)) (he:P.underlying e=some (.int k)) (hce:P.cellsOf e=1) (hct:P.cellsOf t=n)
 {laid:List (String×DataW Unit)} (hm:(name,Lib.tabData k zs)∈laid) (h:laidMet P laid W):tz W (g,k,zs):=by
 obtain⟨ps,hv,_⟩:=h
 exact md hg hty ht he hce hct hm hv
def Bv(k:IntKind)(z:Int):V→Bool
 | .i k' z'=>fZ k k'&&Ew z z'
 |_=>false
def ii(n:Nat)(d:List V)(c:T)(k:IntKind):List Int→Nat→Bool
 |[],i=>Nat.beq i n
 |z::r,i=>match cell n d c i with
  |some v=>Bv k z v&&ii n d c k r (Nat.succ i)
  |none=>false
def pO(F:RO)(t:BX):Bool:=match bq F t.1 with
 |some (.cells _ n false fz true d c)=>Nat.beq fz n&&ii n d c t.2.1 t.2.2 0
 |_=>false
def fq(F:RO):List BX→Bool
 |[]=>true
 |t::r=>Nat.blt t.1 1000&&(pO F t&&fq F r)
theorem o7{n:Nat}{d:List V}{c:T}{k:IntKind}:∀{zs:List Int} {i:Nat},ii n d c k zs i=true→i+zs.length=n∧ ∀j z,zs[j]?=some z→cell n d c (i+j)=some (.i k z)
 |[],i,h=>by
  have:decide (i=n)=true:=by rw[←bI];exact h
  exact⟨by simpa using this,fun j z hz=>by simp at hz⟩
 |z::r,i,h=>by
  unfold ii at h;split at h
  ·rename_i v hv;rw[ay]at h;obtain⟨h1,h2⟩:=h;obtain⟨h3,h4⟩:=o7 h2;have hve:v= .i k z:=by
    unfold Bv at h1;split at h1
    ·rename_i k' z';rw[ay,eb,cW]at h1;have a1:=bL h1.1;have a2:=bL h1.2;rw[a1,a2]
    ·cases h1
   refine⟨by simp only[av];omega,fun j z' hz=>?_⟩;cases j with
   |zero=>simp at hz;subst hz;rw[←hve];exact hv
   |succ j=>
    rw[show i+(j+1)=Nat.succ i+j by omega];exact h4 j z' (by simpa using hz)
  ·cases h
theorem NR{ty:Nat}{k:IntKind}{zs:List Int}{j:Nat}{v:V}(h:cell zs.length [] (bG (sy k zs) 0 .e) j=some v):∃z,zs[j]?=some z∧v= .i k z:=by
 rw[cI]at h
 split at h
 ·rename_i hj;rw[d6]at h;have hlen:(sy k zs).length=zs.length:=by rw[lI];simp
  rw[ac (by omega)]at h;rw[lI]at h;simp only[Nat.sub_zero,List.getElem?_map]at h;rw[List.getElem?_eq_getElem hj]at h;simp only[Option.map_some]at h;exact⟨zs[j],List.getElem?_eq_getElem hj,(ae h).symm⟩
 ·cases h
theorem NQ{P:Program}{E:cH}{F:RO}{M:Mem}{c:Nat→Prop}{w:World}{t:BX}(hr:jR P E F M c w)(h:pO F t=true):∃ty o,w.heap[E.ρ t.1]?=some o∧dN P E t.1 (pc ty t.2.1 t.2.2) o:=by
 unfold pO at h
 split at h
 ·rename_i ty n fz d cs hF;rw[ay,bI]at h;obtain⟨h0,h⟩:=h;have h0:=bL h0;subst h0;obtain⟨h1,h2⟩:=o7 h;have hl:look F M t.1=some (.cells ty fz false fz true d cs):=by
   rw[aR (hr.apart t.1 (by rw[hF];rfl))];exact hF
  obtain⟨_,_,o,ho,arr,fr,rfl,hc⟩:=hr.has _ _ hl;have hn:t.2.2.length=fz:=by omega
  subst hn;refine⟨ty,_,ho,arr,fr,rfl,?_,hc.size,hc.free,hc.plain⟩;intro j v hv;obtain⟨z,hz,rfl⟩:=NR (ty:=ty) hv;refine hc.cell j _ ?_;have:=h2 j z hz
  rwa [Nat.zero_add]at this
 ·cases h
theorem sA{F:RO}:∀{L:List BX},fq F L=true→ ∀t∈L,t.1<1000∧pO F t=true
 |[],_,t,ht=>by cases ht
 |x::r,h,t,ht=>by
  have h':(Nat.blt x.1 1000&&(pO F x&&fq F r))=true:=h;rw[ay,ay,fG]at h';rcases bf.1 ht with e|ht'
  ·subst e;exact⟨bL h'.1,h'.2.1⟩
  ·exact sA h'.2.2 t ht'
theorem Bb{P:Program}{E:cH}{F:RO}{M:Mem}{c:Nat→Prop}{w:World}{L:List BX}(hr:jR P E F M c w)(hglob:∀g,g<1000→E.ρ g=g∧E.β g=0)(h:fq F L=true):∃ty,jR P E (yA L ty) .e c0 w:=by
 have hall:=sA h
 have hty:∃ty:Nat→Nat,∀b,∀t∈L,t.1=b→ ∃o,w.heap[E.ρ b]?=some o∧dN P E b (pc (ty b) t.2.1 t.2.2) o:=by
  refine⟨fun b=>match w.heap[E.ρ b]? with|some (.cells _ ty _)=>ty|_=>0,fun b t ht e=>?_⟩;subst e;obtain⟨ty,o,ho,hB⟩:=NQ hr (hall t ht).2;have hB':=hB;obtain⟨arr,fr,rfl,_⟩:=hB;refine⟨_,ho,?_⟩;simp only[ho];exact hB'
 obtain⟨ty,hty⟩:=hty
 refine⟨ty,⟨?_,?_,fun b hb=>rfl⟩⟩
 ·intro b blk hb;rw[aR (show(Tr.e:Mem).get b=none from rfl)]at hb;obtain⟨t,ht,e,rfl⟩:=yB hb;subst e;obtain⟨o,ho,hB⟩:=hty _ t ht rfl;exact⟨(hall t ht).1,ah4,o,ho,hB⟩
 ·intro b b' h1 h2 e;have lt:∀x,(look (yA L ty) .e x).isSome→x<1000:=by
   intro x hx;obtain⟨y,hy⟩:=bB.1 hx;rw[aR (show(Tr.e:Mem).get x=none from rfl)]at hy;obtain⟨t,ht,e,_⟩:=yB hy;subst e;exact(hall t ht).1
  rw[(hglob b (lt b h1)).1,(hglob b' (lt b' h2)).1]at e;exact e
theorem qi{P:Program}(hm:P.follows .mixedOrders=true){Φ:Nat→Option CF}(hΦ:eA P Φ){fuel f:Nat}{L:List BX}(h:∀ty,isT (aR6 Φ fuel (yA L ty) f [])=true):
 dK P f (fun F args M ct=>match args with|[]=>bif fq F L then .k (.b true) M ct else .f|_=> .f):=by
 intro F args M ct v N ct' hg E c w hr hglob hbig hf ha
 cases args with
 |cons a r=>cases hg
 |nil=>
  have hg':(bif fq F L then RC.k (.b true) M ct else .f)= .k v N ct':=hg;cases ht:fq F L with
  |false=>rw[ht]at hg';cases hg'
  |true=>
   rw[ht]at hg';have hg2:RC.k (.b true) M ct= .k v N ct':=hg';injection hg2 with e1 e2 e3
   subst e1 e2 e3;obtain⟨ty,hrel⟩:=Bb hr hglob ht;obtain⟨M',ct2,hk⟩:=Mo (h ty);obtain⟨fn,h1,h2,h3,hC⟩:=gJ (rd:=none) (fn:=0) (F₀:=[]) hΦ (ru hm hΦ fuel) (yA L ty) f [] .e 1000 (.b true) M' ct2 hk E c0 w hrel hglob (fun g hg=>hg) (fun b hb hc=>Nat.lt_irrefl _ (Nat.lt_of_lt_of_le hc hb)) trivial;refine⟨fn,h1,h2,h3,hC.mono ?_⟩;rintro e w' ⟨E',c',rfl,hS,hb,hG⟩;have hfr:∀r,r<w.heap.size→w'.heap[r]?=w.heap[r]?:=fun r hr'=>hS.frame r hr' (fun b hb=>by cases hb);have hhas:∀b blk,look F M b=some blk→c b∧eC c blk∧ ∃o,w'.heap[E.ρ b]?=some o∧dN P E b blk o:=by
    intro b blk hb;obtain⟨g1,g2,o,ho,g3⟩:=hr.has b blk hb;exact⟨g1,g2,o,by rw[hfr _ (Array.getElem?_eq_some_iff.1 ho).1];exact ho,g3⟩
   exact⟨E,c,rfl,⟨.refl c E,fun _ h=>h,⟨hhas,hr.inj,hr.apart⟩,fun b hb=> .inl ⟨b,hb,rfl⟩,fun r hr' _=>hfr r hr',hS.size,hS.os,hS.output,hS.tape⟩,trivial,.refl _ _⟩
theorem Tr.setP_same{α:Type}(p:aJ)(v w:α):∀t:Tr α,(t.setP p v).setP p w=t.setP p w:=by
 induction p with
 |h=>intro t;cases t<;>rfl
 |l p ih=>
  intro t;cases t with
  |e=>rw[Tr.setP_el,Tr.setP_l,ih,Tr.setP_el]
  |n l x r=>rw[Tr.setP_l,Tr.setP_l,ih,Tr.setP_l]
 |r p ih=>
  intro t;cases t with
  |e=>rw[Tr.setP_er,Tr.setP_r,ih,Tr.setP_er]
  |n l x r=>rw[Tr.setP_r,Tr.setP_r,ih,Tr.setP_r]
theorem p8{α:Type}(v:α):∀(f k:Nat),k+1<2^(f+1)→Tr.single (some v) f k=(Tr.e:Tr α).setP (jA f k) v
 |0,k,h=>by
  have:k=0:=by simp at h;omega
  subst this;rfl
 |f+1,k,h=>by
  have hp:(2:Nat)^(f+1+1)=2*2^(f+1):=by rw[Nat.pow_succ];omega
  rw[Tr.single_succ,pJ];by_cases h0:k=0
  ·rw[ac h0,ac h0];rfl
  ·rw[ab h0,ab h0];by_cases h2:k%2=0
   ·rw[ac h2,ac h2,Tr.setP_er,p8 v f _ (by omega)]
   ·rw[ab h2,ab h2,Tr.setP_el,p8 v f _ (by omega)]
theorem mK{α:Type}(v:α)(t:Tr α):∀k:Nat,t.set k v=t.setP (bp k) v:=by
 induction t with
 |e=>
  intro k;show(Tr.e:Tr α).put (some v) k=_;rw[Tr.put_e];refine p8 v _ k ?_;have:=Nat.lt_log2_self (n:=k);have hp:(2:Nat)^(k.log2+1+1)=2*2^(k.log2+1):=by rw[Nat.pow_succ];omega
  omega
 |n l x r ihl ihr=>
  intro k;show(Tr.n l x r).put (some v) k=_;rw[Tr.put_n];by_cases h0:k=0
  ·subst h0;rfl
  ·rw[ab h0];by_cases h2:k%2=0
   ·rw[ac h2];have e:bp k= .r (bp (k/2-1)):=by rw[←rT];congr 1;omega
    rw[e,Tr.setP_r,←ihr];rfl
   ·rw[ab h2];have e:bp k= .l (bp (k/2)):=by rw[←uf];congr 1;omega
    rw[e,Tr.setP_l,←ihl];rfl
theorem nZ{α:Type}(t:Tr α)(k:Nat)(v w:α):(t.set k v).set k w=t.set k w:=by
 rw[mK,mK,mK,Tr.setP_same]
theorem yt{α:Type}(t:Tr α){k j:Nat}(h:k≠j)(v w:α):(t.set k v).set j w=(t.set j w).set k v:=by
 rw[mK,mK,mK,mK,Tr.setP_comm (bp k) v (bp j) w t (fun e=>h (ud e).symm)]
def gE(l:List V):T:=bG l 0 .e
theorem lU(v:V):∀(l:List V) (k i:Nat) (t:T),i<k→bG l k (t.set i v)=(bG l k t).set i v
 |[],k,i,t,h=>rfl
 |x::l,k,i,t,h=>by
  rw[cK,cK,yt _ (show i≠k by omega),lU v l (k+1) i _ (by omega)]
theorem rI(v:V):∀(l:List V) (k i:Nat) (t:T),i<l.length→(bG l k t).set (k+i) v=bG (l.set i v) k t
 |[],k,i,t,h=>by cases h
 |x::l,k,0,t,h=>by
  rw[List.set_cons_zero,cK,cK,be k,←lU v l (k+1) k _ (by omega),nZ]
 |x::l,k,i+1,t,h=>by
  rw[List.set_cons_succ,cK,cK,show k+(i+1)=(k+1)+i by omega,rI v l (k+1) i _ (by simpa using h)]
theorem Ng(v:V)(l:List V)(i:Nat)(h:i<l.length):(gE l).set i v=gE (l.set i v):=by
 have:=rI v l 0 i .e h
 rwa [Nat.zero_add]at this
def over:List V→Nat→List V→List V
 |l,_,[]=>l
 |l,i,v::r=>over (l.set i v) (i+1) r
theorem pI:∀(vs l:List V) (i:Nat),(over l i vs).length=l.length
 |[],l,i=>rfl
 |v::r,l,i=>by rw[over,pI r];simp
theorem pH:∀(vs l:List V) (i:Nat),i+vs.length≤l.length→bG vs i (gE l)=gE (over l i vs)
 |[],l,i,h=>rfl
 |v::r,l,i,h=>by
  simp only[av]at h;rw[cK,Ng _ _ _ (by omega),over,pH r _ _ (by simp;omega)]
def af(ty:Nat)(l:List V):bv:= .cells ty l.length true 0 false [] (gE l)
theorem rb(l:List V)(i:Nat):cell l.length [] (gE l) i=l[i]?:=by
 rw[cI]
 by_cases h:i<l.length
 ·rw[ac h];unfold gE;rw[d6,ac (by omega)];simp only[Nat.sub_zero];rw[List.getElem?_eq_getElem h]
 ·rw[ab h,List.getElem?_eq_none (by omega)]
theorem pq(l:List V):∀(n i:Nat),i+n≤l.length→dL l.length [] (gE l) n i=some ((l.drop i).take n)
 |0,i,h=>by rw[np];simp
 |n+1,i,h=>by
  rw[gu,rb,List.getElem?_eq_getElem (by omega)];show(match dL l.length [] (gE l) n (i+1)with|none=>none|some r=>some (l[i]::r))=_;rw[pq l n (i+1) (by omega)];simp only;rw[←List.getElem_cons_drop (by omega:i<l.length),List.take_succ_cons]
section
variable{Φ:Nat→Option CF}{rd:Option Nat}{fn:Nat}{F:RO}
theorem lY(M:Mem)(b:Nat)(x:bv):look F (M.set b x) b=some x:=au (by rw[Tr.get_set,ac rfl])
theorem kG(M:Mem){b b':Nat}(x:bv)(h:b'≠b):look F (M.set b x) b'=look F M b':=cA (by rw[Tr.get_set,ab h])
theorem rJ(M:Mem)(b o ty:Nat)(l:List V):load1 F (M.set b (af ty l)) b o=l[o]?:=by
 unfold load1
 rw[lY]
 exact rb l o
theorem xO(M:Mem){b b':Nat}(o:Nat)(x:bv)(h:b'≠b):load1 F (M.set b x) b' o=load1 F M b' o:=by
 unfold load1
 rw[kG M x h]
theorem d7(M:Mem)(b o n ty:Nat)(l:List V)(h:o+n≤l.length):loadN F (M.set b (af ty l)) b o n=some ((l.drop o).take n):=by
 unfold loadN
 rw[lY]
 exact pq l n o h
theorem MA(M:Mem){b b':Nat}(o n:Nat)(x:bv)(h:b'≠b):loadN F (M.set b x) b' o n=loadN F M b' o n:=by
 unfold loadN
 rw[kG M x h]
theorem pM(M:Mem)(b o ty:Nat)(l vs:List V)(h:o+vs.length≤l.length)(h1:aC vs=true):bK (M.set b (af ty l)) b o vs=some (M.set b (af ty (over l o vs))):=by
 have hg:(M.set b (af ty l)).get b=some (af ty l):=by rw[Tr.get_set,ac rfl]
 show Option.rec (motive:=fun _=>Option Mem) none (fun blk=>lG (M.set b (af ty l)) b o vs blk) ((M.set b (af ty l)).get b)=_
 rw[hg]
 show(Bool.rec (motive:=fun _=>Option Mem) none (Bool.rec (motive:=fun _=>Option Mem) none (Bool.rec (motive:=fun _=>Option Mem) none (dU (M.set b (af ty l)) b o vs ty l.length true 0 false [] (gE l)) (aC vs)) (Nat.ble 0 o)) (Nat.ble (Nat.add o vs.length) l.length))=_
 rw[bb,bb,bb,bW,bW,aj (show Nat.add o vs.length≤l.length from h),aj (aB o),h1]
 simp only[if_true]
 unfold dU
 rw[Tr.force_eq,Tr.force_eq,pH _ _ _ h,nZ]
 unfold af
 rw[pI]
theorem FK(M:Mem){b b':Nat}(o:Nat)(x:bv)(vs:List V)(h:b'≠b){M':Mem}(hs:bK M b' o vs=some M'):bK (M.set b x) b' o vs=some (M'.set b x):=by
 obtain⟨ty,n,ex,fz,str,d,cs,hM,h1,h2,h3,rfl⟩:=kT hs
 have hg:(M.set b x).get b'=some (.cells ty n ex fz str d cs):=by rw[Tr.get_set,ab h];exact hM
 show Option.rec (motive:=fun _=>Option Mem) none (fun blk=>lG (M.set b x) b' o vs blk) ((M.set b x).get b')=_
 rw[hg]
 show(Bool.rec (motive:=fun _=>Option Mem) none (Bool.rec (motive:=fun _=>Option Mem) none (Bool.rec (motive:=fun _=>Option Mem) none (dU (M.set b x) b' o vs ty n ex fz str d cs) (aC vs)) (Nat.ble fz o)) (Nat.ble (Nat.add o vs.length) n))=_
 rw[bb,bb,bb,bW,bW,aj (show Nat.add o vs.length≤n from h1),aj h2,h3]
 simp only[if_true]
 unfold dU
 rw[Tr.force_eq,Tr.force_eq,yt _ (Ne.symm h)]
def aN1(F:RO)(M:Mem)(x:V):Option V:=(cG (.ld1 (.c x)) F M .e).val
def aN6(n:Nat)(F:RO)(M:Mem)(x:V):Option V:=(cG (.ldn n (.c x)) F M .e).val
theorem aU4(x:X)(M:Mem)(t:T):(cG (.ld1 x) F M t).val=aN1 F M (x.ev t):=rfl
theorem aU5(n:Nat)(x:X)(M:Mem)(t:T):(cG (.ldn n x) F M t).val=aN6 n F M (x.ev t):=rfl
theorem aN2(M:Mem)(b o:Nat):aN1 F M (.p b o)=load1 F M b o:=by
 show(qrb b (load1 F M b o)).val=_
 cases load1 F M b o<;>rfl
theorem aN7(n:Nat)(M:Mem)(b o:Nat):aN6 n F M (.p b o)=(loadN F M b o n).map .g:=by
 show(qgb b (loadN F M b o n)).val=_
 cases loadN F M b o n<;>rfl
theorem aU1(off:Nat)(x:X)(M:Mem)(t:T):(cG (.fa off x) F M t).val=match x.ev t with| .p b o=>some (.p b (o+off))|_=>none:=by
 show(qf (x.ev t) .f fun b o=>sW b (Nat.add o off)).val=_
 cases x.ev t with
 |p b o=>
  show(sW b (Nat.add o off)).val=_;unfold sW;rw[bo];rfl
 |_=>rfl
theorem Q5(ty:Nat)(cs:List V)(b:Nat)(t:T)(h:aC cs=true):iV (.al ty cs) b t=some (.p b 0,af ty cs):=by
 show(bif aC cs then some (V.p b 0,bv.cells ty cs.length true 0 false [] (bG cs 0 .e))else none)=_
 rw[h];rfl
theorem Q8(ty sz:Nat)(x:X)(b:Nat)(t:T):iV (.bx ty sz x) b t=if(flatten (x.ev t)).length=sz∧aC (flatten (x.ev t))=true then some (.p b 0,af ty (flatten (x.ev t)))else none:=by
 show(bif Nat.beq (flatten (x.ev t)).length sz&&aC (flatten (x.ev t))then some (V.p b 0,bv.cells ty sz true 0 false [] (bG (flatten (x.ev t)) 0 .e))else none)=_
 rw[bI]
 by_cases h:(flatten (x.ev t)).length=sz
 ·rw[aj h];cases ha:aC (flatten (x.ev t))with
  |true=>rw[ac ⟨h,rfl⟩,←h];rfl
  |false=>rw[ab (fun hh=>by cases hh.2)];rfl
 ·rw[ak h,ab (fun hh=>h hh.1)];rfl
theorem vg(n:Nat)(x v:X)(M:Mem)(c:Nat)(t:T):eE (.st n x v) (K Φ rd fn F) M c t=match x.ev t with
 | .p b o=>if(flatten (v.ev t)).length=n then er c (bK M b o (flatten (v.ev t)))else .f
 |_=> .f:=by
 show(qf (x.ev t) .f fun b o=>tR n b o (flatten (v.ev t)) M c)=_
 cases x.ev t with
 |p b o=>
  show tR n b o (flatten (v.ev t)) M c=_;unfold tR;rw[bb,bI];simp only[decide_eq_true_eq]
 |_=>rfl
theorem QQ(c:Nat)(M:Mem):er c (some M)= .k undef M c:=rfl
end
section
variable{Φ:Nat→Option CF}{rd:Option Nat}{fn:Nat}{F:RO}
def ofO(o:Option V)(M:Mem)(c:Nat):RC:=match o with
 |some v=> .k v M c
 |none=> .f
theorem MW(h:List V→Option V)(F:RO)(args:List V)(M:Mem)(c:Nat):aN h F args M c=ofO (h args) M c:=rfl
theorem MF(v:V)(M:Mem)(c:Nat):ofO (some v) M c= .k v M c:=rfl
theorem EB(x:Bool):flatten (.b x)=[.b x]:=rfl
theorem EE(k:IntKind)(x:Int):flatten (.i k x)=[.i k x]:=rfl
theorem EI(n x:Nat):flatten (.s n x)=[.s n x]:=rfl
theorem EH(b o:Nat):flatten (.p b o)=[.p b o]:=rfl
theorem Al:flatten .p0=[.p0]:=rfl
theorem EF(b o n c:Nat):flatten (.l b o n c)=[.l b o n c]:=rfl
theorem EJ(b o n e k:Nat):flatten (.u b o n e k)=[.u b o n e k]:=rfl
theorem Aj:flatten .l0=[.l0]:=rfl
theorem EG(b:Nat):flatten (.m b)=[.m b]:=rfl
theorem Ak:flatten .m0=[.m0]:=rfl
theorem EC(f:Nat)(a b:List V):flatten (.f f a b)=[.f f a b]:=rfl
theorem Ai:flatten .f0=[.f0]:=rfl
theorem ED(l:List V):flatten (.g l)=l:=rfl
theorem ce:aC []=true:=rfl
theorem aE(v:V)(l:List V):aC (v::l)=(bF v&&aC l):=by
 show Bool.rec (motive:=fun _=>Bool) false (aC l) (bF v)=_
 cases bF v<;>rfl
theorem R1(x:Bool):bF (.b x)=true:=rfl
theorem R3(k:IntKind)(x:Int):bF (.i k x)=true:=rfl
theorem R7(n x:Nat):bF (.s n x)=true:=rfl
theorem R6(b o:Nat):bF (.p b o)=true:=rfl
theorem Mn:bF .p0=true:=rfl
theorem R4(b o n c:Nat):bF (.l b o n c)=true:=rfl
theorem R8(b o n e k:Nat):bF (.u b o n e k)=true:=rfl
theorem Ml:bF .l0=true:=rfl
theorem R5(b:Nat):bF (.m b)=true:=rfl
theorem R2(f:Nat)(a b:List V):bF (.f f a b)=true:=rfl
theorem Mk:bF .f0=true:=rfl
def pB(cs:List V):List (Nat×Nat×List V)→Option (List V)
 |[]=>some cs
 |(o,n,vs)::r=>if vs.length=n then(match eH cs o vs with|some cs=>pB cs r|none=>none)else none
theorem mH:∀(o:Nat) (l vs:List V),o+vs.length≤l.length→eH l o vs=some (over l o vs)
 |0,l,[],h=>by cases l<;>rfl
 |0,[],v::r,h=>by simp at h
 |0,x::l,v::r,h=>by
  have key:∀(r l:List V) (v:V),over (v::l) 1 r=v::over l 0 r:=by
   have gen:∀(r l:List V) (v:V) (i:Nat),over (v::l) (i+1) r=v::over l i r:=by
    intro r
    induction r with
    |nil=>intro l v i;rfl
    |cons a r ih=>intro l v i;rw[over,over,List.set_cons_succ,ih]
   exact fun r l v=>gen r l v 0
  rw[eH,mH 0 l r (by simp at h;omega),over,List.set_cons_zero,key]
 |o+1,[],vs,h=>by simp at h
 |o+1,x::l,vs,h=>by
  have gen:∀(r l:List V) (v:V) (i:Nat),over (v::l) (i+1) r=v::over l i r:=by
   intro r
   induction r with
   |nil=>intro l v i;rfl
   |cons a r ih=>intro l v i;rw[over,over,List.set_cons_succ,ih]
  rw[eH,mH o l vs (by simp at h;omega),gen]
def Y8(t:T):List (Nat×Nat×X)→List (Nat×Nat×List V)
 |[]=>[]
 |(o,n,x)::r=>(o,n,flatten (x.ev t))::Y8 t r
theorem QS(t:T):Y8 t []=[]:=rfl
theorem xB(t:T)(o n:Nat)(x:X)(r:List (Nat×Nat×X)):Y8 t ((o,n,x)::r)=(o,n,flatten (x.ev t))::Y8 t r:=rfl
theorem Ez(cs:List V):pB cs []=some cs:=rfl
theorem rv(cs:List V)(o n:Nat)(vs:List V)(r:List (Nat×Nat×List V)):pB cs ((o,n,vs)::r)=if vs.length=n then(match eH cs o vs with|some cs=>pB cs r|none=>none)else none:=rfl
theorem MM(l:List V)(i:Nat):over l i []=l:=rfl
theorem F9(l:List V)(i:Nat)(v:V)(r:List V):over l i (v::r)=over (l.set i v) (i+1) r:=rfl
theorem nv(t:T):∀(ps:List (Nat×Nat×X)) (cs:List V),fillParts t cs ps=pB cs (Y8 t ps)
 |[],cs=>rfl
 |(o,n,x)::ps,cs=>by
  rw[xB,rv,fillParts,bI];by_cases hc:(flatten (x.ev t)).length=n
  ·rw[aj hc,cond_true,ac hc];cases eH cs o (flatten (x.ev t))with
   |none=>rfl
   |some cs'=>exact nv t ps cs'
  ·rw[ak hc,cond_false,ab hc]
theorem YL(zero:List V)(ps:List (Nat×Nat×X))(M:Mem)(t:T):(cG (.bld zero ps) F M t).val=(pB zero (Y8 t ps)).map .g:=by
 show(qg (fillParts t zero ps)).val=_
 rw[nv]
 cases pB zero (Y8 t ps)<;>rfl
theorem YM(off:Nat)(x:X)(M:Mem)(t:T):(cG (.fl1 off x) F M t).val=match x.ev t with| .g cs=>cs[off]?|_=>none:=by
 show(AG (x.ev t) .f fun cs=>qr (nF cs off)).val=_
 cases x.ev t with
 |g cs=>
  show(qr (nF cs off)).val=cs[off]?;rw[iN];cases cs[off]?<;>rfl
 |_=>rfl
theorem aU2(off n:Nat)(x:X)(M:Mem)(t:T):(cG (.fln off n x) F M t).val=match x.ev t with| .g cs=>(kV n (j5 off cs)).map .g|_=>none:=by
 show(AG (x.ev t) .f fun cs=>qg (kV n (j5 off cs))).val=_
 cases x.ev t with
 |g cs=>
  show(qg (kV n (j5 off cs))).val=(kV n (j5 off cs)).map .g;cases kV n (j5 off cs)<;>rfl
 |_=>rfl
theorem aU0(i:Nat)(x:X)(M:Mem)(t:T):(cG (.ex i x) F M t).val=match x.ev t with| .t cs=>cs[i]?|_=>none:=by
 show(rX i x F M t).val=_
 unfold rX
 cases x.ev t with
 |t cs=>
  show(qr (nF cs i)).val=cs[i]?;rw[iN];cases cs[i]?<;>rfl
 |_=>rfl
theorem aT8(k:IntKind)(x:X)(M:Mem)(t:T):(cG (.ci k x) F M t).val=match x.ev t with| .i _ n=>some (.i k (k.wrap n))|_=>none:=by
 show(rN (x.ev t) .f fun _ n=>vI k (wr k n)).val=_
 cases x.ev t with
 |i k' n=>
  show(vI k (wr k n)).val=_;rw[ft,jk];rfl
 |_=>rfl
def ZB:Option Bool→Option Bool→Option Bool
 |some b,r=>if b=true then r else some false
 |none,_=>none
theorem E7(b c:Bool):ZB (some b) (some c)=some (b&&c):=by cases b<;>rfl
def aK3(F:RO)(M:Mem)(sh:Sh)(x y:Option V):Option Bool:=match x,y with
 |some x,some y=>yZ F M sh false x y
 |_,_=>none
theorem Eu(M:Mem)(sh:Sh)(x y:V):aK3 F M sh (some x) (some y)=yZ F M sh false x y:=rfl
theorem Et(M:Mem)(xs ys:List V):jV F M xs ys []=some true:=rfl
theorem mt(M:Mem)(xs ys:List V)(o:Nat)(sh:Sh)(r:List (Nat×Sh)):jV F M xs ys ((o,sh)::r)=ZB (aK3 F M sh (xs[o]?) (ys[o]?)) (jV F M xs ys r):=by
 rw[jV,iN,iN]
 cases xs[o]? with
 |none=>rfl
 |some x=>
  cases ys[o]? with
  |none=>rfl
  |some y=>
   show(match yZ F M sh false x y with|some true=>jV F M xs ys r|r=>r)=ZB (yZ F M sh false x y) _;cases yZ F M sh false x y with
   |none=>rfl
   |some b=>cases b<;>rfl
def Rj(neg:Bool):Option Bool→Option V
 |some r=>some (.b (bif neg then !r else r))
 |none=>none
theorem ac9(r:Bool):Rj false (some r)=some (.b r):=rfl
theorem ad0(r:Bool):Rj true (some r)=some (.b (!r)):=rfl
theorem aT9(neg:Bool)(sh:Sh)(lit:Bool)(x y:X)(M:Mem)(t:T):(cG (.eq neg sh lit x y) F M t).val=Rj neg (tW F M sh lit (x.ev t) (y.ev t)):=by
 show(uh neg (tW F M sh lit (x.ev t) (y.ev t))).val=_
 cases tW F M sh lit (x.ev t) (y.ev t)with
 |none=>rfl
 |some r=>
  show(vB (bif neg then !r else r)).val=_;rw[lh];rfl
theorem QM(ks:List (Nat×Sh))(lit:Bool)(M:Mem)(xs ys:List V):tW F M (.agg ks) lit (.g xs) (.g ys)=jV F M xs ys ks:=rfl
theorem QN(lit:Bool)(M:Mem)(k:IntKind)(a b:Int):tW F M .int lit (.i k a) (.i k b)=some (decide (a=b)):=by
 show QL (.i k a) (.i k b)=_
 simp[QL,eb,cW]
theorem QK(lit:Bool)(M:Mem)(k:IntKind)(a b:Int):yZ F M .int lit (.i k a) (.i k b)=some (decide (a=b)):=by
 show QL (.i k a) (.i k b)=_
 simp[QL,eb,cW]
theorem xr(lit:Bool)(M:Mem)(a b:Bool):yZ F M .bool lit (.b a) (.b b)=some (decide (a=b)):=by
 show eqB (.b a) (.b b)=_
 cases a<;>cases b<;>rfl
theorem b17(x:X)(as:List X)(M:Mem)(c:Nat)(t:T):eE (.cv x as) (K Φ rd fn F) M c t=iy (K Φ rd fn F) (x.ev t) (evs as t) M c:=rfl
theorem Qu(f:Nat)(first caps args:List V)(M:Mem)(c:Nat):iy (K Φ rd fn F) (.f f first caps) args M c=cS (gV Φ) F f (first++(args++caps)) M c (Φ f):=rfl
theorem aU6(f:Nat)(first caps:List X)(M:Mem)(t:T):(cG (.mkf f first caps) F M t).val=some (.f f (evs first t) (evs caps t)):=rfl
theorem RT(M:Mem)(t:T)(p:aJ)(sz:Nat)(r:List RV):dF F M t (.cn p sz::r)=match cd t p with
 | .p b o=>match loadN F M b o sz with|some l=>tN (.g l) (dF F M t r)|none=>none
 |_=>none:=by
 show Option.rec (motive:=fun _=>Option (List V)) none (fun v=>ql v (dF F M t r)) (uk F M t (.cn p sz))=_
 show Option.rec (motive:=fun _=>Option (List V)) none (fun v=>ql v (dF F M t r)) (qf (cd t p) none fun b o=>Option.rec (motive:=fun _=>Option V) none (fun l=>some (.g l)) (loadN F M b o sz))=_
 cases cd t p with
 |p b o=>
  show Option.rec (motive:=fun _=>Option (List V)) none (fun v=>ql v (dF F M t r)) (Option.rec (motive:=fun _=>Option V) none (fun l=>some (.g l)) (loadN F M b o sz))=_;simp only;cases loadN F M b o sz with
  |none=>rfl
  |some l=>
   show ql (.g l) (dF F M t r)=tN (.g l) (dF F M t r);cases dF F M t r<;>rfl
 |_=>rfl
theorem RQ(M:Mem)(t:T)(p:aJ)(r:List RV):dF F M t (.c1 p::r)=match cd t p with
 | .p b o=>match load1 F M b o with|some v=>tN v (dF F M t r)|none=>none
 |_=>none:=by
 show Option.rec (motive:=fun _=>Option (List V)) none (fun v=>ql v (dF F M t r)) (qf (cd t p) none fun b o=>load1 F M b o)=_
 cases cd t p with
 |p b o=>
  show Option.rec (motive:=fun _=>Option (List V)) none (fun v=>ql v (dF F M t r)) (load1 F M b o)=_;simp only;cases load1 F M b o with
  |none=>rfl
  |some v=>
   show ql v (dF F M t r)=tN v (dF F M t r);cases dF F M t r<;>rfl
 |_=>rfl
def pF(len sz:Nat)(x i:V):Option V:=(cG (.ixA1 len sz (.c x) (.c i)) [] .e .e).val
theorem O3(len sz:Nat)(x i:X)(M:Mem)(t:T):(cG (.ixA1 len sz x i) F M t).val=pF len sz (x.ev t) (i.ev t):=rfl
theorem oI(len:Nat)(cs:List V)(k:IntKind)(n:Int):pF len 1 (.g cs) (.i k n)=if 0≤n∧n<len then cs[n.toNat]? else none:=by
 show(AG (V.g cs) QR.f fun cs=>nB len 1 cs (pV (.i k n))).val=_
 show(nB len 1 cs (pV (.i k n))).val=_
 cases n with
 |ofNat m=>
  show(bif Nat.blt m len then qr (nF cs (Nat.mul m 1))else QR.f).val=_;rw[fG];by_cases h:m<len
  ·rw[aj h,cond_true,ac ⟨Int.natCast_nonneg m,Int.ofNat_lt.2 h⟩];show(qr (nF cs (Nat.mul m 1))).val=_;rw[iN,show Nat.mul m 1=m from Nat.mul_one m];show _=cs[m]?;cases cs[m]?<;>rfl
  ·rw[ak h,cond_false,ab (fun hh=>h (Int.ofNat_lt.1 hh.2))];rfl
 |negSucc m=>
  rw[ab (fun hh=>by have:=hh.1;exact absurd this (by simp))];rfl
theorem getD_some{l:List V}{i:Nat}(h:i<l.length)(d:V):l[i]?=some ((l[i]?).getD d):=by
 rw[List.getElem?_eq_getElem h];rfl
def aO2(b:Nat)(x:bv):Option Mem→Option Mem
 |some M=>some (M.set b x)
 |none=>none
theorem F5(b:Nat)(x:bv)(M:Mem):aO2 b x (some M)=some (M.set b x):=rfl
theorem Bu(M:Mem){b b':Nat}(o:Nat)(x:bv)(vs:List V)(h:b'≠b):bK (M.set b x) b' o vs=aO2 b x (bK M b' o vs):=by
 cases hs:bK M b' o vs with
 |some M'=>rw[FK M o x vs h hs];rfl
 |none=>
  cases hs2:bK (M.set b x) b' o vs with
  |none=>rfl
  |some M2=>
   exfalso;obtain⟨ty,n,ex,fz,str,d,cs,hM,h1,h2,h3,_⟩:=kT hs2;rw[Tr.get_set,ab h]at hM;have:bK M b' o vs=some (M.set b' (.cells ty n ex fz str d (bG vs o cs))):=by
    show Option.rec (motive:=fun _=>Option Mem) none (fun blk=>lG M b' o vs blk) (M.get b')=_;rw[hM];show(Bool.rec (motive:=fun _=>Option Mem) none (Bool.rec (motive:=fun _=>Option Mem) none (Bool.rec (motive:=fun _=>Option Mem) none (dU M b' o vs ty n ex fz str d cs) (aC vs)) (Nat.ble fz o)) (Nat.ble (Nat.add o vs.length) n))=_;rw[bb,bb,bb,bW,bW,aj (show Nat.add o vs.length≤n from h1),aj h2,h3];simp only[if_true];unfold dU;rw[Tr.force_eq,Tr.force_eq]
   rw[hs]at this;cases this
theorem Rh(c n:Nat):(c≠c+(n+1))=True:=eq_true (by omega)
theorem Ri(c n:Nat):(c+(n+1)≠c)=True:=eq_true (by omega)
theorem ac8(c i j:Nat)(h:(i==j)=false):(c+i≠c+j)=True:=eq_true (fun e=>by
 have:i=j:=by omega
 rw[beq_eq_false_iff_ne]at h
 exact h this)
def To(Φ:Nat→Option CF)(f:Nat)(args:List V)(ct:Nat)(v:V):Prop:=∃M1 ct1,cS (gV Φ) [] f args .e ct (Φ f)= .k v M1 ct1
theorem gG{f n:Nat}{res:List RV}{body:CC}{args:List V}{c:Nat}{v:V}(hf:Φ f=some (.mk n res body))
 (h:Wp body (K Φ none f []) (.mk (bz n args) [] .e c) (lO [] res fun v' _ _=>v'=v)):To Φ f args c v:=by
 obtain⟨v',M',c',h1,rfl⟩:=tK hf h
 exact⟨M',c',h1⟩
end
theorem jl{n:Int}(h1: -9223372036854775808≤n)(h2:n<9223372036854775808):IntKind.i64.wrap n=n:=by
 rw[sL .i64 n 18446744073709551616 9223372036854775808 rfl rfl rfl]
 split<;>omega
theorem qO(n:Int):kW .i64 n=(n%18446744073709551616).toNat:=rfl
theorem ZK(k:IntKind)(a b:Int):du .mul (.i k a) (.i k b)=some (.i k (k.wrap (a*b))):=by
 show _=some (V.i k (k.wrap (Int.mul a b)))
 cases k<;>simp[du,eG,dH,nh,Yh,fZ,qd,ft,jk,QR.val]
theorem L7(k:IntKind)(a b:Int):du .and (.i k a) (.i k b)=some (.i k (k.wrap ((kW k a&&&kW k b:Nat):Int))):=by
 show _=some (V.i k (k.wrap ((Nat.land (kW k a) (kW k b):Nat):Int)))
 cases k<;>simp[du,eG,dH,nh,Yb,fZ,qd,iW,QR.val]
theorem bJ(a b:Int)(h1: -9223372036854775808≤a+b)(h2:a+b<9223372036854775808):du .add (.i .i64 a) (.i .i64 b)=some (.i .i64 (a+b)):=by
 rw[ZE,jl h1 h2]
theorem Cz(a b:Int)(h1: -9223372036854775808≤a*b)(h2:a*b<9223372036854775808):du .mul (.i .i64 a) (.i .i64 b)=some (.i .i64 (a*b)):=by
 rw[ZK,jl h1 h2]
section
variable{Φ:Nat→Option CF}{rd:Option Nat}{fn:Nat}{F:RO}
def kj(base:Nat)(ops:List (Nat×Nat×CO))(k:Kn)(s:DS)(R:DS→Prop):Prop:=∃s',gv k base ops s=some s'∧R s'
def Y6(d:List Nat)(Q:Ex→St→Prop):DS→Prop
 | .mk t M c pend _=>Q .nrm (.mk t d (cT pend M) c)
theorem Sp(n:Nat)(ops:List (Nat×Nat×CO))(k:Kn)(t:T)(d:List Nat)(M:Mem)(c:Nat)(Q:Ex→St→Prop):
 Wp (.dreg n ops) k (.mk t d M c) Q=kj c ops k (.mk t M (c+n) [] []) (Y6 d Q):=by
 have he:b8 (.dreg n ops) k (.mk t d M c)=rj d (gv k c ops (.mk t M (c+n) [] [])):=by
  show(fN (Nat.add c n) fun c'=>rj d (gv k c ops (.mk t M c' [] [])))=_;rw[bo];rfl
 apply propext;constructor
 ·rintro⟨e,s',h,q⟩;rw[he]at h;cases hs:gv k c ops (.mk t M (c+n) [] [])with
  |none=>rw[hs]at h;cases h
  |some s1=>
   rw[hs]at h;obtain⟨t1,M1,c1,p1,r1⟩:=s1;have h2:((cT p1 M1).force fun M=>Rs.k .nrm (.mk t1 d M c1))= .k e s':=h;rw[Tr.force_eq]at h2;injection h2 with a1 a2
   subst a1 a2;exact⟨_,hs,q⟩
 ·rintro⟨s1,hs,q⟩;obtain⟨t1,M1,c1,p1,r1⟩:=s1;refine⟨_,_,?_,q⟩;rw[he,hs];show((cT p1 M1).force fun M=>Rs.k .nrm (.mk t1 d M c1))=_;rw[Tr.force_eq]
theorem LD(d:List Nat)(Q:Ex→St→Prop)(t:T)(M:Mem)(c:Nat)(pend:List (Nat×Nat×bv))(reads:List (Nat×Nat)):Y6 d Q (.mk t M c pend reads)=Q .nrm (.mk t d (cT pend M) c):=Eq.trans rfl (Eq.refl _)
theorem nE(M:Mem):cT [] M=M:=Eq.trans rfl (Eq.refl _)
theorem av0(base:Nat)(k:Kn)(s:DS)(R:DS→Prop):kj base [] k s R=R s:=by
 apply propext;constructor
 ·rintro⟨s',h,q⟩;cases h;exact q
 ·exact fun q=>⟨_,rfl,q⟩
theorem ed(base:Nat)(o:Nat×Nat×CO)(r:List (Nat×Nat×CO))(k:Kn)(s:DS)(R:DS→Prop):kj base (o::r) k s R↔ ∃s',pX k base o s=some s'∧kj base r k s' R:=by
 constructor
 ·rintro⟨s',h,q⟩;rw[gv]at h;cases hs:pX k base o s with
  |none=>rw[hs]at h;cases h
  |some s1=>rw[hs]at h;exact⟨s1,rfl,s',h,q⟩
 ·rintro⟨s1,h1,s',h2,q⟩;exact⟨s',by rw[gv,h1];exact h2,q⟩
def kh(o:QO)(F:RO)(M:Mem)(t:T):QR:=Eo o F M t (cG o F M t)
def Zs(q:QR)(base i:Nat)(p:aJ)(r:List (Nat×Nat×CO))(k:Kn)(t:T)(M:Mem)(c:Nat)(pend:List (Nat×Nat×bv))(reads:List (Nat×Nat))(R:DS→Prop):Prop:=match q with
 | .f=>False
 | .v x=>kj base r k (.mk (t.setP p x) M c pend reads) R
 | .r x b=>kj base r k (.mk (t.setP p x) M c pend ((i,b)::reads)) R
theorem af0(x:V)(base i:Nat)(p:aJ)(r:List (Nat×Nat×CO))(k:Kn)(t:T)(M:Mem)(c:Nat)(pend:List (Nat×Nat×bv))(reads:List (Nat×Nat))(R:DS→Prop):
 Zs (.v x) base i p r k t M c pend reads R=kj base r k (.mk (t.setP p x) M c pend reads) R:=Eq.trans rfl (Eq.refl _)
theorem ae9(x:V)(b base i:Nat)(p:aJ)(r:List (Nat×Nat×CO))(k:Kn)(t:T)(M:Mem)(c:Nat)(pend:List (Nat×Nat×bv))(reads:List (Nat×Nat))(R:DS→Prop):
 Zs (.r x b) base i p r k t M c pend reads R=kj base r k (.mk (t.setP p x) M c pend ((i,b)::reads)) R:=Eq.trans rfl (Eq.refl _)
theorem bi5(base i mask:Nat)(p:aJ)(o:QO)(r:List (Nat×Nat×CO))(t:T)(M:Mem)(c:Nat)(pend:List (Nat×Nat×bv))(reads:List (Nat×Nat))(R:DS→Prop):
 kj base ((i,mask,.mk (some p) (.q o) none)::r) (K Φ rd fn F) (.mk t M c pend reads) R=Zs (kh o F M t) base i p r (K Φ rd fn F) t M c pend reads R:=by
 have he:pX (K Φ rd fn F) base (i,mask,.mk (some p) (.q o) none) (.mk t M c pend reads)=pY i (some p) t M c pend reads (kh o F M t):=rfl
 apply propext
 rw[ed,he]
 cases kh o F M t with
 |f=>exact⟨fun⟨s',h,_⟩=>(by cases h),False.elim⟩
 |v x=>
  have:pY i (some p) t M c pend reads (.v x)=some (.mk (t.setP p x) M c pend reads):=by
   show((setT t (some p) x).force fun t=>some (DS.mk t M c pend reads))=_;rw[Tr.force_eq];rfl
  rw[this];constructor
  ·rintro⟨s',h,q⟩;obtain rfl:=ae h;exact q
  ·exact fun q=>⟨_,rfl,q⟩
 |r x b=>
  have:pY i (some p) t M c pend reads (.r x b)=some (.mk (t.setP p x) M c pend ((i,b)::reads)):=by
   show((setT t (some p) x).force fun t=>some (DS.mk t M c pend ((i,b)::reads)))=_;rw[Tr.force_eq];rfl
  rw[this];constructor
  ·rintro⟨s',h,q⟩;obtain rfl:=ae h;exact q
  ·exact fun q=>⟨_,rfl,q⟩
def oV:Option V→QR
 |none=> .f
 |some x=> .v x
theorem Rn(x:V):oV (some x)= .v x:=Eq.trans rfl (Eq.refl _)
theorem eU{o:QO}{M:Mem}{t:T}(h:∀F' M',cG o F' M' t=oV (cG o [] .e t).val):kh o F M t=oV (cG o F M t).val:=by
 have h1:=h F M
 have h0:=h [] .e
 unfold kh
 rw[h1]
 cases hv:(cG o [] .e t).val with
 |none=>rfl
 |some x=>
  show cG o [] .e t= .v x;rw[h0,hv];rfl
theorem aT7(k:IntKind)(n:Int):vI k n=oV (vI k n).val:=by rw[ft];rfl
theorem aJ6(x:X)(M:Mem)(t:T):kh (.mv x) F M t= .v (x.ev t):=Eq.trans rfl (Eq.refl _)
theorem aJ2(k:IntKind)(x:X)(M:Mem)(t:T):kh (.ci k x) F M t=oV (match x.ev t with| .i _ n=>some (.i k (k.wrap n))|_=>none):=by
 refine(eU ?_).trans (congrArg oV (aT8 (F:=F) k x M t))
 intro F' M'
 show(rN (x.ev t) QR.f fun _ n=>vI k (wr k n))=oV (rN (x.ev t) QR.f fun _ n=>vI k (wr k n)).val
 cases x.ev t with
 |i k' n=>exact aT7 _ _
 |_=>rfl
theorem je{q:QR}(h:q= .f∨ ∃x,q= .v x):q=oV q.val:=by
 rcases h with rfl|⟨x,rfl⟩<;>rfl
theorem ZN(op:BinOp)(k:IntKind)(a:Int)(k':IntKind)(b:Int):eG op k a k' b= .f∨ ∃x,eG op k a k' b= .v x:=by
 have hb:∀(c:Bool) (q:QR),(q= .f∨ ∃x,q= .v x)→(Bool.rec (motive:=fun _=>QR) .f q c= .f∨ ∃x,(Bool.rec (motive:=fun _=>QR) .f q c:QR)= .v x):=by
  intro c q h;cases c
  ·exact .inl rfl
  ·exact h
 have vi:∀k n,vI k n= .f∨ ∃x,vI k n= .v x:=fun k n=> .inr ⟨_,ft k n⟩
 have vb:∀b,vB b= .f∨ ∃x,vB b= .v x:=fun b=> .inr ⟨_,lh b⟩
 cases op with
 |add=>exact hb _ _ (vi _ _)
 |sub=>exact hb _ _ (vi _ _)
 |mul=>exact hb _ _ (vi _ _)
 |quo=>
  refine hb _ _ ?_;have e:pm k a b= .f∨ ∃x,pm k a b= .v x:=by
   unfold pm;cases Ew b 0
   ·exact vi _ _
   ·exact .inl rfl
  exact e
 |rem=>
  refine hb _ _ ?_;have e:tH k a b= .f∨ ∃x,tH k a b= .v x:=by
   unfold tH;cases Ew b 0
   ·exact vi _ _
   ·exact .inl rfl
  exact e
 |and=>exact hb _ _ (vi _ _)
 |or=>exact hb _ _ (vi _ _)
 |xor=>exact hb _ _ (vi _ _)
 |andNot=>exact hb _ _ (vi _ _)
 |eql=>exact hb _ _ (vb _)
 |neq=>exact hb _ _ (vb _)
 |lss=>exact hb _ _ (vb _)
 |leq=>exact hb _ _ (vb _)
 |gtr=>exact hb _ _ (vb _)
 |geq=>exact hb _ _ (vb _)
 |shl=>
  show ag4 k a b= .f∨ ∃x,ag4 k a b= .v x;cases b with
  |ofNat n=>exact vi _ _
  |negSucc n=>exact .inl rfl
 |shr=>
  show ag5 k a b= .f∨ ∃x,ag5 k a b= .v x;cases b with
  |ofNat n=>exact vi _ _
  |negSucc n=>exact .inl rfl
theorem aJ1(op:BinOp)(x y:X)(M:Mem)(t:T){k k':IntKind}{a b:Int}(hx:x.ev t= .i k a)(hy:y.ev t= .i k' b):kh (.bi op x y) F M t=oV (du op (x.ev t) (y.ev t)):=by
 rw[←ai0 (F:=F) op x y M t]
 refine eU ?_
 intro F' M'
 have e:∀F' M',cG (.bi op x y) F' M' t=eG op k a k' b:=by
  intro F' M';show y0 op x y F' M' t=_;unfold y0;rw[hx];show(rN (y.ev t) QR.f fun k' b=>eG op k a k' b)=_;rw[hy];rfl
 rw[e,e]
 exact je (ZN op k a k' b)
theorem aJ4(i:Nat)(x:X)(M:Mem)(t:T):kh (.ex i x) F M t=oV (match x.ev t with| .t cs=>cs[i]?|_=>none):=by
 refine(eU ?_).trans (congrArg oV (aU0 (F:=F) i x M t))
 intro F' M'
 show rX i x F' M' t=oV (rX i x [] .e t).val
 unfold rX
 cases x.ev t with
 |t cs=>
  show qr (nF cs i)=oV (qr (nF cs i)).val;cases nF cs i<;>rfl
 |_=>rfl
theorem a09(x:X)(M:Mem)(t:T){b o:Nat}{v:V}(hx:x.ev t= .p b o)(h:load1 F M b o=some v):kh (.ld1 x) F M t= .r v b:=by
 have hq:∀F' M',cG (.ld1 x) F' M' t=qrb b (load1 F' M' b o):=by
  intro F' M';show(qf (x.ev t) QR.f fun b o=>qrb b (load1 F' M' b o))=_;rw[hx];rfl
 unfold kh
 rw[hq,h]
 show Lu (.ld1 x) t b (look F M b)=_
 unfold load1 at h
 cases hl:look F M b with
 |none=>rw[hl]at h;cases h
 |some blk=>
  rw[hl]at h;show yg b (cG (.ld1 x) [(b,blk)] .e t)=_;rw[hq];have h2:load1 [(b,blk)] .e b o=some v:=by
   unfold load1;have:look [(b,blk)] (.e:Mem) b=some blk:=by
    rw[aR (show(Tr.e:Mem).get b=none from rfl)];show Bool.rec (motive:=fun _=>Option bv) _ (some blk) (Nat.beq b b)=_;rw[bb,bI];simp
   rw[this];exact h
  rw[h2];rfl
theorem Bd(M:Mem):bH M []=true:=Eq.trans rfl (Eq.refl _)
theorem vF(mask i b:Nat)(r:List (Nat×Nat))(h:testBit mask i=true)(F:RO)(M:Mem)(s:List (Nat×bv)):bD mask ((i,b)::r) F M s=bD mask r F M s:=by
 rw[bD,h];rfl
def wZ(mask:Nat):List (Nat×Nat)→Bool
 |[]=>true
 |(i,_)::r=>(mask/2^i%2==1)&&wZ mask r
theorem L6(mask:Nat):wZ mask []=true:=Eq.trans rfl (Eq.refl _)
theorem tI(mask i b:Nat)(r:List (Nat×Nat)):wZ mask ((i,b)::r)=((mask/2^i%2==1)&&wZ mask r):=Eq.trans rfl (Eq.refl _)
theorem gq{mask:Nat}:∀{reads:List (Nat×Nat)},wZ mask reads=true→ ∀F M s,bD mask reads F M s=Pr.mk F M s
 |[],_,F,M,s=>rfl
 |(i,b)::r,h,F,M,s=>by
  rw[tI,ay]at h;rw[vF mask i b r (by show Nat.beq (Nat.mod (Nat.div mask (Nat.pow 2 i)) 2) 1=true;rw[bI];exact aj (show mask/2^i%2=1 by simpa using h.1))];exact gq h.2 F M s
def BW(o:RC)(F:RO)(p:Option aJ)(base:Nat)(r:List (Nat×Nat×CO))(k:Kn)(t:T)(reads:List (Nat×Nat))(R:DS→Prop):Prop:=match o with
 | .f=>False
 | .k v M c=>bH M F=true∧kj base r k (.mk (setT t p v) M c [] reads) R
theorem Ys(v:V)(M:Mem)(c:Nat)(F:RO)(p:Option aJ)(base:Nat)(r:List (Nat×Nat×CO))(k:Kn)(t:T)(reads:List (Nat×Nat))(R:DS→Prop):
 BW (.k v M c) F p base r k t reads R=(bH M F=true∧kj base r k (.mk (setT t p v) M c [] reads) R):=Eq.trans rfl (Eq.refl _)
theorem il(base i mask:Nat)(dst:Option aJ)(o:EO)(r:List (Nat×Nat×CO))(t:T)(M:Mem)(c:Nat)(reads:List (Nat×Nat))(R:DS→Prop)(hb:wZ mask reads=true):
 kj base ((i,mask,.mk dst (.e o) none)::r) (K Φ rd fn F) (.mk t M c [] reads) R=BW (eE o (K Φ rd fn F) M c t) F dst base r (K Φ rd fn F) t reads R:=by
 have hp:=gq hb
 have he:pX (K Φ rd fn F) base (i,mask,.mk dst (.e o) none) (.mk t M c [] reads)=lN F dst t [] reads [] (eE o (K Φ rd fn F) M c t):=by
  show oB o (K Φ rd fn F) dst t c [] reads (bD mask reads F M [])=_;rw[hp];rfl
 apply propext
 rw[ed,he]
 cases hd:eE o (K Φ rd fn F) M c t with
 |f=>exact⟨fun⟨s',h,_⟩=>(by cases h),False.elim⟩
 |k v M' c'=>
  have h2:lN F dst t [] reads [] (.k v M' c')=if bH M' F=true then some (DS.mk (setT t dst v) M' c' [] reads)else none:=by
   show(bif bH M' F&&bS F M' []then(aU [] M').force fun M=>(setT t dst v).force fun t=>some (DS.mk t M c' [] reads)else none)=_;cases bH M' F with
   |false=>rfl
   |true=>
    show((aU [] M').force fun M=>(setT t dst v).force fun t=>some (DS.mk t M c' [] reads))=_;rw[Tr.force_eq,Tr.force_eq];rfl
  rw[h2,Ys];constructor
  ·rintro⟨s',h,q⟩;split at h
   ·rename_i hr;obtain rfl:=ae h;exact⟨hr,q⟩
   ·cases h
  ·rintro⟨hr,q⟩;exact⟨_,ac hr,q⟩
theorem dD(M:Mem)(b:Nat)(x:bv)(F:RO):bH M ((b,x)::F)=((M.get b).isNone&&bH M F):=by
 show(bif (M.get b).isNone then bH M F else false)=_
 cases(M.get b).isNone<;>rfl
theorem ah(M:Mem){b b':Nat}(x:bv)(h:b'≠b):(M.set b x).get b'=M.get b':=by rw[Tr.get_set,ab h]
theorem vu:(none:Option bv).isNone=true:=Eq.trans rfl (Eq.refl _)
def biQ(op:BinOp)(X Y:V)(F:RO)(M:Mem):QR:=kh (.bi op (.c X) (.c Y)) F M .e
theorem a05(op:BinOp)(x y:X)(M:Mem)(t:T):kh (.bi op x y) F M t=biQ op (x.ev t) (y.ev t) F M:=Eq.trans rfl (Eq.refl _)
theorem aG8(op:BinOp)(k k':IntKind)(a b:Int)(M:Mem):biQ op (.i k a) (.i k' b) F M=oV (du op (.i k a) (.i k' b)):=aJ1 op _ _ M .e rfl rfl
def ldQ(X:V)(F:RO)(M:Mem):QR:=kh (.ld1 (.c X)) F M .e
def ldR(b:Nat):Option V→QR
 |some v=> .r v b
 |none=> .f
theorem Mw(b:Nat)(v:V):ldR b (some v)= .r v b:=Eq.trans rfl (Eq.refl _)
theorem a08(x:X)(M:Mem)(t:T):kh (.ld1 x) F M t=ldQ (x.ev t) F M:=Eq.trans rfl (Eq.refl _)
theorem aN3(b o:Nat)(M:Mem):ldQ (.p b o) F M=ldR b (load1 F M b o):=by
 cases h:load1 F M b o with
 |some v=>exact a09 _ M .e rfl h
 |none=>
  show Eo (.ld1 (.c (.p b o))) F M .e (qrb b (load1 F M b o))=_;rw[h];rfl
theorem a06(sz:Nat)(x i:X)(M:Mem)(t:T):kh (.iaS sz x i) F M t=oV ((cG (.iaS sz x i) F M t).val):=by
 refine eU fun F' M'=>?_
 show nO sz x i F' M' t=oV (nO sz x i [] .e t).val
 have key:∀(b o n:Nat) (y:V),oT sz b o n y=oV (oT sz b o n y).val:=by
  intro b o n y;unfold oT;cases y with
  |i k m=>
   show vH sz b o n m=oV (vH sz b o n m).val;cases m with
   |ofNat m=>
    show(Bool.rec (motive:=fun _=>QR) .f (sW b (Nat.add o (Nat.mul m sz))) (Nat.blt m n))=oV (Bool.rec (motive:=fun _=>QR) .f (sW b (Nat.add o (Nat.mul m sz))) (Nat.blt m n):QR).val;cases Nat.blt m n with
    |true=>
     show sW b (Nat.add o (Nat.mul m sz))=oV (sW b (Nat.add o (Nat.mul m sz))).val;unfold sW;rw[bo];rfl
    |false=>rfl
   |negSucc m=>rfl
  |_=>rfl
 unfold nO
 cases x.ev t with
 |l b o n c=>exact key b o n _
 |u b o n e k=>exact key b o n _
 |_=>rfl
def sU(x:V):Option V:=(cG (.ln .slice (.c x)) [] .e .e).val
theorem aN9(M:Mem)(x:V):lnV .slice F M x=sU x:=Eq.trans rfl (Eq.refl _)
theorem Yo(b o n c:Nat):sU (.l b o n c)=some (.i .i64 (n:Int)):=Eq.trans rfl (Eq.refl _)
theorem Mx(b o n e k:Nat):sU (.u b o n e k)=some (.i .i64 (n:Int)):=Eq.trans rfl (Eq.refl _)
theorem AC:sU .l0=some (.i .i64 0):=Eq.trans rfl (Eq.refl _)
theorem My(b o n:Nat):sU (.ue b o n)=some (.i .i64 0):=Eq.trans rfl (Eq.refl _)
def j6(sz:Nat)(x i:V):Option V:=(cG (.iaS sz (.c x) (.c i)) [] .e .e).val
theorem aU3(sz:Nat)(x i:X)(M:Mem)(t:T):(cG (.iaS sz x i) F M t).val=j6 sz (x.ev t) (i.ev t):=Eq.trans rfl (Eq.refl _)
theorem aM6(sz b o n c i:Nat)(k:IntKind)(h:i<n):j6 sz (.l b o n c) (.i k (i:Int))=some (.p b (o+i*sz)):=by
 show(vH sz b o n (Int.ofNat i)).val=_
 show(Bool.rec (motive:=fun _=>QR) .f (sW b (Nat.add o (Nat.mul i sz))) (Nat.blt i n)).val=_
 rw[bb,fG,aj h,ac rfl]
 unfold sW;rw[bo];rfl
theorem aM7(sz b o n e kn i:Nat)(k:IntKind)(h:i<n):j6 sz (.u b o n e kn) (.i k (i:Int))=some (.p b (o+i*sz)):=by
 show(vH sz b o n (Int.ofNat i)).val=_
 show(Bool.rec (motive:=fun _=>QR) .f (sW b (Nat.add o (Nat.mul i sz))) (Nat.blt i n)).val=_
 rw[bb,fG,aj h,ac rfl]
 unfold sW;rw[bo];rfl
end
section
variable{Φ:Nat→Option CF}{rd:Option Nat}{fn:Nat}{F:RO}
def sV(l:List UInt8):V:= .s l.length (bP l)
def bV(c:UInt8):V:= .i .u8 (c.toNat:Int)
theorem NK:bP []=0:=rfl
theorem lH(c:UInt8)(l:List UInt8):bP (c::l)=c.toNat+256*bP l:=rfl
theorem vU:∀l:List UInt8,bP l<256^l.length
 |[]=>by decide
 |c::l=>by
  have:=vU l;have hc:=UInt8.toNat_lt c;rw[lH,av,Nat.pow_succ];omega
theorem pN(a b:List UInt8):bP (a++b)=bP a+256^a.length*bP b:=by
 induction a with
 |nil=>simp[NK]
 |cons c a ih=>
  rw[List.cons_append,lH,lH,ih,av,Nat.pow_succ,Nat.mul_add,←Nat.mul_assoc,Nat.mul_comm 256 (256^a.length)];omega
theorem Sc(l:List UInt8)(n x:Nat)(h:bl n x=l):x%256^n=bP l:=by
 have hn:l.length=n:=by rw[←h];exact gI n x
 have e:bl n x=bl n (bP l):=by rw[h];have:=jM l;rw[hn]at this;exact this.symm
 have:=Lc n x (bP l) e
 rw[this]
 exact Nat.mod_eq_of_lt (by have:=vU l;rwa [hn]at this)
theorem ur(l:List UInt8)(n:Nat)(h:n≤l.length):bP (l.take n)=bP l%256^n:=by
 symm
 refine Sc _ n _ ?_
 rw[←va n l.length (bP l) h,jM]
theorem uq(l:List UInt8)(n:Nat)(h:n≤l.length):bP (l.drop n)=bP l/256^n:=by
 have e:=pN (l.take n) (l.drop n)
 rw[List.take_append_drop,ur l n h,List.length_take,Nat.min_eq_left h]at e
 have h0:0<256^n:=Nat.pow_pos (by decide)
 rw[e,Nat.add_mul_div_left _ _ h0,Nat.div_eq_of_lt (Nat.mod_lt _ h0),Nat.zero_add]
theorem NJ(l:List UInt8)(i:Nat)(h:i<l.length):bP l/256^i%256=(l[i]).toNat:=by
 rw[←uq l i (by omega),cF h,lH]
 have:=UInt8.toNat_lt l[i]
 omega
theorem b73(l:List UInt8)(M:Mem):lnV .str F M (sV l)=some (.i .i64 (l.length:Int)):=rfl
theorem EQ(l:List UInt8)(k:IntKind)(i:Nat)(h:i<l.length):vv (sV l) (.i k (i:Int))=some (bV l[i]):=by
 show(mG l.length (bP l) i).val=_
 show(Bool.rec (motive:=fun _=>QR) QR.f (fN (Nat.mod (Nat.div (bP l) (kJ i)) 256) fun c=>QR.v (.i .u8 (.ofNat c))) (Nat.blt i l.length)).val=_
 rw[bb,fG,ac (by simpa using h),bo]
 show some (V.i .u8 (((bP l/256^i%256:Nat)):Int))=_
 rw[NJ l i h];rfl
theorem qH(a b:List UInt8):jZ a.length (bP a) b.length (bP b)=decide (a=b):=by
 rw[gK,jM,jM]
theorem r5(a b:List UInt8):du .eql (sV a) (sV b)=some (.b (decide (a=b))):=by
 show(vB (jZ a.length (bP a) b.length (bP b))).val=_
 rw[qH]
 cases decide (a=b)<;>rfl
theorem r6(a b:List UInt8):du .neq (sV a) (sV b)=some (.b (!decide (a=b))):=by
 show(vB (!jZ a.length (bP a) b.length (bP b))).val=_
 rw[qH]
 cases decide (a=b)<;>rfl
theorem Cv(lit:Bool)(M:Mem)(a b:List UInt8):yZ F M .str lit (sV a) (sV b)=some (decide (a=b)):=by
 show some (jZ a.length (bP a) b.length (bP b))=_
 rw[qH]
theorem QP(lit:Bool)(M:Mem)(a b:List UInt8):tW F M .str lit (sV a) (sV b)=some (decide (a=b)):=Cv (F:=F) lit M a b
theorem fT(a b:List UInt8)(h:a.length+b.length≤1099511627776):du .add (sV a) (sV b)=some (sV (a++b)):=by
 show(jL a.length (bP a) b.length (bP b)).val=_
 have e:jL a.length (bP a) b.length (bP b)=QR.v (sV (a++b)):=by
  unfold jL;rw[bW,show decide (Nat.add a.length b.length≤1099511627776)=true from aj h,cond_true];show(fN (a.length+b.length) fun n=>fN (bP a%256^a.length+256^a.length*bP b) fun x=>QR.v (.s n x))=_;rw[bo,bo,Nat.mod_eq_of_lt (vU a),←pN,←aF];rfl
 rw[e];rfl
def vT(x:V)(lo hi:Option V):Option V:=(cG (.slS (.c x) (lo.map .c) (hi.map .c)) [] .e .e).val
theorem xU(tm:T)(d:Nat)(o:Option X):optN .e d ((o.map fun x=>x.ev tm).map .c)=optN tm d o:=by cases o<;>rfl
theorem YP(x:X)(lo hi:Option X)(M:Mem)(t:T):(cG (.slS x lo hi) F M t).val=vT (x.ev t) (lo.map fun x=>x.ev t) (hi.map fun x=>x.ev t):=by
 show(rZ x lo hi F M t).val=(rZ (.c (x.ev t)) _ _ [] .e .e).val
 unfold rZ
 rw[xU]
 show _=(ua (x.ev t) .f fun n s=>iO n s (optN t 0 lo) (optN .e n ((hi.map fun x=>x.ev t).map .c))).val
 congr 2
 funext n s
 rw[xU]
theorem ag7(l:List UInt8)(i j:Nat)(hi:i≤j)(hj:j≤l.length):(iO l.length (bP l) (some i) (some j)).val=some (sV ((l.take j).drop i)):=by
 have e:iO l.length (bP l) (some i) (some j)=QR.v (sV ((l.take j).drop i)):=by
  show(Bool.rec (motive:=fun _=>QR) .f (Bool.rec (motive:=fun _=>QR) .f (vS (j-i) (bP l/256^i%256^(j-i))) (Nat.ble j l.length)) (Nat.ble i j))=_;rw[bb,bb,bW,bW,ac (by simpa using hi),ac (by simpa using hj)];show(fN (j-i) fun n=>fN (bP l/256^i%256^(j-i)) fun x=>QR.v (.s n x))=_;rw[bo,bo];have e1:(l.take j).drop i=(l.drop i).take (j-i):=by rw[List.drop_take]
  rw[e1];unfold sV;rw[ur _ _ (by simp;omega),uq _ _ (by omega),List.length_take,aZ,Nat.min_eq_left (by omega)]
 rw[e];rfl
theorem Dr(l:List UInt8)(k:IntKind)(i:Nat)(hi:i≤l.length):vT (sV l) (some (.i k (i:Int))) none=some (sV (l.drop i)):=by
 have:=ag7 l i l.length hi (by omega)
 rw[List.take_length]at this
 exact this
theorem aR9(l:List UInt8)(k:IntKind)(j:Nat)(hj:j≤l.length):vT (sV l) none (some (.i k (j:Int)))=some (sV (l.take j)):=by
 have:=ag7 l 0 j (by omega) hj
 rw[List.drop_zero]at this
 exact this
theorem Nz(l:List UInt8)(k k':IntKind)(i j:Nat)(hi:i≤j)(hj:j≤l.length):vT (sV l) (some (.i k (i:Int))) (some (.i k' (j:Int)))=some (sV ((l.take j).drop i)):=ag7 l i j hi hj
theorem po:∀l:List UInt8,dw l.length (bP l)=l.map bV
 |[]=>rfl
 |c::l=>by
  have hc:=UInt8.toNat_lt c;show(fN ((c.toNat+256*bP l)%256) fun d=>V.i .u8 (.ofNat d)::dw l.length ((c.toNat+256*bP l)/256))=_;rw[bo,show(c.toNat+256*bP l)%256=c.toNat by omega,show(c.toNat+256*bP l)/256=bP l by omega,po l];rfl
theorem r9:∀l:List UInt8,fH (l.map bV)=some (l.length,bP l)
 |[]=>rfl
 |c::l=>by
  have hc:=UInt8.toNat_lt c;rw[List.map_cons];show(match fH (l.map bV)with|some (n,x)=>some (Nat.succ n,Nat.add (Nat.mod c.toNat 256) (Nat.mul 256 x))|none=>none)=_;rw[r9 l];show some (l.length+1,c.toNat%256+256*bP l)=_;rw[Nat.mod_eq_of_lt (by omega)];rfl
theorem gm:∀l:List UInt8,aC (l.map bV)=true
 |[]=>rfl
 |c::l=>by rw[List.map_cons,aE,gm l];rfl
end
section
variable{Φ:Nat→Option CF}{rd:Option Nat}{fn:Nat}{F:RO}
def kc(o:RC)(P:V→Mem→Nat→Prop):Prop:=∃v M' c',o= .k v M' c'∧P v M' c'
theorem kc.mono{o:RC}{P P':V→Mem→Nat→Prop}(h:kc o P)(hp:∀v M' c',P v M' c'→P' v M' c'):kc o P':=by
 obtain⟨v,M',c',e,h⟩:=h
 exact⟨v,M',c',e,hp v M' c' h⟩
abbrev Calls(Φ:Nat→Option CF)(F:RO)(f:Nat)(args:List V)(M:Mem)(c:Nat)(P:V→Mem→Nat→Prop):Prop:=kc (cS (gV Φ) F f args M c (Φ f)) P
theorem aI{f n:Nat}{res:List RV}{body:CC}{args:List V}{M:Mem}{c:Nat}{P:V→Mem→Nat→Prop}(hf:Φ f=some (.mk n res body))
 (h:Wp body (K Φ none f F) (.mk (bz n args) [] M c) (lO F res P)):Calls Φ F f args M c P:=tK hf h
theorem mq{f:Nat}{g:List V→Option V}{args:List V}{v:V}{M:Mem}{c:Nat}{P:V→Mem→Nat→Prop}(hf:Φ f=some (.orc (aN g)))(hg:g args=some v)(h:P v M c):Calls Φ F f args M c P:=by
 refine⟨v,M,c,?_,h⟩
 rw[hf]
 show aN g F args M c=_
 unfold aN
 rw[hg]
theorem aw{o:RC}{p:aJ}{r:List CO}{k:Kn}{t:T}{d:List Nat}{R:St→Prop}(h:kc o fun v M' c'=>mZ r k (.mk (t.setP p v) d M' c') R):Zt o p r k t d R:=by
 obtain⟨v,M',c',e,h⟩:=h
 rw[e];exact h
theorem fm{o:RC}{p:Option aJ}{base:Nat}{r:List (Nat×Nat×CO)}{k:Kn}{t:T}{reads:List (Nat×Nat)}{R:DS→Prop}
 (h:kc o fun v M' c'=>bH M' F=true∧kj base r k (.mk (setT t p v) M' c' [] reads) R):BW o F p base r k t reads R:=by
 obtain⟨v,M',c',e,h⟩:=h
 rw[e];exact h
structure cV(F:RO)(M:Mem)(c:Nat):Prop where
 hiM:∀b,c≤b→M.get b=none
 hiF:∀b,c≤b→bq F b=none
 ap:∀b,(bq F b).isSome→M.get b=none
 ge:1000≤c
structure Gr(c:Nat)(M:Mem)(c':Nat)(M':Mem):Prop where
 le:c≤c'
 old:∀b,b<c→M'.get b=M.get b
 new:∀b,c'≤b→M'.get b=none
theorem p4(M:Mem):∀F:RO,(∀b,(bq F b).isSome→M.get b=none)→bH M F=true
 |[],_=>rfl
 |(b,x)::F,h=>by
  rw[dD,h b (by
   show(Bool.rec (motive:=fun _=>Option bv) (bq F b) (some x) (Nat.beq b b)).isSome=true;rw[Nat.beq_refl];rfl)]
  rw[p4 M F fun b' hb'=>h b' (by
   show(Bool.rec (motive:=fun _=>Option bv) (bq F b') (some x) (Nat.beq b b')).isSome=true;cases Nat.beq b b' with
   |true=>rfl
   |false=>exact hb')]
  rfl
theorem cV.free{M:Mem}{c:Nat}(h:cV F M c):bH M F=true:=p4 M F h.ap
theorem cV.look{M:Mem}{c:Nat}(h:cV F M c){b:Nat}(hb:c≤b):look F M b=none:=by
 rw[aR (h.hiM b hb),h.hiF b hb]
theorem Gr.refl{M:Mem}{c:Nat}(h:cV F M c):Gr c M c M:=⟨ag _,fun _ _=>rfl,h.hiM⟩
theorem Gr.trans{M M1 M2:Mem}{c c1 c2:Nat}(h:Gr c M c1 M1)(h2:Gr c1 M1 c2 M2):Gr c M c2 M2:=
 ⟨bg h.le h2.le,fun b hb=>(h2.old b (Nat.lt_of_lt_of_le hb h.le)).trans (h.old b hb),h2.new⟩
theorem Gr.ok{M M1:Mem}{c c1:Nat}(h:Gr c M c1 M1)(ho:cV F M c):cV F M1 c1:=by
 refine⟨h.new,fun b hb=>ho.hiF b (bg h.le hb),fun b hb=>?_,bg ho.ge h.le⟩
 have:b<c:=by
  by_cases hc:b<c
  ·exact hc
  ·rw[ho.hiF b (by omega)]at hb;cases hb
 rw[h.old b this];exact ho.ap b hb
theorem Gr.set{M M1:Mem}{c c1 c2:Nat}(h:Gr c M c1 M1)(b:Nat)(x:bv)(h1:c≤b)(h2:b<c2)(h3:c1≤c2):Gr c M c2 (M1.set b x):=by
 refine⟨bg h.le h3,fun b' hb'=>?_,fun b' hb'=>?_⟩
 ·rw[ah _ _ (by omega)];exact h.old b' hb'
 ·rw[ah _ _ (by omega)];exact h.new b' (by omega)
theorem Gr.del{M M1:Mem}{c c1:Nat}(h:Gr c M c1 M1)(b:Nat)(h1:c≤b):Gr c M c1 (M1.del b):=by
 refine⟨h.le,fun b' hb'=>?_,fun b' hb'=>?_⟩
 ·rw[Tr.get_del,ab (by omega)];exact h.old b' hb'
 ·rw[Tr.get_del];split
  ·rfl
  ·exact h.new b' hb'
theorem Gr.up{M M1:Mem}{c c1 c2:Nat}(h:Gr c M c1 M1)(h3:c1≤c2):Gr c M c2 M1:=
 ⟨bg h.le h3,h.old,fun b hb=>h.new b (by omega)⟩
theorem Gr.look{M M1:Mem}{c c1:Nat}(h:Gr c M c1 M1){b:Nat}(hb:b<c):look F M1 b=look F M b:=cA (h.old b hb)
theorem Gr.load1{M M1:Mem}{c c1:Nat}(h:Gr c M c1 M1){b:Nat}(hb:b<c)(o:Nat):load1 F M1 b o=load1 F M b o:=by
 unfold Ev.load1;rw[h.look hb]
theorem Gr.loadN{M M1:Mem}{c c1:Nat}(h:Gr c M c1 M1){b:Nat}(hb:b<c)(o n:Nat):loadN F M1 b o n=loadN F M b o n:=by
 unfold Ev.loadN;rw[h.look hb]
theorem rV{α:Type}(v:α):∀(t:Tr α) (k:Nat),t.get k=some v→t.put (some v) k=t
 | .e,k,h=>by cases h
 | .n l x r,k,h=>by
   rw[Tr.put_n];rw[Tr.get_n]at h;by_cases h0:k=0
   ·rw[ac h0]at h⊢;rw[h]
   ·rw[ab h0]at h⊢;by_cases h2:k%2=0
    ·rw[ac h2]at h⊢;rw[rV v r _ h]
    ·rw[ab h2]at h⊢;rw[rV v l _ h]
theorem d8{M:Mem}{b:Nat}{x:bv}(h:M.get b=some x):M=M.set b x:=(rV x M b h).symm
def gP(F:RO)(M:Mem)(b:Nat)(row:List V):Prop:=∃ty ex fz str d c,look F M b=some (.cells ty row.length ex fz str d c)∧ ∀i,i<row.length→cell row.length d c i=row[i]?
theorem gP.load1{M:Mem}{b:Nat}{row:List V}(h:gP F M b row)(o:Nat):load1 F M b o=row[o]?:=by
 obtain⟨ty,ex,fz,str,d,c,hl,hc⟩:=h
 unfold Ev.load1
 rw[hl]
 show cell row.length d c o=_
 by_cases ho:o<row.length
 ·exact hc o ho
 ·rw[cI,ab ho,List.getElem?_eq_none (by omega)]
theorem rc{d:List V}{c:T}{row:List V}(hc:∀i,i<row.length→cell row.length d c i=row[i]?):∀(n i:Nat),i+n≤row.length→dL row.length d c n i=some ((row.drop i).take n)
 |0,i,h=>by rw[np];simp
 |n+1,i,h=>by
  rw[gu,hc i (by omega),List.getElem?_eq_getElem (by omega)];show(match dL row.length d c n (i+1)with|none=>none|some r=>some (row[i]::r))=_;rw[rc hc n (i+1) (by omega)];simp only;rw[←List.getElem_cons_drop (by omega:i<row.length),List.take_succ_cons]
theorem gP.loadN{M:Mem}{b:Nat}{row:List V}(h:gP F M b row)(o n:Nat)(hn:o+n≤row.length):loadN F M b o n=some ((row.drop o).take n):=by
 obtain⟨ty,ex,fz,str,d,c,hl,hc⟩:=h
 unfold Ev.loadN
 rw[hl]
 exact rc hc n o hn
theorem gP.grow{M M':Mem}{b c c':Nat}{row:List V}(h:gP F M b row)(hg:Gr c M c' M')(hb:b<c):gP F M' b row:=by
 obtain⟨ty,ex,fz,str,d,cs,hl,hc⟩:=h
 exact⟨ty,ex,fz,str,d,cs,by rw[hg.look hb];exact hl,hc⟩
theorem gP.ne{M:Mem}{b b':Nat}{x:bv}{row:List V}(h:gP F M b row)(hb:b≠b'):gP F (M.set b' x) b row:=by
 obtain⟨ty,ex,fz,str,d,cs,hl,hc⟩:=h
 exact⟨ty,ex,fz,str,d,cs,by rw[kG M x hb];exact hl,hc⟩
theorem yn{M:Mem}{b ty fz:Nat}{ex str:Bool}{row:List V}(h:M.get b=some (.cells ty row.length ex fz str [] (gE row))):gP F M b row:=
 ⟨ty,ex,fz,str,[],gE row,au h,fun i hi=>rb row i⟩
def cO(F:RO)(M:Mem)(b o:Nat)(row:List V):Prop:=∀k,k<row.length→load1 F M b (o+k)=row[k]?
theorem gP.cells{M:Mem}{b:Nat}{row:List V}(h:gP F M b row):cO F M b 0 row:=fun k _=>by rw[Nat.zero_add];exact h.load1 k
theorem cO.grow{M M':Mem}{b o c c':Nat}{row:List V}(h:cO F M b o row)(hg:Gr c M c' M')(hb:b<c):cO F M' b o row:=fun k hk=>by rw[hg.load1 hb];exact h k hk
theorem cO.sub{M:Mem}{b o:Nat}{row:List V}(h:cO F M b o row)(i n:Nat)(hn:i+n≤row.length):cO F M b (o+i) ((row.drop i).take n):=fun k hk=>by
 simp only[List.length_take,aZ]at hk
 rw[Nat.add_assoc,h (i+k) (by omega),List.getElem?_take,ac (by omega),List.getElem?_drop]
theorem AD{M:Mem}{b o:Nat}{v:V}(h:Ev.load1 F M b o=some v):∃ty n ex fz str d c,look F M b=some (.cells ty n ex fz str d c)∧cell n d c o=some v:=by
 unfold Ev.load1 at h
 cases hl:look F M b with
 |none=>rw[hl]at h;cases h
 |some x=>
  rw[hl]at h;cases x with
  |cells ty n ex fz str d c=>exact⟨ty,n,ex,fz,str,d,c,rfl,h⟩
  |_=>cases h
theorem cO.load{M:Mem}{b o:Nat}{row:List V}(h:cO F M b o row)(hr:row≠[]):loadN F M b o row.length=some row:=by
 cases row with
 |nil=>exact absurd rfl hr
 |cons v r=>
  have h0:=h 0 (by simp);simp only[be,List.getElem?_cons_zero]at h0;obtain⟨ty,n,ex,fz,str,d,c,hl,_⟩:=AD h0;have key:∀(l:List V) (o:Nat),(∀k,k<l.length→Ev.load1 F M b (o+k)=l[k]?)→dL n d c l.length o=some l:=by
   intro l
   induction l with
   |nil=>intro o _;rfl
   |cons x l ih=>
    intro o hx;have e0:=hx 0 (by simp);simp only[be,List.getElem?_cons_zero]at e0;unfold Ev.load1 at e0;rw[hl]at e0;have e0':cell n d c o=some x:=e0;rw[av,gu,e0'];show(match dL n d c l.length (o+1)with|none=>none|some r=>some (x::r))=_
    rw[ih (o+1) fun k hk=>by
     have:=hx (k+1) (by simpa using hk);rw[List.getElem?_cons_succ]at this;rw[←this];congr 1;omega]
  unfold Ev.loadN;rw[hl];exact key (v::r) o h
theorem cO.loadN{M:Mem}{b o:Nat}{row:List V}(h:cO F M b o row)(i n:Nat)(hn:i+n≤row.length)(h0:0<n):loadN F M b (o+i) n=some ((row.drop i).take n):=by
 have hs:=h.sub i n hn
 have hl:((row.drop i).take n).length=n:=by simp;omega
 have:=hs.load (by intro e;rw[e]at hl;simp at hl;omega)
 rwa [hl]at this
theorem eF:∀{es:List (List V)} {sz:Nat},(∀e∈es,e.length=sz)→es.flatten.length=es.length*sz
 |[],sz,_=>by simp
 |e::es,sz,h=>by
  rw[List.flatten_cons,aF,eF fun x hx=>h x (bn _ hx),h e (bw ..),av,Nat.add_mul];omega
theorem xG:∀{es:List (List V)} {sz:Nat},(∀e∈es,e.length=sz)→ ∀(i:Nat) (h:i<es.length),(es.flatten.drop (i*sz)).take sz=es[i]
 |[],sz,_,i,h=>by cases h
 |e::es,sz,h,0,_=>by
  rw[List.flatten_cons,Nat.zero_mul,List.drop_zero,List.take_append_of_le_length (by rw[h e (bw ..)];exact ag _),List.getElem_cons_zero,←h e (bw ..),List.take_length]
 |e::es,sz,h,i+1,hi=>by
  have he:=h e (bw ..);rw[List.flatten_cons,List.getElem_cons_succ,Nat.add_mul,Nat.one_mul,Nat.add_comm,List.drop_append,he,List.drop_eq_nil_of_le (by omega),List.nil_append,Nat.add_sub_cancel_left];exact xG (fun x hx=>h x (bn _ hx)) i (by simpa using hi)
def cq(F:RO)(M:Mem)(c sz:Nat)(v:V)(es:List (List V)):Prop:=
 (∀e∈es,e.length=sz)∧((es=[]∧(v= .l0∨ ∃b o0 o,v= .ue b o0 o))∨
  ∃b o,((∃cap,es.length≤cap∧v= .l b o es.length cap)∨(∃el kn,el+es.length≤kn∧v= .u b o es.length el kn))∧b<c∧cO F M b o es.flatten)
theorem cq.len{M:Mem}{c sz:Nat}{v:V}{es:List (List V)}(h:cq F M c sz v es):sU v=some (.i .i64 (es.length:Int)):=by
 rcases h with⟨_,⟨rfl,h|⟨b,o0,o,h⟩⟩|⟨b,o,⟨cap,_,h⟩|⟨el,kn,_,h⟩,_⟩⟩
 ·rw[h];exact AC
 ·rw[h];exact My _ _ _
 ·rw[h];exact Yo _ _ _ _
 ·rw[h];exact Mx _ _ _ _ _
theorem cq.grow{M M':Mem}{c c' sz:Nat}{v:V}{es:List (List V)}(h:cq F M c sz v es)(hg:Gr c M c' M'):cq F M' c' sz v es:=by
 rcases h with⟨h0,h|⟨b,o,hv,hb,hr⟩⟩
 ·exact⟨h0,.inl h⟩
 ·exact⟨h0,.inr ⟨b,o,hv,Nat.lt_of_lt_of_le hb hg.le,hr.grow hg hb⟩⟩
theorem cq.at{M:Mem}{c sz:Nat}{v:V}{es:List (List V)}(h:cq F M c sz v es)(i:Nat)(hi:i<es.length):
 ∃b o,b<c∧(∀k,j6 sz v (.i k (i:Int))=some (.p b o))∧cO F M b o es[i]:=by
 rcases h with⟨h0,⟨rfl,_⟩|⟨b,o,hv,hb,hr⟩⟩
 ·cases hi
 ·have hle:i*sz+sz≤es.flatten.length:=by
   have:(i+1)*sz≤es.length*sz:=Nat.mul_le_mul_right _ hi;rw[Nat.add_mul,Nat.one_mul]at this;rw[eF h0];exact this
  refine⟨b,o+i*sz,hb,fun k=>?_,?_⟩
  ·rcases hv with⟨cap,_,rfl⟩|⟨el,kn,_,rfl⟩
   ·exact aM6 _ _ _ _ _ _ _ hi
   ·exact aM7 _ _ _ _ _ _ _ _ hi
  ·have:=hr.sub (i*sz) sz hle
   rwa [xG h0 i hi]at this
theorem cq.one{M:Mem}{c:Nat}{v:V}{es:List (List V)}(h:cq F M c 1 v es)(i:Nat)(hi:i<es.length){x:V}(hx:es[i]=[x]):
 ∃b o,b<c∧(∀k,j6 1 v (.i k (i:Int))=some (.p b o))∧load1 F M b o=some x:=by
 obtain⟨b,o,h1,h2,h3⟩:=h.at i hi
 refine⟨b,o,h1,h2,?_⟩
 have:=h3 0 (by rw[hx];simp)
 rw[be,hx]at this
 exact this
theorem cV.set{M:Mem}{c c':Nat}(h:cV F M c)(b:Nat)(x:bv)(h1:c≤b)(h2:b<c'):cV F (M.set b x) c':=by
 refine⟨fun b' hb'=>?_,fun b' hb'=>h.hiF b' (by omega),fun b' hb'=>?_,by have:=h.ge;omega⟩
 ·rw[ah _ _ (by omega)];exact h.hiM b' (by omega)
 ·have:b'≠b:=by
   intro e;subst e;rw[h.hiF b' h1]at hb';cases hb'
  rw[ah _ _ this];exact h.ap b' hb'
abbrev SlB(F:RO)(M:Mem)(c:Nat)(v:V)(l:List UInt8):Prop:=cq F M c 1 v (l.map fun x=>[bV x])
theorem SlB.get{M:Mem}{c:Nat}{v:V}{l:List UInt8}(h:SlB F M c v l)(i:Nat)(hi:i<l.length):
 ∃b o,b<c∧(∀k,j6 1 v (.i k (i:Int))=some (.p b o))∧load1 F M b o=some (.i .u8 (l[i].toNat:Int)):=
 cq.one h i (by simpa using hi) (by simp[bV])
theorem SlB.len{M:Mem}{c:Nat}{v:V}{l:List UInt8}(h:SlB F M c v l):sU v=some (.i .i64 (l.length:Int)):=by
 have:=cq.len h
 rwa [List.length_map]at this
theorem am(M:Mem)(b:Nat)(x:bv):(M.set b x).get b=some x:=by rw[Tr.get_set,ac rfl]
end
section
variable{Φ:Nat→Option CF}{rd:Option Nat}{fn:Nat}{F:RO}
theorem CD{M:Mem}{c sz:Nat}{v:V}{es:List (List V)}(h:cq F M c sz v es):nC v=some es.length:=by
 rcases h with⟨_,⟨rfl,rfl|⟨b,o0,o,rfl⟩⟩|⟨b,o,⟨cap,_,rfl⟩|⟨el,kn,_,rfl⟩,_⟩⟩<;>rfl
theorem kP{M:Mem}{sz b o:Nat}{es:List (List V)}(hsz:0<sz)(h0:∀e∈es,e.length=sz)(h:cO F M b o es.flatten):∃r,readB F M sz es.length b o=some (es.flatten,r):=by
 unfold readB
 rw[bI]
 cases es with
 |nil=>exact⟨none,rfl⟩
 |cons e es=>
  have hl:=eF h0;have hne:(e::es).flatten≠[]:=by
   intro h;rw[h]at hl;simp only[aV,av,Nat.add_mul]at hl;omega
  have:=h.load hne;rw[hl]at this;rw[ak (by simp),cond_false];show∃r,(match loadN F M b o ((e::es).length*sz)with|some vs=>some (vs,some b)|none=>none)=_;rw[this];exact⟨some b,rfl⟩
theorem yj{M:Mem}{c sz:Nat}{v:V}{es:List (List V)}(hsz:0<sz)(h:cq F M c sz v es):∃r,readL F M sz es.length v=some (es.flatten,r):=by
 rcases h with⟨h0,⟨rfl,rfl|⟨b,o0,o,rfl⟩⟩|⟨b,o,⟨cap,_,rfl⟩|⟨el,kn,_,rfl⟩,_,hc⟩⟩
 ·exact⟨none,rfl⟩
 ·exact⟨none,rfl⟩
 ·exact kP hsz h0 hc
 ·exact kP hsz h0 hc
theorem yx{M:Mem}{c sz:Nat}{v:V}{es:List (List V)}(hsz:0<sz)(h:cq F M c sz v es):eI F M sz v=some (es.length,es.flatten):=by
 have hl:=CD h
 obtain⟨r,hr⟩:=yj hsz h
 have hs:∀n x,v≠ .s n x:=by
  intro n x e;rcases h with⟨_,⟨rfl,h|⟨b,o0,o,h⟩⟩|⟨b,o,⟨cap,_,h⟩|⟨el,kn,_,h⟩,_⟩⟩<;>(rw[e]at h;cases h)
 have e:eI F M sz v=match nC v with|some n=>S7 n (readL F M sz n v)|none=>none:=by
  cases v<;>first|rfl|exact absurd rfl (hs _ _)
 rw[e,hl]
 show S7 es.length (readL F M sz es.length v)=_
 rw[hr];rfl
theorem Dt{M:Mem}(l:List UInt8):eI F M 1 (sV l)=some (l.length,l.map bV):=by
 show(bif Nat.beq 1 1 then some (l.length,dw l.length (bP l))else none)=_
 rw[po];rfl
def qm(ty:Nat)(row:List V):bv:= .cells ty row.length false 0 false [] (gE row)
def bm(M:Mem)(c0 c b ty sz:Nat)(v:V)(es:List (List V)):Prop:=
 (∀e∈es,e.length=sz)∧((es=[]∧v= .l0)∨(c0≤b∧b<c∧v= .u b 0 es.length 0 es.length∧M.get b=some (qm ty es.flatten)))
theorem bm.nil{M:Mem}{c0 c b ty sz:Nat}:bm M c0 c b ty sz .l0 []:=⟨fun e he=>(by cases he),.inl ⟨rfl,rfl⟩⟩
theorem Dk{M:Mem}{b ty:Nat}{row:List V}(h:M.get b=some (qm ty row)):gP F M b row:=yn h
theorem bm.sl{M:Mem}{c0 c b ty sz:Nat}{v:V}{es:List (List V)}(h:bm M c0 c b ty sz v es):cq F M c sz v es:=by
 rcases h with⟨h0,⟨rfl,rfl⟩|⟨h1,h2,rfl,h3⟩⟩
 ·exact⟨h0,.inl ⟨rfl,.inl rfl⟩⟩
 ·exact⟨h0,.inr ⟨b,0,.inr ⟨0,es.length,by omega,rfl⟩,h2,(Dk h3).cells⟩⟩
theorem bm.up{M M':Mem}{c0 c c' b ty sz:Nat}{v:V}{es:List (List V)}(h:bm M c0 c b ty sz v es)(hc:c≤c')(hb:b<c→M'.get b=M.get b):bm M' c0 c' b ty sz v es:=by
 rcases h with⟨h0,h|⟨h1,h2,rfl,h3⟩⟩
 ·exact⟨h0,.inl h⟩
 ·exact⟨h0,.inr ⟨h1,by omega,rfl,by rw[hb h2];exact h3⟩⟩
theorem bm.gr{M M':Mem}{c0 c c' b ty sz:Nat}{v:V}{es:List (List V)}(h:bm M c0 c b ty sz v es)(hg:Gr c M c' M'):bm M' c0 c' b ty sz v es:=h.up hg.le fun hb=>hg.old b hb
theorem gD{n bytes:Nat}(h:(3*n+2000)*bytes≤281474976710656)(h1:n≤1099511627776):kR n bytes=true:=by
 unfold kR
 rw[bW,bW]
 have a:decide (Nat.mul (Nat.add (Nat.mul 3 n) 2000) bytes≤281474976710656)=true:=aj h
 rw[a,aj h1];rfl
theorem nA(M:Mem)(c ty bytes len:Nat)(vs:List V)(h:kR len bytes=true):gg M c ty bytes len 0 false vs= .k (.u c 0 len 0 len) (M.set c (qm ty vs)) (c+1):=by
 unfold gg
 rw[h]
 show(M.set c (.cells ty vs.length false 0 false [] (bG vs 0 .e))).force (fun M=>fN (Nat.succ c) fun c'=>fN len fun len=>RC.k (.u c 0 len 0 len) M c')=_
 rw[Tr.force_eq,bo,bo];rfl
theorem Cd{M:Mem}{c ty sz bytes n:Nat}{new:List V}(h:n≠0):app F M c ty sz bytes .l0 n new=gg M c ty bytes n 0 false new:=by
 unfold app
 rw[bI,ak h,cond_false]
theorem zr{M:Mem}{c ty sz bytes b o len el kn n:Nat}{new:List V}(h:n≠0):app F M c ty sz bytes (.u b o len el kn) n new=lR F M c ty sz bytes b o len el kn n new:=by
 unfold app
 rw[bI,ak h,cond_false]
theorem GL{M0 M:Mem}{c0 c b ty sz bytes:Nat}{v:V}{es ns:List (List V)}(h:bm M c0 c b ty sz v es)(hg:Gr c0 M0 c M)(hsz:0<sz)(hn:∀e∈ns,e.length=sz)(h1:aC ns.flatten=true)(hr:kR (es.length+ns.length) bytes=true):
 kc (mr F M c ty sz bytes v (some (ns.length,ns.flatten))) fun v' M' c'=>∃b',bm M' c0 c' b' ty sz v' (es++ns)∧Gr c0 M0 c' M'∧c≤c'∧(∀x,x<c→x≠b→M'.get x=M.get x)∧(b'=b∨c≤b'):=by
 have hnl:=eF hn
 have e1:mr F M c ty sz bytes v (some (ns.length,ns.flatten))=app F M c ty sz bytes v ns.length ns.flatten:=by
  show(bif aC ns.flatten&&Nat.beq ns.flatten.length (Nat.mul ns.length sz)then _ else _)=_;rw[h1,bI,aj (show ns.flatten.length=Nat.mul ns.length sz from hnl)];rfl
 rw[e1]
 have hall:∀e∈es++ns,e.length=sz:=by
  intro e he;rcases List.mem_append.1 he with he|he
  ·exact h.1 e he
  ·exact hn e he
 by_cases hz:ns=[]
 ·subst hz;have e2:app F M c ty sz bytes v 0 []= .k v M c:=by
   show(bif Nat.beq 0 0 then(bif u3 v then RC.k v M c else .f)else _)=_;have:u3 v=true:=by
    rcases h with⟨_,⟨_,rfl⟩|⟨_,_,rfl,_⟩⟩
    ·rfl
    ·show Nat.ble es.length (Nat.sub es.length 0)=true;rw[bW];exact aj (ag _)
   rw[this];rfl
  exact⟨v,M,c,e2,b,by rw[bQ];exact h,hg,ag _,fun _ _ _=>rfl,.inl rfl⟩
 ·have hn0:ns.length≠0:=fun e=>hz (List.length_eq_zero_iff.1 e);rcases h with⟨h0,⟨rfl,rfl⟩|⟨ha,hb,rfl,hM⟩⟩
  ·rw[aV,Nat.zero_add]at hr;refine⟨_,_,_,(Cd hn0).trans (nA M c ty bytes ns.length ns.flatten hr),c,⟨hall,.inr ⟨hg.le,by omega,rfl,?_⟩⟩,hg.set c _ hg.le (by omega) (by omega),by omega,fun x hx _=>ah _ _ (by omega),.inr (ag _)⟩;rw[Tr.get_set,ac rfl];rfl
  ·have hel:=eF h0;obtain⟨r,hrd⟩:=kP hsz h0 (Dk (F:=F) hM).cells;have hmw:fj M b ty (Nat.add 0 (Nat.mul es.length sz)) (Nat.add 0 (Nat.mul (Nat.sub es.length 0) sz))=some (0,false):=by
    unfold fj;rw[hM];show(bif Nat.beq ty ty&&Nat.beq es.flatten.length (0+(es.length-0)*sz)&&Nat.ble 0 (0+es.length*sz)&&Nat.ble (0+es.length*sz) (0+(es.length-0)*sz)then some (0,false)else none)=_;rw[bI,bI,bW,bW,aj (show ty=ty from rfl),aj (show es.flatten.length=0+(es.length-0)*sz by rw[hel];simp),aj (aB _),aj (show 0+es.length*sz≤0+(es.length-0)*sz by simp)];rfl
   have e3:lR F M c ty sz bytes b 0 es.length 0 es.length ns.length ns.flatten=gg (M.del b) c ty bytes (es.length+ns.length) 0 false (es.flatten++ns.flatten):=by
    unfold lR;rw[bW,ak (show¬Nat.add (Nat.add 0 es.length) ns.length≤es.length by show¬0+es.length+ns.length≤es.length;omega),cond_false,hmw];show oH (M.del b) c ty bytes (es.length+ns.length) 0 false ns.flatten (readB F M sz es.length b 0)=_;rw[hrd];rfl
   refine⟨_,_,_,((zr hn0).trans e3).trans (nA _ c ty bytes _ _ hr),c,⟨hall,.inr ⟨by omega,by omega,by rw[aF],?_⟩⟩,(hg.del b ha).set c _ (by omega) (by omega) (by omega),by omega,fun x hx hxb=>?_,.inr (ag _)⟩
   ·rw[Tr.get_set,ac rfl,List.flatten_append]
   ·rw[ah _ _ (by omega),Tr.get_del,ab hxb]
def tj(sz:Nat)(x:V)(lo hi mx:Option V):Option V:=(cG (.slL sz (.c x) (lo.map .c) (hi.map .c) (mx.map .c)) [] .e .e).val
theorem oN(tm:T)(o:Option X):optNN .e ((o.map fun x=>x.ev tm).map .c)=optNN tm o:=by cases o<;>rfl
theorem YO(sz:Nat)(x:X)(lo hi mx:Option X)(M:Mem)(t:T):(cG (.slL sz x lo hi mx) F M t).val=tj sz (x.ev t) (lo.map fun x=>x.ev t) (hi.map fun x=>x.ev t) (mx.map fun x=>x.ev t):=by
 show(oU sz (x.ev t) (optNN t lo) (optNN t hi) (optNN t mx)).val=(oU sz (x.ev t) (optNN .e _) (optNN .e _) (optNN .e _)).val
 rw[oN,oN,oN]
theorem MD(b o n c:Nat):Yp b o n c= .v (.l b o n c):=by unfold Yp;rw[bo,bo,bo]
theorem vA(b o n el kn:Nat):Yq b o n el kn= .v (.u b o n el kn):=by unfold Yq;rw[bo,bo,bo]
theorem LY{es:List (List V)}{sz lo hi:Nat}(h0:∀e∈es,e.length=sz)(h1:lo≤hi)(h2:hi≤es.length):((es.take hi).drop lo).flatten=(es.flatten.drop (lo*sz)).take ((hi-lo)*sz):=by
 have key:∀(es:List (List V)) (k:Nat),(∀e∈es,e.length=sz)→(es.take k).flatten=es.flatten.take (k*sz)∧(es.drop k).flatten=es.flatten.drop (k*sz):=by
  intro es
  induction es with
  |nil=>intro k _;simp
  |cons e es ih=>
   intro k h;cases k with
   |zero=>simp
   |succ k=>
    obtain⟨a,b⟩:=ih k fun x hx=>h x (bn _ hx);have he:=h e (bw ..);constructor
    ·rw[List.take_succ_cons,List.flatten_cons,List.flatten_cons,a,show(k+1)*sz=e.length+k*sz by rw[Nat.add_mul,he];omega,List.take_length_add_append]
    ·rw[List.drop_succ_cons,List.flatten_cons,b,show(k+1)*sz=e.length+k*sz by rw[Nat.add_mul,he];omega,List.drop_length_add_append]
 have ht:∀e∈es.take hi,e.length=sz:=fun e he=>h0 e (List.mem_of_mem_take he)
 rw[(key (es.take hi) lo ht).2,(key es hi h0).1,List.drop_take,Nat.sub_mul]
theorem Nx{M:Mem}{c sz:Nat}{v:V}{es:List (List V)}{lo hi:Nat}(h:cq F M c sz v es)(h1:lo≤hi)(h2:hi≤es.length):
 ∃v',(qt sz v (some lo) (some hi) none= .v v'∧(lo=0→qt sz v none (some hi) none= .v v')∧(hi=es.length→qt sz v (some lo) none none= .v v')∧(lo=0→hi=es.length→qt sz v none none none= .v v'))∧cq F M c sz v' ((es.take hi).drop lo):=by
 have hs:∀e∈(es.take hi).drop lo,e.length=sz:=fun e he=>h.1 e (List.mem_of_mem_take (List.mem_of_mem_drop he))
 have hl:((es.take hi).drop lo).length=hi-lo:=by simp;omega
 rcases h with⟨h0,⟨rfl,rfl|⟨b,o0,o,rfl⟩⟩|⟨b,o,hv,hb,hc⟩⟩
 ·obtain rfl:hi=0:=by simpa using h2
  obtain rfl:lo=0:=by omega
  exact⟨.l0,⟨rfl,fun _=>rfl,fun _=>rfl,fun _ _=>rfl⟩,hs,.inl ⟨rfl,.inl rfl⟩⟩
 ·obtain rfl:hi=0:=by simpa using h2
  obtain rfl:lo=0:=by omega
  exact⟨.ue b o0 o,⟨rfl,fun _=>rfl,fun _=>rfl,fun _ _=>rfl⟩,hs,.inl ⟨rfl,.inr ⟨b,o0,o,rfl⟩⟩⟩
 ·have hfl:=eF h0;have hcs:cO F M b (o+lo*sz) ((es.take hi).drop lo).flatten:=by
   rw[LY h0 h1 h2];refine hc.sub _ _ ?_;rw[hfl,←Nat.add_mul];exact Nat.mul_le_mul_right _ (by omega)
  rcases hv with⟨cap,hcap,rfl⟩|⟨el,kn,hkn,rfl⟩
  ·have e:um sz b o cap lo hi cap= .v (.l b (if cap=lo then o else o+lo*sz) (hi-lo) (cap-lo)):=by
    unfold um;rw[bW,bW,bW,bI,aj (ag cap),aj (show hi≤cap by omega),aj h1];show Yp b (bif decide (cap=lo)then o else o+lo*sz) (hi-lo) (cap-lo)=_;rw[MD];by_cases hh:cap=lo
    ·rw[aj hh,ac hh];rfl
    ·rw[ak hh,ab hh];rfl
   refine⟨_,⟨e,fun hh=>?_,fun hh=>?_,fun hh hh2=>?_⟩,hs,.inr ⟨b,if cap=lo then o else o+lo*sz,.inl ⟨cap-lo,by rw[hl];omega,by rw[hl]⟩,hb,?_⟩⟩
   ·subst hh;exact e
   ·subst hh;exact e
   ·subst hh hh2;exact e
   ·by_cases hh:cap=lo
    ·rw[ac hh];have:(es.take hi).drop lo=[]:=List.eq_nil_of_length_eq_zero (by omega);rw[this];intro k hk;simp at hk
    ·rw[ab hh];exact hcs
  ·by_cases hz:lo=0
   ·subst hz;have e:ma sz b o el kn 0 hi= .v (.u b o hi el kn):=by
     unfold ma;rw[bW,bW,aj (show Nat.add el hi≤kn by show el+hi≤kn;omega),aj (aB hi)];exact vA _ _ _ _ _
    refine⟨_,⟨e,fun _=>e,fun hh=>?_,fun _ hh=>?_⟩,hs,.inr ⟨b,o,.inr ⟨el,kn,by rw[hl];omega,by rw[hl];rfl⟩,hb,by simpa using hcs⟩⟩
    ·subst hh;exact e
    ·subst hh;exact e
   ·by_cases hh:el+lo<kn
    ·have e:ma sz b o el kn lo hi= .v (.u b (o+lo*sz) (hi-lo) (el+lo) kn):=by
      unfold ma;rw[bW,bW,bI,fG,aj (show Nat.add el hi≤kn by show el+hi≤kn;omega),aj h1,ak hz,aj (show Nat.add el lo<kn from hh)];exact vA _ _ _ _ _
     refine⟨_,⟨e,fun h=>absurd h hz,fun hh=>?_,fun h _=>absurd h hz⟩,hs,.inr ⟨b,o+lo*sz,.inr ⟨el+lo,kn,by rw[hl];omega,by rw[hl]⟩,hb,hcs⟩⟩;subst hh;exact e
    ·have e:ma sz b o el kn lo hi= .v (.ue b o (o+lo*sz)):=by
      unfold ma;rw[bW,bW,bI,fG,aj (show Nat.add el hi≤kn by show el+hi≤kn;omega),aj h1,ak hz,ak (show¬Nat.add el lo<kn from hh)];show fN (o+lo*sz) (fun o'=>QR.v (.ue b o o'))=_;rw[bo]
     have hnil:(es.take hi).drop lo=[]:=List.eq_nil_of_length_eq_zero (by omega);refine⟨_,⟨e,fun h=>absurd h hz,fun hh=>?_,fun h _=>absurd h hz⟩,hs,.inl ⟨hnil,.inr ⟨b,o,_,rfl⟩⟩⟩;subst hh;exact e
theorem S5{M:Mem}{c sz:Nat}{v:V}{es:List (List V)}{lo hi:Nat}(h:cq F M c sz v es)(h1:lo≤hi)(h2:hi≤es.length):
 ∃v',(∀k k',tj sz v (some (.i k (lo:Int))) (some (.i k' (hi:Int))) none=some v')∧(lo=0→ ∀k',tj sz v none (some (.i k' (hi:Int))) none=some v')∧(hi=es.length→ ∀k,tj sz v (some (.i k (lo:Int))) none none=some v')∧(lo=0→hi=es.length→tj sz v none none none=some v')∧cq F M c sz v' ((es.take hi).drop lo):=by
 obtain⟨v',⟨e1,e2,e3,e4⟩,hs⟩:=Nx h h1 h2
 refine⟨v',fun k k'=>?_,fun h0 k'=>?_,fun h0 k=>?_,fun h0 h0'=>?_,hs⟩
 ·show(qt sz v (some lo) (some hi) none).val=_;rw[e1];rfl
 ·show(qt sz v none (some hi) none).val=_;rw[e2 h0];rfl
 ·show(qt sz v (some lo) none none).val=_;rw[e3 h0];rfl
 ·show(qt sz v none none none).val=_;rw[e4 h0 h0'];rfl
def r4(F:RO)(M:Mem)(c ty sz bytes:Nat)(x y:V):RC:=mr F M c ty sz bytes x (eI F M sz y)
theorem OJ(ty sz bytes:Nat)(x y:X)(M:Mem)(c:Nat)(t:T):eE (.app ty sz bytes x y) (K Φ rd fn F) M c t=r4 F M c ty sz bytes (x.ev t) (y.ev t):=rfl
theorem jo{M0 M:Mem}{c0 c b ty sz bytes:Nat}{v y:V}{es ns:List (List V)}(h:bm M c0 c b ty sz v es)(hg:Gr c0 M0 c M)(hsz:0<sz)(hy:cq F M c sz y ns)(h1:aC ns.flatten=true)(hr:kR (es.length+ns.length) bytes=true):
 kc (r4 F M c ty sz bytes v y) fun v' M' c'=>∃b',bm M' c0 c' b' ty sz v' (es++ns)∧Gr c0 M0 c' M'∧c≤c'∧(∀x,x<c→x≠b→M'.get x=M.get x)∧(b'=b∨c≤b'):=by
 unfold r4
 rw[yx hsz hy]
 exact GL h hg hsz hy.1 h1 hr
theorem hJ(l:List UInt8):(l.map fun x=>[bV x]).flatten=l.map bV:=by
 induction l with
 |nil=>rfl
 |cons a l ih=>rw[List.map_cons,List.flatten_cons,ih];rfl
theorem E6(l:List UInt8):aC (l.map fun x=>[bV x]).flatten=true:=by rw[hJ];exact gm l
theorem GK{M0 M:Mem}{c0 c b ty bytes:Nat}{v:V}{l:List UInt8}{es:List (List V)}(h:bm M c0 c b ty 1 v es)(hg:Gr c0 M0 c M)(hr:kR (es.length+l.length) bytes=true):
 kc (r4 F M c ty 1 bytes v (sV l)) fun v' M' c'=>∃b',bm M' c0 c' b' ty 1 v' (es++l.map fun x=>[bV x])∧Gr c0 M0 c' M'∧c≤c'∧(∀x,x<c→x≠b→M'.get x=M.get x)∧(b'=b∨c≤b'):=by
 unfold r4
 rw[Dt]
 have:=GL (F:=F) (bytes:=bytes) (ns:=l.map fun x=>[bV x]) h hg Nat.one_pos (by intro e he;obtain⟨x,_,rfl⟩:=List.mem_map.1 he;rfl)
  (E6 l) (by rw[List.length_map];exact hr)
 rw[List.length_map,hJ]at this
 exact this
def bsV(F:RO)(M:Mem)(x:V):Option V:=(cG (.bs (.c x)) F M .e).val
theorem bg6(x:X)(M:Mem)(t:T):(cG (.bs x) F M t).val=bsV F M (x.ev t):=Eq.trans rfl (Eq.refl _)
theorem XX{M:Mem}{c:Nat}{v:V}{l:List UInt8}(h:SlB F M c v l):bsV F M v=some (sV l):=by
 have hl:=CD h
 obtain⟨r,hr⟩:=yj Nat.one_pos h
 rw[List.length_map]at hl hr
 rw[hJ]at hr
 have e:cG (.bs (.c v)) F M .e=CW F M v (nC v):=by
  show(match v with| .s _ _=>QR.f|v=>CW F M v (nC v))=_;rcases h with⟨_,⟨_,rfl|⟨b,o0,o,rfl⟩⟩|⟨b,o,⟨cap,_,rfl⟩|⟨el,kn,_,rfl⟩,_⟩⟩<;>rfl
 unfold bsV
 rw[e,hl]
 show(match readL F M 1 l.length v with|some (vs,b)=>CX b (fH vs)|none=>QR.f).val=_
 rw[hr]
 show(CX r (fH (l.map bV))).val=_
 rw[r9]
 show(fN l.length fun n=>fN (bP l) fun s=>match r with|some b=>QR.r (.s n s) b|none=> .v (.s n s)).val=_
 rw[bo,bo]
 cases r<;>rfl
def dq(d:List V)(ty:Nat)(row:List V):bv:= .cells ty row.length true 0 false d (gE row)
theorem El(d l:List V)(i:Nat)(h:i<l.length):cell l.length d (gE l) i=l[i]?:=by
 rw[cI,ac h]
 unfold gE
 rw[d6,ac (by omega)]
 simp only[Nat.sub_zero]
 rw[List.getElem?_eq_getElem h]
theorem RX{M:Mem}{b ty:Nat}{d row:List V}(h:M.get b=some (dq d ty row)):gP F M b row:=
 ⟨ty,true,0,false,d,gE row,au h,fun i hi=>El d row i hi⟩
theorem S4{M:Mem}{b c ty sz n:Nat}{d:List V}{es:List (List V)}(h:M.get b=some (dq d ty es.flatten))(hb:b<c)(h0:∀e∈es,e.length=sz)(hn:es.length=n):cq F M c sz (.l b 0 n n) es:=by
 subst hn
 exact⟨h0,.inr ⟨b,0,.inl ⟨_,ag _,rfl⟩,hb,(RX h).cells⟩⟩
def vk(t:T):List (Nat×X)→List (Nat×List V)
 |[]=>[]
 |(o,x)::r=>(o,flatten (x.ev t))::vk t r
theorem LT(t:T):vk t []=[]:=rfl
theorem oE(t:T)(o:Nat)(x:X)(r:List (Nat×X)):vk t ((o,x)::r)=(o,flatten (x.ev t))::vk t r:=rfl
def jy(sz:Nat):Nat→List (Nat×List V)→Option (List V)
 |_,[]=>some []
 |o,(k,vs)::r=>if k=o∧vs.length=sz∧aC vs=true then(jy sz (o+sz) r).map (vs++ ·)else none
theorem AJ(sz o:Nat):jy sz o []=some []:=rfl
theorem kK(sz o k:Nat)(vs:List V)(r:List (Nat×List V)):jy sz o ((k,vs)::r)=if k=o∧vs.length=sz∧aC vs=true then(jy sz (o+sz) r).map (vs++ ·)else none:=rfl
theorem kF:∀(a b:List V) (k:Nat) (t:T),bG b (k+a.length) (bG a k t)=bG (a++b) k t
 |[],b,k,t=>rfl
 |x::a,b,k,t=>by
  rw[List.cons_append,cK,cK,av,show k+(a.length+1)=(k+1)+a.length by omega,kF a b]
theorem xE{sz m:Nat}{t:T}:∀{parts:List (Nat×X)} {pre row:List V},jy sz pre.length (vk t parts)=some row→pre.length+row.length≤m→fillP sz m t parts (bG pre 0 .e)=some (bG (pre++row) 0 .e)
 |[],pre,row,h,hm=>by
  obtain rfl:[]=row:=ae h;rw[bQ];rfl
 |(o,x)::r,pre,row,h,hm=>by
  rw[oE,kK]at h;split at h
  ·rename_i hc;obtain⟨rfl,h1,h2⟩:=hc;rw[bj]at h;obtain⟨row',h3,rfl⟩:=h;rw[aF]at hm;show(bif Nat.beq (flatten (x.ev t)).length sz&&Nat.ble (Nat.add pre.length sz) m&&aC (flatten (x.ev t))then(bG (flatten (x.ev t)) pre.length (bG pre 0 .e)).force fun t'=>fillP sz m t r t' else none)=_;rw[bI,bW,h2,aj h1,aj (show Nat.add pre.length sz≤m by show pre.length+sz≤m;omega)];show(bG (flatten (x.ev t)) pre.length (bG pre 0 .e)).force (fun t'=>fillP sz m t r t')=_;rw[Tr.force_eq];have hs:=kF pre (flatten (x.ev t)) 0 .e;rw[Nat.zero_add]at hs;rw[hs];have:=xE (m:=m) (parts:=r) (pre:=pre++flatten (x.ev t)) (row:=row') (by rw[aF,h1];exact h3) (by rw[aF];omega);rw[this,bh]
  ·cases h
theorem rO{sz:Nat}:∀{ps:List (Nat×List V)} {o:Nat} {row:List V},jy sz o ps=some row→row.length=ps.length*sz∧aC row=true
 |[],o,row,h=>by
  obtain rfl:[]=row:=ae h;simp;rfl
 |(k,vs)::r,o,row,h=>by
  rw[kK]at h;split at h
  ·rename_i hc;rw[bj]at h;obtain⟨row',h3,rfl⟩:=h;obtain⟨h4,h5⟩:=rO h3;refine⟨by rw[aF,h4,hc.2.1,av,Nat.add_mul];omega,?_⟩;have key:∀(a b:List V),aC a=true→aC b=true→aC (a++b)=true:=by
    intro a
    induction a with
    |nil=>intro b _ h;exact h
    |cons x a ih=>
     intro b ha hb;rw[aE,ay]at ha;rw[List.cons_append,aE,ha.1,ih b ha.2 hb];rfl
   exact key _ _ hc.2.2 h5
  ·cases h
def aH0(ty n:Nat)(zero:List V)(b:Nat):Option (List V)→Option (V×bv)
 |some row=>some (.l b 0 n n,dq zero ty row)
 |none=>none
def b61(ty n sz:Nat)(zero:List V)(parts:List (Nat×X))(b:Nat)(t:T):Option (V×bv):=iV (.bsl ty n sz zero parts) b t
theorem xC(t:T):∀ps:List (Nat×X),(vk t ps).length=ps.length
 |[]=>rfl
 |(o,x)::r=>by rw[oE,av,av,xC t r]
theorem GF(ty n sz:Nat)(zero:List V)(parts:List (Nat×X))(b:Nat)(t:T)(hn:parts.length=n){row:List V}(h:jy sz 0 (vk t parts)=some row):
 iV (.bsl ty n sz zero parts) b t=some (.l b 0 n n,dq zero ty row):=by
 subst hn
 have hl:=(rO h).1
 rw[xC]at hl
 have:=xE (m:=parts.length*sz) (pre:=[]) h (by simp[hl])
 rw[List.nil_append]at this
 show(match fillP sz (parts.length*sz) t parts .e with|some c=>fN (parts.length*sz) fun m=>some (V.l b 0 parts.length parts.length,bv.cells ty m true 0 false zero c)|none=>none)=_
 rw[show fillP sz (parts.length*sz) t parts .e=some (bG row 0 .e)from this]
 show fN (parts.length*sz) (fun m=>some (V.l b 0 parts.length parts.length,bv.cells ty m true 0 false zero (bG row 0 .e)))=_
 rw[bo,←hl];rfl
theorem Q7(ty n sz:Nat)(zero:List V)(parts:List (Nat×X))(b:Nat)(t:T):iV (.bsl ty n sz zero parts) b t=if parts.length=n∧(jy sz 0 (vk t parts)).isSome=true then aH0 ty n zero b (jy sz 0 (vk t parts))else b61 ty n sz zero parts b t:=by
 split
 ·rename_i h;obtain⟨row,hr⟩:=bB.1 h.2;rw[hr];exact GF ty n sz zero parts b t h.1 hr
 ·rfl
theorem Ee(ty n:Nat)(zero:List V)(b:Nat)(row:List V):aH0 ty n zero b (some row)=some (.l b 0 n n,dq zero ty row):=rfl
def vw(L:List BX):RO→List V→Mem→Nat→RC:=fun F args M ct=>match args with|[]=>bif fq F L then .k (.b true) M ct else .f|_=> .f
theorem Av{L:List BX}(h:fq F L=true)(M:Mem)(c:Nat):vw L F [] M c= .k (.b true) M c:=by
 show(bif fq F L then RC.k (.b true) M c else .f)=_
 rw[h];rfl
end
def yG(C:Nat):Value→Option V
 | .bool x=>some (.b x)
 | .int k n=>some (.i k n)
 | .string s=>some (sV s.data.toList)
 | .pointer none=>some .p0
 | .slice none 0 0=>some .l0
 | .slice (some a) n c=>if a.spot=none∧a.block<C then some (.l a.block a.off n c)else if n=0∧c=0∧wU a<C then some (.ue (wU a) 1 0)else none
 | .iface t (.pointer (some ⟨r,o,none⟩))=>if r<C then some (.a t (.p r o))else none
 |_=>none
theorem Qz(E:cH)(s:ByteArray):conc E (sV s.data.toList)= .string s:=by
 show Value.string (ba s.data.toList.length (bP s.data.toList))=_
 unfold ba
 rw[jM]
theorem sF{C:Nat}{x:Value}{v:V}(h:yG C x=some v):conc E0 v=x∧bd (· <C) v:=by
 unfold yG at h
 split at h
 ·obtain rfl:=ae h;exact⟨rfl,trivial⟩
 ·obtain rfl:=ae h;exact⟨rfl,trivial⟩
 ·obtain rfl:=ae h;exact⟨Qz _ _,trivial⟩
 ·obtain rfl:=ae h;exact⟨rfl,trivial⟩
 ·obtain rfl:=ae h;exact⟨rfl,trivial⟩
 ·rename_i a n c;split at h
  ·rename_i hr;obtain⟨b,o,sp⟩:=a;obtain⟨h1,hr⟩:=hr;have h1:sp=none:=h1;subst h1;obtain rfl:=ae h;refine⟨?_,hr⟩;show Value.slice (some ⟨b,0+o,none⟩) n c=_;rw[Nat.zero_add]
  ·split at h
   ·rename_i hr;obtain⟨rfl,rfl,hr⟩:=hr;obtain rfl:=ae h;refine⟨?_,hr⟩;show Value.slice (some (if(0:Nat)=0 then(if(0:Nat)<1 then adD (wU a)else _)else _)) 0 0=_;rw[ac rfl,ac (by decide),aF5]
   ·cases h
 ·rename_i t r o;split at h
  ·rename_i hr;obtain rfl:=ae h;refine⟨?_,hr⟩;show Value.iface t (.pointer (some ⟨r,0+o,none⟩))=_;rw[Nat.zero_add]
  ·cases h
 ·cases h
def nH:List (Option V)→Nat→T→T
 |[],_,t=>t
 |none::r,k,t=>nH r (k+1) t
 |some v::r,k,t=>nH r (k+1) (t.set k v)
theorem oO:∀(l:List (Option V)) (k:Nat) (t:T) (j:Nat),(nH l k t).get j=if k≤j∧j<k+l.length then(match l[j-k]? with|some (some v)=>some v|_=>t.get j)else t.get j
 |[],k,t,j=>by
  rw[ab (by simp;try omega)];rfl
 |none::r,k,t,j=>by
  show(nH r (k+1) t).get j=_;rw[oO r (k+1) t j];simp only[av];by_cases h0:j=k
  ·subst h0;rw[ab (by omega),ac (by omega)];simp
  ·by_cases h1:k≤j∧j<k+(r.length+1)
   ·rw[ac (by omega),ac h1,show j-k=(j-(k+1))+1 by omega,List.getElem?_cons_succ]
   ·rw[ab (by omega),ab h1]
 |some v::r,k,t,j=>by
  show(nH r (k+1) (t.set k v)).get j=_;rw[oO r (k+1) (t.set k v) j,Tr.get_set];simp only[av];by_cases h0:j=k
  ·subst h0;rw[ab (by omega),ac rfl,ac (by omega)];simp
  ·rw[ab h0];by_cases h1:k≤j∧j<k+(r.length+1)
   ·rw[ac (by omega),ac h1,show j-k=(j-(k+1))+1 by omega,List.getElem?_cons_succ]
   ·rw[ab (by omega),ab h1]
def pn(C:Nat):Obj→Option bv
 | .cells arr ty _=>some (.cells ty arr.size false arr.size true [] (nH (arr.toList.map (yG C)) 0 .e))
 |_=>none
def lT(C:Nat):List Obj→Nat→RO
 |[],_=>[]
 |o::r,k=>match pn C o with
  |some x=>(k,x)::lT C r (k+1)
  |none=>lT C r (k+1)
theorem tZ(C:Nat):∀(l:List Obj) (k j:Nat),bq (lT C l k) j=if k≤j then(l[j-k]?).bind (pn C)else none
 |[],k,j=>by
  show none=_;split<;>simp
 |o::r,k,j=>by
  have ih:=tZ C r (k+1) j;unfold lT;by_cases h0:j=k
  ·subst h0;rw[ab (by omega)]at ih;rw[ac (ag _),Nat.sub_self,List.getElem?_cons_zero];show _=pn C o;cases hb:pn C o with
   |none=>exact ih
   |some x=>
    show bq ((j,x)::lT C r (j+1)) j=some x;rw[cg,ac rfl]
  ·have e:bq (match pn C o with|some x=>(k,x)::lT C r (k+1)|none=>lT C r (k+1)) j=bq (lT C r (k+1)) j:=by
    cases pn C o with
    |none=>rfl
    |some x=>
     show bq ((k,x)::lT C r (k+1)) j=_;rw[cg,ab (fun e=>h0 e.symm)]
   rw[e,ih];by_cases h1:k≤j
   ·rw[ac (by omega),ac h1,show j-k=(j-(k+1))+1 by omega,List.getElem?_cons_succ]
   ·rw[ab (by omega),ab h1]
def dR(W:World)(C:Nat):RO:=lT C W.heap.toList 0
theorem lA(W:World)(C j:Nat):bq (dR W C) j=(W.heap[j]?).bind (pn C):=by
 unfold dR
 rw[tZ,ac (aB _),Nat.sub_zero,Array.getElem?_toList]
theorem lB{C ty:Nat}{arr:Array Value}{k:Nat}{v:V}:cell arr.size [] (nH (arr.toList.map (yG C)) 0 .e) k=some v↔ ∃x,arr[k]?=some x∧yG C x=some v:=by
 rw[cI]
 by_cases h:k<arr.size
 ·rw[ac h,oO,ac (by simpa using h)];simp only[Nat.sub_zero,List.getElem?_map,Array.getElem?_toList,Array.getElem?_eq_getElem h,Option.map_some];show(match (match some (yG C arr[k])with|some (some v)=>some v|_=>(Tr.e:T).get k)with|some v=>some v|none=>([]:List V)[k%([]:List V).length]?)=some v↔_;constructor
  ·intro hv;refine⟨arr[k],rfl,?_⟩;cases hx:yG C arr[k]with
   |none=>rw[hx]at hv;simp[Tr.get_e]at hv
   |some y=>rw[hx]at hv;simpa using hv
  ·rintro⟨x,hx,hv⟩;obtain rfl:=ae hx;rw[hv]
 ·rw[ab h];constructor
  ·intro hh;cases hh
  ·rintro⟨x,hx,_⟩;rw[Array.getElem?_eq_none (by omega)]at hx;cases hx
theorem Mf{P:Program}{W:World}{C:Nat}(hC:W.heap.size≤C):jR P E0 (dR W C) .e (· <C) W:=by
 refine⟨?_,fun b b' _ _ e=>e,fun b _=>rfl⟩
 intro b blk hb
 rw[aR (show(Tr.e:Mem).get b=none from rfl),lA]at hb
 cases ho:W.heap[b]? with
 |none=>rw[ho]at hb;cases hb
 |some o=>
  rw[ho]at hb;have hb':pn C o=some blk:=hb;have hlt:b<C:=Nat.lt_of_lt_of_le (Array.getElem?_eq_some_iff.1 ho).1 hC;cases o with
  |cells arr ty fr=>
   obtain rfl:=ae hb';refine⟨hlt,?_,_,ho,arr,fr,rfl,?_,?_,?_,?_⟩
   ·intro k v hk;obtain⟨x,_,hv⟩:=(lB (ty:=ty)).1 hk;exact(sF hv).2
   ·intro k v hk;obtain⟨x,hx,hv⟩:=(lB (ty:=ty)).1 hk;show arr[0+k]?=_;rw[Nat.zero_add,hx,(sF hv).1]
   ·show arr.size=0+arr.size+0*_;simp
   ·intro o h1 h2;have h1':0+arr.size≤o:=h1;omega
   ·intro h;cases h
  |_=>cases hb'
theorem EN{W:World}{C r o:Nat}{x:Value}{v:V}(h:W.cell? ⟨r,o,none⟩=some x)(hv:yG C x=some v):load1 (dR W C) .e r o=some v:=by
 unfold World.cell? at h
 split at h
 ·rename_i cs ty fr hh;have h':cs[o]?=some x:=h;unfold Ev.load1;rw[aR (show(Tr.e:Mem).get r=none from rfl),lA];have hh':W.heap[r]?=some (.cells cs ty fr):=hh;rw[hh'];exact(lB (ty:=ty)).2 ⟨x,h',hv⟩
 ·cases h
theorem u0{W:World}{C:Nat}:∀{L:List BX},(∀t∈L,t.1<1000∧tz W t)→fq (dR W C) L=true
 |[],_=>rfl
 |t::r,h=>by
  show(Nat.blt t.1 1000&&(pO (dR W C) t&&fq (dR W C) r))=true;rw[u0 fun t ht=>h t (bn _ ht),fG,aj (h t (bw ..)).1];obtain⟨_,ty,fr,hh⟩:=h t (bw ..);have hi:pO (dR W C) t=true:=by
   unfold pO;rw[lA,hh];show(Nat.beq (t.2.2.map fun z=>Value.int t.2.1 z).toArray.size (t.2.2.map fun z=>Value.int t.2.1 z).toArray.size&&ii _ [] _ t.2.1 t.2.2 0)=true;rw[Nat.beq_refl,Bool.true_and]
   have key:∀(zs:List Int) (i:Nat),i+zs.length=t.2.2.length→(∀j,zs[j]?=t.2.2[i+j]?)→
    ii (t.2.2.map fun z=>Value.int t.2.1 z).toArray.size [] (nH ((t.2.2.map fun z=>Value.int t.2.1 z).toArray.toList.map (yG C)) 0 .e) t.2.1 zs i=true:=by
    intro zs
    induction zs with
    |nil=>
     intro i hi _;show Nat.beq i _=true;simp only[aV]at hi;rw[bI];simp;omega
    |cons z zs ih=>
     intro i hi hz;have h0:=hz 0;simp only[List.getElem?_cons_zero,be]at h0
     have hc:cell (t.2.2.map fun z=>Value.int t.2.1 z).toArray.size [] (nH ((t.2.2.map fun z=>Value.int t.2.1 z).toArray.toList.map (yG C)) 0 .e) i=some (.i t.2.1 z):=
      (lB (ty:=ty)).2 ⟨.int t.2.1 z,by simp[←h0],rfl⟩
     unfold ii;rw[hc];show(Bv t.2.1 z (.i t.2.1 z)&&_)=true;rw[ih (i+1) (by simp at hi;omega) fun j=>by have:=hz (j+1);rw[List.getElem?_cons_succ]at this;rw[this];congr 1;omega];show(fZ t.2.1 t.2.1&&Ew z z&&true)=true;rw[eb,cW];simp
   exact key t.2.2 0 (by omega) (fun j=>by rw[Nat.zero_add])
  rw[hi];rfl
theorem ac1{P:Program}(hm:P.follows .mixedOrders=true){Φ:Nat→Option CF}(hΦ:eA P Φ){f:Nat}{W:World}{C:Nat}{args:List V}(hC:W.heap.size≤C)(hk:1000≤C)(ha:fw (· <C) args)
 (h:Ev.Calls Φ (dR W C) f args .e C fun v _ _=>v= .b true):Go.Calls P f (az E0 args).toArray W fun e W'=>e= .returned (.bool true)∧(∀may,W.keptBut W' may)∧ ∀i,i<W.heap.size→W'.heap[i]?=W.heap[i]?:=by
 obtain⟨v,M',c',hc,rfl⟩:=h
 obtain⟨fn,h1,h2,h3,hC⟩:=gJ (rd:=none) (fn:=0) (F₀:=[]) hΦ (Lw hm hΦ) (dR W C) f args .e C (.b true) M' c' hc E0 (· <C) W (Mf hC) (fun g _=>⟨rfl,rfl⟩) (fun g hg=>Nat.lt_of_lt_of_le hg hk) (fun b hb hc=>Nat.lt_irrefl _ (Nat.lt_of_lt_of_le hc hb)) ha
 refine hC.mono ?_
 rintro e W' ⟨E',c',rfl,hS,_,_⟩
 exact⟨rfl,fun may=>Rc hS may,fun i hi=>hS.frame i hi (fun b hb=>by cases hb)⟩
end
end Go.Proofs.YtmbpllipombieaaDoor.Ev
