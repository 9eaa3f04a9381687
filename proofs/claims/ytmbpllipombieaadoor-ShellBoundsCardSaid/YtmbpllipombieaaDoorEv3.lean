/- What is proved here: pieces of the evaluator's soundness: if the evaluator comes to a value, the model's run comes to it, for every world and tape; no conditions beyond the hypotheses of each theorem. -/
import Derived.Test.YtmbpllipombieaaDoorEv2
import Derived.Lib.LaidTab
import GoSem.ClaimJoined
set_option linter.unusedSimpArgs false
set_option linter.unusedVariables false
set_option linter.defProp false
namespace Go.Proofs.YtmbpllipombieaaDoor.Ev
open Go
noncomputable section
def LR(a b:Rs):Prop:=a= .f∨a=b
def LC(a b:RC):Prop:=a= .f∨a=b
def LO{α:Type}(a b:Option α):Prop:=a=none∨a=b
def i6(ex ex':se):Prop:=∀rd fn F c s,LR (ex rd fn F c s) (ex' rd fn F c s)
section
variable{Φ:Nat→Option CF}{ex ex':se}{rd:Option Nat}{fn:Nat}{F:RO}
theorem L7(h:i6 ex ex')(F:RO)(f:Nat)(args:List V)(M:Mem)(c:Nat)(o:Option CF):LC (da ex F f args M c o) (da ex' F f args M c o):=by
 cases o with
 |none=>exact .inl rfl
 |some cf=>
  cases cf with
  |orc g=>exact .inr rfl
  |mk n res body=>
   show LC (k8 res F (ex none f F body (.mk (bA n args) [] M c))) (k8 res F (ex' none f F body (.mk (bA n args) [] M c)));rcases h none f F body (.mk (bA n args) [] M c)with e|e
   ·rw[e];exact .inl rfl
   ·rw[e];exact .inr rfl
theorem qI(h:i6 ex ex')(f:Nat)(args:List V)(M:Mem)(c:Nat):LC (jz (.mk Φ ex rd fn F) f args M c) (jz (.mk Φ ex' rd fn F) f args M c):=L7 h F f args M c _
theorem FG(h:i6 ex ex')(l fn':Nat)(body:CC)(t:T)(M:Mem)(c:Nat)(lp:Lp):LC (oI (.mk Φ ex rd fn F) l fn' body t M c lp) (oI (.mk Φ ex' rd fn F) l fn' body t M c lp):=by
 cases lp with
 |f=>exact .inl rfl
 |k s pe fn2 tm ps a b d=>
  cases s with
  |ready=>
   show LC ((M.set l (.loop .busy pe fn2 tm ps a b d)).force fun M=>kE l (ex (some l) fn' F body (.mk t [] M c))) ((M.set l (.loop .busy pe fn2 tm ps a b d)).force fun M=>kE l (ex' (some l) fn' F body (.mk t [] M c)));rw[Tr.force_eq,Tr.force_eq];rcases h (some l) fn' F body (.mk t [] (M.set l (.loop .busy pe fn2 tm ps a b d)) c)with e|e
   ·rw[e];exact .inl rfl
   ·rw[e];exact .inr rfl
  |_=>exact .inl rfl
theorem Ou(h:i6 ex ex')(l fn':Nat)(body:CC)(r:Rs):LC (kD (.mk Φ ex rd fn F) l fn' body r) (kD (.mk Φ ex' rd fn F) l fn' body r):=by
 cases r with
 |f=>exact .inl rfl
 |k e s=>
  cases e with
  |nrm=>
   obtain⟨t,d,M,c⟩:=s;cases d with
   |nil=>exact FG (Φ:=Φ) (rd:=rd) (fn:=fn) h l fn' body t M c _
   |cons _ _=>exact .inl rfl
  |_=>exact .inl rfl
theorem S4(h:i6 ex ex')(l fn':Nat)(asg body:CC)(M:Mem)(c:Nat)(o:Option T):LC (Bv (.mk Φ ex rd fn F) l fn' asg body M c o) (Bv (.mk Φ ex' rd fn F) l fn' asg body M c o):=by
 cases o with
 |none=>exact .inl rfl
 |some t=>
  show LC (kD (.mk Φ ex rd fn F) l fn' body (ex (some l) fn' F asg (.mk t [] M c))) (kD (.mk Φ ex' rd fn F) l fn' body (ex' (some l) fn' F asg (.mk t [] M c)));rcases h (some l) fn' F asg (.mk t [] M c)with e|e
  ·rw[e];exact .inl rfl
  ·rw[e];exact Ou h l fn' body _
theorem La(h:i6 ex ex')(l:Nat)(args:List V)(M:Mem)(c:Nat)(lp:Lp):LC (oR (.mk Φ ex rd fn F) l args M c lp) (oR (.mk Φ ex' rd fn F) l args M c lp):=by
 cases lp with
 |f=>exact .inl rfl
 |k s pe fn2 tm ps a b d=>
  cases s with
  |ready=>exact S4 h l fn2 a b M c _
  |_=>exact .inl rfl
theorem L9(h:i6 ex ex')(v:V)(args:List V)(M:Mem)(c:Nat):LC (mL (.mk Φ ex rd fn F) v args M c) (mL (.mk Φ ex' rd fn F) v args M c):=by
 cases v with
 |f g a b=>exact qI (Φ:=Φ) (rd:=rd) (fn:=fn) h g _ M c
 |y l=>exact La h l args M c _
 |_=>exact .inl rfl
theorem L8(h:i6 ex ex')(v:V)(args:List V)(M:Mem)(c:Nat):LC (jV (.mk Φ ex rd fn F) v args M c) (jV (.mk Φ ex' rd fn F) v args M c):=by
 cases v with
 |f g a b=>exact qI (Φ:=Φ) (rd:=rd) (fn:=fn) h g _ M c
 |_=>exact .inl rfl
theorem Lj(h:i6 ex ex')(o:EO)(M:Mem)(c:Nat)(t:T):LC (ew o (.mk Φ ex rd fn F) M c t) (ew o (.mk Φ ex' rd fn F) M c t):=by
 cases o with
 |call f as=>exact qI (Φ:=Φ) (rd:=rd) (fn:=fn) h f _ M c
 |cv f as=>exact L9 h _ _ M c
 |_=>exact .inr rfl
theorem Nr(h:i6 ex ex')(o:OK)(dst:Option ay)(t:T)(d:List Nat)(M:Mem)(c:Nat):LO (RE o (.mk Φ ex rd fn F) dst t d M c) (RE o (.mk Φ ex' rd fn F) dst t d M c):=by
 cases o with
 |q o=>exact .inr rfl
 |a o=>exact .inr rfl
 |e o=>
  show LO (sI dst t d (ew o (.mk Φ ex rd fn F) M c t)) (sI dst t d (ew o (.mk Φ ex' rd fn F) M c t));rcases Lj (Φ:=Φ) (rd:=rd) (fn:=fn) (F:=F) h o M c t with e|e
  ·rw[e];exact .inl rfl
  ·rw[e];exact .inr rfl
theorem Na(h:i6 ex ex')(o:CO)(s:St):LO (dC o (.mk Φ ex rd fn F) s) (dC o (.mk Φ ex' rd fn F) s):=by
 obtain⟨dst,op,g⟩:=o
 obtain⟨t,d,M,c⟩:=s
 cases g with
 |none=>exact Nr h op dst t d M c
 |some g=>
  show LO (Yg op (.mk Φ ex rd fn F) dst t d M c (wanted t (some g))) (Yg op (.mk Φ ex' rd fn F) dst t d M c (wanted t (some g)));cases wanted t (some g)with
  |false=>exact .inr rfl
  |true=>exact Nr h op dst t d M c
theorem tS(h:i6 ex ex'):∀(ops:List CO) (s:St),LO (cO ops (.mk Φ ex rd fn F) s) (cO ops (.mk Φ ex' rd fn F) s)
 |[],s=> .inr rfl
 |o::r,s=>by
  show LO (jq (cO r) (.mk Φ ex rd fn F) (dC o (.mk Φ ex rd fn F) s)) (jq (cO r) (.mk Φ ex' rd fn F) (dC o (.mk Φ ex' rd fn F) s));rcases Na (Φ:=Φ) (rd:=rd) (fn:=fn) (F:=F) h o s with e|e
  ·rw[e];exact .inl rfl
  ·rw[e];cases dC o (.mk Φ ex' rd fn F) s with
   |none=>exact .inl rfl
   |some s1=>exact tS h r s1
theorem Qa(h:i6 ex ex')(e:EO)(dst:Option ay)(t:T)(c:Nat)(pend:List (Nat×Nat×bw))(reads:List (Nat×Nat))(p:Pr):
 LO (nU e (.mk Φ ex rd fn F) dst t c pend reads p) (nU e (.mk Φ ex' rd fn F) dst t c pend reads p):=by
 obtain⟨F',M,saved⟩:=p
 show LO (bif bX F' M pend then lu F' dst t pend reads saved (ew e (.mk Φ ex rd fn F') M c t)else none) (bif bX F' M pend then lu F' dst t pend reads saved (ew e (.mk Φ ex' rd fn F') M c t)else none)
 cases bX F' M pend with
 |false=>exact .inl rfl
 |true=>
  rcases Lj (Φ:=Φ) (rd:=rd) (fn:=fn) (F:=F') h e M c t with e|e
  ·rw[e];exact .inl rfl
  ·rw[e];exact .inr rfl
theorem ab4(h:i6 ex ex')(base:Nat)(x:Nat×Nat×CO)(s:DS):LO (px (.mk Φ ex rd fn F) base x s) (px (.mk Φ ex' rd fn F) base x s):=by
 obtain⟨i,mask,dst,op,g⟩:=x
 obtain⟨t,M,c,pend,reads⟩:=s
 show LO (bif wanted t g then Lf (.mk Φ ex rd fn F) base i mask dst op t M c pend reads else _) (bif wanted t g then Lf (.mk Φ ex' rd fn F) base i mask dst op t M c pend reads else _)
 cases wanted t g with
 |false=>exact .inr rfl
 |true=>
  cases op with
  |q o=>exact .inr rfl
  |a o=>exact .inr rfl
  |e o=>
   show LO (sC o (.mk Φ ex rd fn F) mask dst t c reads (dN mask pend M)) (sC o (.mk Φ ex' rd fn F) mask dst t c reads (dN mask pend M));obtain⟨M1,p1⟩:=dN mask pend M;exact Qa h o dst t c p1 reads _
theorem C6(h:i6 ex ex')(base:Nat):∀(ops:List (Nat×Nat×CO)) (s:DS),LO (gf (.mk Φ ex rd fn F) base ops s) (gf (.mk Φ ex' rd fn F) base ops s)
 |[],s=> .inr rfl
 |o::r,s=>by
  rw[gf,gf];rcases ab4 (Φ:=Φ) (rd:=rd) (fn:=fn) (F:=F) h base o s with e|e
  ·rw[e];exact .inl rfl
  ·rw[e];cases px (.mk Φ ex' rd fn F) base o s with
   |none=>exact .inl rfl
   |some s1=>exact C6 h base r s1
theorem wo(h:i6 ex ex')(c:CC)(s:St):LR (mG (.mk Φ ex rd fn F) c s) (mG (.mk Φ ex' rd fn F) c s):=h rd fn F c s
theorem CU(h:i6 ex ex')(f:X)(ps:List ay)(asg body:CC)(t:T)(d:List Nat)(M:Mem)(l dn:Nat):LR (me f ps asg body (.mk Φ ex rd fn F) t d M l dn) (me f ps asg body (.mk Φ ex' rd fn F) t d M l dn):=by
 show LR ((M.set l (.loop .ready .none fn t ps asg body dn)).force fun M=>fN (Nat.succ l) fun c=>kq t d l (jV (.mk Φ ex rd fn F) (f.ev t) [.y l] M c)) ((M.set l (.loop .ready .none fn t ps asg body dn)).force fun M=>fN (Nat.succ l) fun c=>kq t d l (jV (.mk Φ ex' rd fn F) (f.ev t) [.y l] M c))
 rw[Tr.force_eq,Tr.force_eq,bp,bp]
 rcases L8 (Φ:=Φ) (rd:=rd) (fn:=fn) (F:=F) h (f.ev t) [.y l] (M.set l (.loop .ready .none fn t ps asg body dn)) (Nat.succ l)with e|e
 ·rw[e];exact .inl rfl
 ·rw[e];exact .inr rfl
theorem Rr(h:i6 ex ex')(f:X)(ps:List ay)(asg body:CC)(t:T)(d:List Nat)(M:Mem)(l:Nat)(lp:Lp):LR (Fj f ps asg body (.mk Φ ex rd fn F) t d M l lp) (Fj f ps asg body (.mk Φ ex' rd fn F) t d M l lp):=by
 cases lp with
 |f=>exact .inl rfl
 |k s pe fn2 tm ps' a b dn=>exact CU h f ps asg body t d M l dn
theorem wM(h:i6 ex ex'):∀(c:CC) (s:St),LR (bc c (.mk Φ ex rd fn F) s) (bc c (.mk Φ ex' rd fn F) s):=by
 intro c
 induction c with
 |skip=>exact fun s=> .inr rfl
 |reg ops=>
  intro s;show LR (nk (cO ops (.mk Φ ex rd fn F) s)) (nk (cO ops (.mk Φ ex' rd fn F) s));rcases tS (Φ:=Φ) (rd:=rd) (fn:=fn) (F:=F) h ops s with e|e
  ·rw[e];exact .inl rfl
  ·rw[e];exact .inr rfl
 |dreg n ops=>
  intro s;obtain⟨t,d,M,c⟩:=s;show LR (fN (Nat.add c n) fun c'=>qO d (gf (.mk Φ ex rd fn F) c ops (.mk t M c' [] []))) (fN (Nat.add c n) fun c'=>qO d (gf (.mk Φ ex' rd fn F) c ops (.mk t M c' [] [])));rw[bp,bp];rcases C6 (Φ:=Φ) (rd:=rd) (fn:=fn) (F:=F) h c ops (.mk t M (Nat.add c n) [] [])with e|e
  ·rw[e];exact .inl rfl
  ·rw[e];exact .inr rfl
 |seq a b iha ihb=>
  intro s;show LR (iU (bc b) (.mk Φ ex rd fn F) (bc a (.mk Φ ex rd fn F) s)) (iU (bc b) (.mk Φ ex' rd fn F) (bc a (.mk Φ ex' rd fn F) s));rcases iha s with e|e
  ·rw[e];exact .inl rfl
  ·rw[e];cases bc a (.mk Φ ex' rd fn F) s with
   |f=>exact .inl rfl
   |k e s1=>
    cases e with
    |nrm=>exact ihb s1
    |_=>exact .inr rfl
 |cond x a b iha ihb=>
  intro s;show LR (gI x a b (bc a) (bc b) (.mk Φ ex rd fn F) s) (gI x a b (bc a) (bc b) (.mk Φ ex' rd fn F) s);unfold gI;cases x.ev (stT s)with
  |b v=>
   cases v with
   |true=>exact iha s
   |false=>exact ihb s
  |_=>exact .inl rfl
 |block id b ih=>
  intro s;show LR (dZ id (bc b (.mk Φ ex rd fn F) s)) (dZ id (bc b (.mk Φ ex' rd fn F) s));rcases ih s with e|e
  ·rw[e];exact .inl rfl
  ·rw[e];exact .inr rfl
 |loop b ih=>
  intro s;show LR (fg b (.mk Φ ex rd fn F) (bc b (.mk Φ ex rd fn F) s)) (fg b (.mk Φ ex' rd fn F) (bc b (.mk Φ ex' rd fn F) s));rcases ih s with e|e
  ·rw[e];exact .inl rfl
  ·rw[e];cases bc b (.mk Φ ex' rd fn F) s with
   |f=>exact .inl rfl
   |k e s1=>
    cases e with
    |nrm=>exact wo (Φ:=Φ) h _ s1
    |_=>exact .inr rfl
 |rf f ps a b _ _=>
  intro s;obtain⟨t,d,M,c⟩:=s;cases rd with
  |some l=>exact Rr h f ps a b t d M c _
  |none=>
   show LR ((M.set c (.defs false)).force fun M=>fN (Nat.succ c) fun c'=>me f ps a b (.mk Φ ex none fn F) t (c::d) M c' c) ((M.set c (.defs false)).force fun M=>fN (Nat.succ c) fun c'=>me f ps a b (.mk Φ ex' none fn F) t (c::d) M c' c);rw[Tr.force_eq,Tr.force_eq,bp,bp];exact CU h f ps a b t (c::d) _ _ c
 |exit id=>exact fun s=> .inr rfl
 |scope b tbl ihb _=>
  intro s;show LR (fK tbl (.mk Φ ex rd fn F) (bc b (.mk Φ ex rd fn F) s)) (fK tbl (.mk Φ ex' rd fn F) (bc b (.mk Φ ex' rd fn F) s));rcases ihb s with e|e
  ·rw[e];exact .inl rfl
  ·rw[e];cases bc b (.mk Φ ex' rd fn F) s with
   |f=>exact .inl rfl
   |k e s1=>
    cases e with
    |gto l=>
     show LR (mf tbl (.mk Φ ex rd fn F) s1 (fU l tbl)) (mf tbl (.mk Φ ex' rd fn F) s1 (fU l tbl));cases fU l tbl with
     |none=>exact .inl rfl
     |some c=>exact wo (Φ:=Φ) h _ s1
    |_=>exact .inr rfl
 |tab l c r _ _=>exact fun s=> .inr rfl
 |goto l=>exact fun s=> .inr rfl
 |ret=>exact fun s=> .inr rfl
 |bad=>exact fun s=> .inr rfl
end
theorem Cd(Φ:Nat→Option CF):∀(n:Nat),i6 (exec Φ n) (exec Φ (n+1))
 |0=>fun rd fn F c s=> .inl rfl
 |n+1=>fun rd fn F c s=>wM (Cd Φ n) c s
theorem nY(Φ:Nat→Option CF){n:Nat}(m:Nat):i6 (exec Φ n) (exec Φ (n+m)):=by
 induction m with
 |zero=>exact fun rd fn F c s=> .inr rfl
 |succ m ih=>
  intro rd fn F c s;rcases ih rd fn F c s with h|h
  ·exact .inl h
  ·rcases Cd Φ (n+m) rd fn F c s with h2|h2
   ·exact .inl (h.trans h2)
   ·exact .inr (h.trans h2)
def VR(a:Nat→Rs)(b:Rs):Prop:=b= .f∨ ∃n,∀m,n≤m→a m=b
def VC(a:Nat→RC)(b:RC):Prop:=b= .f∨ ∃n,∀m,n≤m→a m=b
def VO{α:Type}(a:Nat→Option α)(b:Option α):Prop:=b=none∨ ∃n,∀m,n≤m→a m=b
def sM(ex:Nat→se)(ex':se):Prop:=∀rd fn F c s,VR (fun m=>ex m rd fn F c s) (ex' rd fn F c s)
section
variable{Φ:Nat→Option CF}{ex:Nat→se}{ex':se}{rd:Option Nat}{fn:Nat}{F:RO}
theorem PZ(h:sM ex ex')(F:RO)(f:Nat)(args:List V)(M:Mem)(c:Nat)(o:Option CF):VC (fun m=>da (ex m) F f args M c o) (da ex' F f args M c o):=by
 cases o with
 |none=>exact .inl rfl
 |some cf=>
  cases cf with
  |orc g=>exact .inr ⟨0,fun m hm=>rfl⟩
  |mk n res body=>
   show VC (fun m=>k8 res F (ex m none f F body (.mk (bA n args) [] M c))) (k8 res F (ex' none f F body (.mk (bA n args) [] M c)));rcases h none f F body (.mk (bA n args) [] M c)with e|⟨n,e⟩
   ·rw[e];exact .inl rfl
   ·exact .inr ⟨n,fun m hm=>congrArg (k8 res F) (e m hm)⟩
theorem uG(h:sM ex ex')(f:Nat)(args:List V)(M:Mem)(c:Nat):VC (fun m=>jz (.mk Φ (ex m) rd fn F) f args M c) (jz (.mk Φ ex' rd fn F) f args M c):=PZ h F f args M c _
theorem Ov(h:sM ex ex')(l fn':Nat)(body:CC)(t:T)(M:Mem)(c:Nat)(lp:Lp):VC (fun m=>oI (.mk Φ (ex m) rd fn F) l fn' body t M c lp) (oI (.mk Φ ex' rd fn F) l fn' body t M c lp):=by
 cases lp with
 |f=>exact .inl rfl
 |k s pe fn2 tm ps a b d=>
  cases s with
  |ready=>
   show VC (fun m=>(M.set l (.loop .busy pe fn2 tm ps a b d)).force fun M=>kE l (ex m (some l) fn' F body (.mk t [] M c))) ((M.set l (.loop .busy pe fn2 tm ps a b d)).force fun M=>kE l (ex' (some l) fn' F body (.mk t [] M c)));simp only[Tr.force_eq];rcases h (some l) fn' F body (.mk t [] (M.set l (.loop .busy pe fn2 tm ps a b d)) c)with e|⟨n,e⟩
   ·rw[e];exact .inl rfl
   ·exact .inr ⟨n,fun m hm=>congrArg (kE l) (e m hm)⟩
  |_=>exact .inl rfl
theorem S3(h:sM ex ex')(l fn':Nat)(body:CC)(r:Rs):VC (fun m=>kD (.mk Φ (ex m) rd fn F) l fn' body r) (kD (.mk Φ ex' rd fn F) l fn' body r):=by
 cases r with
 |f=>exact .inl rfl
 |k e s=>
  cases e with
  |nrm=>
   obtain⟨t,d,M,c⟩:=s;cases d with
   |nil=>exact Ov (Φ:=Φ) (rd:=rd) (fn:=fn) h l fn' body t M c _
   |cons _ _=>exact .inl rfl
  |_=>exact .inl rfl
theorem ay3(h:sM ex ex')(l fn':Nat)(asg body:CC)(M:Mem)(c:Nat)(o:Option T):VC (fun m=>Bv (.mk Φ (ex m) rd fn F) l fn' asg body M c o) (Bv (.mk Φ ex' rd fn F) l fn' asg body M c o):=by
 cases o with
 |none=>exact .inl rfl
 |some t=>
  show VC (fun m=>kD (.mk Φ (ex m) rd fn F) l fn' body (ex m (some l) fn' F asg (.mk t [] M c))) (kD (.mk Φ ex' rd fn F) l fn' body (ex' (some l) fn' F asg (.mk t [] M c)));rcases h (some l) fn' F asg (.mk t [] M c)with e|⟨n,e⟩
  ·rw[e];exact .inl rfl
  ·rcases S3 (Φ:=Φ) (rd:=rd) (fn:=fn) (F:=F) h l fn' body (ex' (some l) fn' F asg (.mk t [] M c))with e2|⟨n2,e2⟩
   ·exact .inl e2
   ·exact .inr ⟨max n n2,fun m hm=>by
     have h1:=e m (aY (Nat.le_max_left _ _) hm);have h2:=e2 m (aY (Nat.le_max_right _ _) hm);simp only at h1 h2⊢;rw[h1,h2]⟩
theorem Q3(h:sM ex ex')(l:Nat)(args:List V)(M:Mem)(c:Nat)(lp:Lp):VC (fun m=>oR (.mk Φ (ex m) rd fn F) l args M c lp) (oR (.mk Φ ex' rd fn F) l args M c lp):=by
 cases lp with
 |f=>exact .inl rfl
 |k s pe fn2 tm ps a b d=>
  cases s with
  |ready=>exact ay3 h l fn2 a b M c _
  |_=>exact .inl rfl
theorem Q2(h:sM ex ex')(v:V)(args:List V)(M:Mem)(c:Nat):VC (fun m=>mL (.mk Φ (ex m) rd fn F) v args M c) (mL (.mk Φ ex' rd fn F) v args M c):=by
 cases v with
 |f g a b=>exact uG (Φ:=Φ) (rd:=rd) (fn:=fn) h g _ M c
 |y l=>exact Q3 h l args M c _
 |_=>exact .inl rfl
theorem Q0(h:sM ex ex')(v:V)(args:List V)(M:Mem)(c:Nat):VC (fun m=>jV (.mk Φ (ex m) rd fn F) v args M c) (jV (.mk Φ ex' rd fn F) v args M c):=by
 cases v with
 |f g a b=>exact uG (Φ:=Φ) (rd:=rd) (fn:=fn) h g _ M c
 |_=>exact .inl rfl
theorem XP(h:sM ex ex')(o:EO)(M:Mem)(c:Nat)(t:T):VC (fun m=>ew o (.mk Φ (ex m) rd fn F) M c t) (ew o (.mk Φ ex' rd fn F) M c t):=by
 cases o with
 |call f as=>exact uG (Φ:=Φ) (rd:=rd) (fn:=fn) h f _ M c
 |cv f as=>exact Q2 h _ _ M c
 |_=>exact .inr ⟨0,fun m hm=>rfl⟩
theorem Yk(h:sM ex ex')(o:OK)(dst:Option ay)(t:T)(d:List Nat)(M:Mem)(c:Nat):VO (fun m=>RE o (.mk Φ (ex m) rd fn F) dst t d M c) (RE o (.mk Φ ex' rd fn F) dst t d M c):=by
 cases o with
 |q o=>exact .inr ⟨0,fun m hm=>rfl⟩
 |a o=>exact .inr ⟨0,fun m hm=>rfl⟩
 |e o=>
  show VO (fun m=>sI dst t d (ew o (.mk Φ (ex m) rd fn F) M c t)) (sI dst t d (ew o (.mk Φ ex' rd fn F) M c t));rcases XP (Φ:=Φ) (rd:=rd) (fn:=fn) (F:=F) h o M c t with e|⟨n,e⟩
  ·rw[e];exact .inl rfl
  ·exact .inr ⟨n,fun m hm=>congrArg (sI dst t d) (e m hm)⟩
theorem Rx(h:sM ex ex')(o:CO)(s:St):VO (fun m=>dC o (.mk Φ (ex m) rd fn F) s) (dC o (.mk Φ ex' rd fn F) s):=by
 obtain⟨dst,op,g⟩:=o
 obtain⟨t,d,M,c⟩:=s
 cases g with
 |none=>exact Yk h op dst t d M c
 |some g=>
  show VO (fun m=>Yg op (.mk Φ (ex m) rd fn F) dst t d M c (wanted t (some g))) (Yg op (.mk Φ ex' rd fn F) dst t d M c (wanted t (some g)));cases wanted t (some g)with
  |false=>exact .inr ⟨0,fun m hm=>rfl⟩
  |true=>exact Yk h op dst t d M c
theorem xQ(h:sM ex ex'):∀(ops:List CO) (s:St),VO (fun m=>cO ops (.mk Φ (ex m) rd fn F) s) (cO ops (.mk Φ ex' rd fn F) s)
 |[],s=> .inr ⟨0,fun m hm=>rfl⟩
 |o::r,s=>by
  show VO (fun m=>jq (cO r) (.mk Φ (ex m) rd fn F) (dC o (.mk Φ (ex m) rd fn F) s)) (jq (cO r) (.mk Φ ex' rd fn F) (dC o (.mk Φ ex' rd fn F) s));rcases Rx (Φ:=Φ) (rd:=rd) (fn:=fn) (F:=F) h o s with e|⟨n,e⟩
  ·rw[e];exact .inl rfl
  ·cases hs:dC o (.mk Φ ex' rd fn F) s with
   |none=>exact .inl rfl
   |some s1=>
    rw[hs]at e;rcases xQ h r s1 with e2|⟨n2,e2⟩
    ·exact .inl e2
    ·exact .inr ⟨max n n2,fun m hm=>by
      have h1:=e m (aY (Nat.le_max_left _ _) hm);have h2:=e2 m (aY (Nat.le_max_right _ _) hm);simp only at h1 h2⊢;rw[h1];exact h2⟩
theorem ab5(h:sM ex ex')(e:EO)(dst:Option ay)(t:T)(c:Nat)(pend:List (Nat×Nat×bw))(reads:List (Nat×Nat))(p:Pr):
 VO (fun m=>nU e (.mk Φ (ex m) rd fn F) dst t c pend reads p) (nU e (.mk Φ ex' rd fn F) dst t c pend reads p):=by
 obtain⟨F',M,saved⟩:=p
 show VO (fun m=>bif bX F' M pend then lu F' dst t pend reads saved (ew e (.mk Φ (ex m) rd fn F') M c t)else none) (bif bX F' M pend then lu F' dst t pend reads saved (ew e (.mk Φ ex' rd fn F') M c t)else none)
 cases bX F' M pend with
 |false=>exact .inl rfl
 |true=>
  rcases XP (Φ:=Φ) (rd:=rd) (fn:=fn) (F:=F') h e M c t with e|⟨n,e⟩
  ·rw[e];exact .inl rfl
  ·exact .inr ⟨n,fun m hm=>congrArg (lu F' dst t pend reads saved) (e m hm)⟩
theorem aQ3(h:sM ex ex')(base:Nat)(x:Nat×Nat×CO)(s:DS):VO (fun m=>px (.mk Φ (ex m) rd fn F) base x s) (px (.mk Φ ex' rd fn F) base x s):=by
 obtain⟨i,mask,dst,op,g⟩:=x
 obtain⟨t,M,c,pend,reads⟩:=s
 show VO (fun m=>bif wanted t g then Lf (.mk Φ (ex m) rd fn F) base i mask dst op t M c pend reads else _) (bif wanted t g then Lf (.mk Φ ex' rd fn F) base i mask dst op t M c pend reads else _)
 cases wanted t g with
 |false=>exact .inr ⟨0,fun m hm=>rfl⟩
 |true=>
  cases op with
  |q o=>exact .inr ⟨0,fun m hm=>rfl⟩
  |a o=>exact .inr ⟨0,fun m hm=>rfl⟩
  |e o=>
   show VO (fun m=>sC o (.mk Φ (ex m) rd fn F) mask dst t c reads (dN mask pend M)) (sC o (.mk Φ ex' rd fn F) mask dst t c reads (dN mask pend M));obtain⟨M1,p1⟩:=dN mask pend M;exact ab5 h o dst t c p1 reads _
theorem Le(h:sM ex ex')(base:Nat):∀(ops:List (Nat×Nat×CO)) (s:DS),VO (fun m=>gf (.mk Φ (ex m) rd fn F) base ops s) (gf (.mk Φ ex' rd fn F) base ops s)
 |[],s=> .inr ⟨0,fun m hm=>rfl⟩
 |o::r,s=>by
  simp only[gf];rcases aQ3 (Φ:=Φ) (rd:=rd) (fn:=fn) (F:=F) h base o s with e|⟨n,e⟩
  ·rw[e];exact .inl rfl
  ·cases hs:px (.mk Φ ex' rd fn F) base o s with
   |none=>exact .inl rfl
   |some s1=>
    rw[hs]at e;rcases Le h base r s1 with e2|⟨n2,e2⟩
    ·exact .inl e2
    ·exact .inr ⟨max n n2,fun m hm=>by
      have h1:=e m (aY (Nat.le_max_left _ _) hm);have h2:=e2 m (aY (Nat.le_max_right _ _) hm);simp only at h1 h2⊢;rw[h1];exact h2⟩
theorem BV(h:sM ex ex')(c:CC)(s:St):VR (fun m=>mG (.mk Φ (ex m) rd fn F) c s) (mG (.mk Φ ex' rd fn F) c s):=h rd fn F c s
theorem MU(h:sM ex ex')(f:X)(ps:List ay)(asg body:CC)(t:T)(d:List Nat)(M:Mem)(l dn:Nat):VR (fun m=>me f ps asg body (.mk Φ (ex m) rd fn F) t d M l dn) (me f ps asg body (.mk Φ ex' rd fn F) t d M l dn):=by
 show VR (fun m=>(M.set l (.loop .ready .none fn t ps asg body dn)).force fun M=>fN (Nat.succ l) fun c=>kq t d l (jV (.mk Φ (ex m) rd fn F) (f.ev t) [.y l] M c)) ((M.set l (.loop .ready .none fn t ps asg body dn)).force fun M=>fN (Nat.succ l) fun c=>kq t d l (jV (.mk Φ ex' rd fn F) (f.ev t) [.y l] M c))
 simp only[Tr.force_eq,bp]
 rcases Q0 (Φ:=Φ) (rd:=rd) (fn:=fn) (F:=F) h (f.ev t) [.y l] (M.set l (.loop .ready .none fn t ps asg body dn)) (Nat.succ l)with e|⟨n,e⟩
 ·rw[e];exact .inl rfl
 ·exact .inr ⟨n,fun m hm=>congrArg (kq t d l) (e m hm)⟩
theorem ai4(h:sM ex ex')(f:X)(ps:List ay)(asg body:CC)(t:T)(d:List Nat)(M:Mem)(l:Nat)(lp:Lp):VR (fun m=>Fj f ps asg body (.mk Φ (ex m) rd fn F) t d M l lp) (Fj f ps asg body (.mk Φ ex' rd fn F) t d M l lp):=by
 cases lp with
 |f=>exact .inl rfl
 |k s pe fn2 tm ps' a b dn=>exact MU h f ps asg body t d M l dn
theorem Qs(h:sM ex ex'):∀(c:CC) (s:St),VR (fun m=>bc c (.mk Φ (ex m) rd fn F) s) (bc c (.mk Φ ex' rd fn F) s):=by
 intro c
 induction c with
 |skip=>exact fun s=> .inr ⟨0,fun m hm=>rfl⟩
 |reg ops=>
  intro s;show VR (fun m=>nk (cO ops (.mk Φ (ex m) rd fn F) s)) (nk (cO ops (.mk Φ ex' rd fn F) s));rcases xQ (Φ:=Φ) (rd:=rd) (fn:=fn) (F:=F) h ops s with e|⟨n,e⟩
  ·rw[e];exact .inl rfl
  ·exact .inr ⟨n,fun m hm=>congrArg nk (e m hm)⟩
 |dreg k ops=>
  intro s;obtain⟨t,d,M,c⟩:=s;show VR (fun m=>fN (Nat.add c k) fun c'=>qO d (gf (.mk Φ (ex m) rd fn F) c ops (.mk t M c' [] []))) (fN (Nat.add c k) fun c'=>qO d (gf (.mk Φ ex' rd fn F) c ops (.mk t M c' [] [])));simp only[bp];rcases Le (Φ:=Φ) (rd:=rd) (fn:=fn) (F:=F) h c ops (.mk t M (Nat.add c k) [] [])with e|⟨n,e⟩
  ·rw[e];exact .inl rfl
  ·exact .inr ⟨n,fun m hm=>congrArg (qO d) (e m hm)⟩
 |seq a b iha ihb=>
  intro s;show VR (fun m=>iU (bc b) (.mk Φ (ex m) rd fn F) (bc a (.mk Φ (ex m) rd fn F) s)) (iU (bc b) (.mk Φ ex' rd fn F) (bc a (.mk Φ ex' rd fn F) s));rcases iha s with e|⟨n,e⟩
  ·rw[e];exact .inl rfl
  ·cases hs:bc a (.mk Φ ex' rd fn F) s with
   |f=>exact .inl rfl
   |k x s1=>
    rw[hs]at e;cases x with
    |nrm=>
     rcases ihb s1 with e2|⟨n2,e2⟩
     ·exact .inl e2
     ·exact .inr ⟨max n n2,fun m hm=>by
       have h1:=e m (aY (Nat.le_max_left _ _) hm);have h2:=e2 m (aY (Nat.le_max_right _ _) hm);simp only at h1 h2⊢;rw[h1];exact h2⟩
    |_=>exact .inr ⟨n,fun m hm=>congrArg (iU (bc b) (.mk Φ (ex m) rd fn F)) (e m hm)⟩
 |cond x a b iha ihb=>
  intro s;show VR (fun m=>gI x a b (bc a) (bc b) (.mk Φ (ex m) rd fn F) s) (gI x a b (bc a) (bc b) (.mk Φ ex' rd fn F) s);unfold gI;cases x.ev (stT s)with
  |b v=>
   cases v with
   |true=>exact iha s
   |false=>exact ihb s
  |_=>exact .inl rfl
 |block id b ih=>
  intro s;show VR (fun m=>dZ id (bc b (.mk Φ (ex m) rd fn F) s)) (dZ id (bc b (.mk Φ ex' rd fn F) s));rcases ih s with e|⟨n,e⟩
  ·rw[e];exact .inl rfl
  ·exact .inr ⟨n,fun m hm=>congrArg (dZ id) (e m hm)⟩
 |loop b ih=>
  intro s;show VR (fun m=>fg b (.mk Φ (ex m) rd fn F) (bc b (.mk Φ (ex m) rd fn F) s)) (fg b (.mk Φ ex' rd fn F) (bc b (.mk Φ ex' rd fn F) s));rcases ih s with e|⟨n,e⟩
  ·rw[e];exact .inl rfl
  ·cases hs:bc b (.mk Φ ex' rd fn F) s with
   |f=>exact .inl rfl
   |k x s1=>
    rw[hs]at e;cases x with
    |nrm=>
     rcases BV (Φ:=Φ) (rd:=rd) (fn:=fn) (F:=F) h (.loop b) s1 with e2|⟨n2,e2⟩
     ·exact .inl e2
     ·exact .inr ⟨max n n2,fun m hm=>by
       have h1:=e m (aY (Nat.le_max_left _ _) hm);have h2:=e2 m (aY (Nat.le_max_right _ _) hm);simp only at h1 h2⊢;rw[h1];exact h2⟩
    |_=>exact .inr ⟨n,fun m hm=>congrArg (fg b (.mk Φ (ex m) rd fn F)) (e m hm)⟩
 |rf f ps a b _ _=>
  intro s;obtain⟨t,d,M,c⟩:=s;cases rd with
  |some l=>exact ai4 h f ps a b t d M c _
  |none=>
   show VR (fun m=>(M.set c (.defs false)).force fun M=>fN (Nat.succ c) fun c'=>me f ps a b (.mk Φ (ex m) none fn F) t (c::d) M c' c) ((M.set c (.defs false)).force fun M=>fN (Nat.succ c) fun c'=>me f ps a b (.mk Φ ex' none fn F) t (c::d) M c' c);simp only[Tr.force_eq,bp];exact MU h f ps a b t (c::d) _ _ c
 |exit id=>exact fun s=> .inr ⟨0,fun m hm=>rfl⟩
 |scope b tbl ihb _=>
  intro s;show VR (fun m=>fK tbl (.mk Φ (ex m) rd fn F) (bc b (.mk Φ (ex m) rd fn F) s)) (fK tbl (.mk Φ ex' rd fn F) (bc b (.mk Φ ex' rd fn F) s));rcases ihb s with e|⟨n,e⟩
  ·rw[e];exact .inl rfl
  ·cases hs:bc b (.mk Φ ex' rd fn F) s with
   |f=>exact .inl rfl
   |k x s1=>
    rw[hs]at e;cases x with
    |gto l=>
     have hj:VR (fun m=>mf tbl (.mk Φ (ex m) rd fn F) s1 (fU l tbl)) (mf tbl (.mk Φ ex' rd fn F) s1 (fU l tbl)):=by
      cases fU l tbl with
      |none=>exact .inl rfl
      |some c=>exact BV (Φ:=Φ) h _ s1
     rcases hj with e2|⟨n2,e2⟩
     ·exact .inl e2
     ·exact .inr ⟨max n n2,fun m hm=>by
       have h1:=e m (aY (Nat.le_max_left _ _) hm);have h2:=e2 m (aY (Nat.le_max_right _ _) hm);simp only at h1 h2⊢;rw[h1];exact h2⟩
    |_=>exact .inr ⟨n,fun m hm=>congrArg (fK tbl (.mk Φ (ex m) rd fn F)) (e m hm)⟩
 |tab l c r _ _=>exact fun s=> .inr ⟨0,fun m hm=>rfl⟩
 |goto l=>exact fun s=> .inr ⟨0,fun m hm=>rfl⟩
 |ret=>exact fun s=> .inr ⟨0,fun m hm=>rfl⟩
 |bad=>exact fun s=> .inr ⟨0,fun m hm=>rfl⟩
end
open Classical in
def iL(Φ:Nat→Option CF):se:=fun rd fn F c s=>if h:∃n,exec Φ n rd fn F c s≠ .f then exec Φ (Classical.choose h) rd fn F c s else .f
theorem uI{Φ:Nat→Option CF}{n:Nat}{rd:Option Nat}{fn:Nat}{F:RO}{c:CC}{s:St}(h:exec Φ n rd fn F c s≠ .f):iL Φ rd fn F c s=exec Φ n rd fn F c s:=by
 have hx:∃n,exec Φ n rd fn F c s≠ .f:=⟨n,h⟩
 unfold iL
 rw[dif_pos hx]
 have hc:=Classical.choose_spec hx
 rcases nY Φ (n:=n) (Classical.choose hx) rd fn F c s with e1|e1
 ·exact absurd e1 h
 ·rcases nY Φ (n:=Classical.choose hx) n rd fn F c s with e2|e2
  ·exact absurd e2 hc
  ·rw[e1,e2,Nat.add_comm]
theorem tc(Φ:Nat→Option CF)(rd:Option Nat)(fn:Nat)(F:RO)(c:CC)(s:St):iL Φ rd fn F c s= .f∨ ∃n,iL Φ rd fn F c s=exec Φ n rd fn F c s:=by
 by_cases hx:∃n,exec Φ n rd fn F c s≠ .f
 ·exact .inr ⟨_,by unfold iL;rw[dif_pos hx]⟩
 ·exact .inl (by unfold iL;rw[dif_neg hx])
theorem LE(Φ:Nat→Option CF)(n:Nat):i6 (exec Φ n) (iL Φ):=by
 intro rd fn F c s
 by_cases h:exec Φ n rd fn F c s= .f
 ·exact .inl h
 ·exact .inr (uI h).symm
theorem ab8(Φ:Nat→Option CF)(rd:Option Nat)(fn:Nat)(F:RO)(c:CC)(s:St):LR (iL Φ rd fn F c s) (bc c (.mk Φ (iL Φ) rd fn F) s):=by
 by_cases hx:∃n,exec Φ n rd fn F c s≠ .f
 ·obtain⟨n,hn⟩:=hx;rw[uI hn];cases n with
  |zero=>exact .inl rfl
  |succ n=>exact wM (LE Φ n) c s
 ·exact .inl (by unfold iL;rw[dif_neg hx])
theorem aQ5(Φ:Nat→Option CF):sM (exec Φ) (iL Φ):=by
 intro rd fn F c s
 rcases tc Φ rd fn F c s with h|⟨n,h⟩
 ·exact .inl h
 ·by_cases hf:iL Φ rd fn F c s= .f
  ·exact .inl hf
  ·refine .inr ⟨n,fun m hm=>?_⟩;have:exec Φ m rd fn F c s≠ .f:=by
    obtain⟨k,rfl⟩:∃k,m=n+k:=⟨m-n,by omega⟩
    rcases nY Φ (n:=n) k rd fn F c s with e|e
    ·exact absurd (h.trans e) hf
    ·rw[←e,←h];exact hf
   exact(uI this).symm
theorem uH(Φ:Nat→Option CF)(rd:Option Nat)(fn:Nat)(F:RO)(c:CC)(s:St):iL Φ rd fn F c s=bc c (.mk Φ (iL Φ) rd fn F) s:=by
 rcases ab8 Φ rd fn F c s with h|h
 ·rcases Qs (Φ:=Φ) (rd:=rd) (fn:=fn) (F:=F) (aQ5 Φ) c s with h2|⟨n,h2⟩
  ·rw[h,h2]
  ·have h3:exec Φ (n+1) rd fn F c s=bc c (.mk Φ (iL Φ) rd fn F) s:=h2 n (ah _);by_cases hf:bc c (.mk Φ (iL Φ) rd fn F) s= .f
   ·rw[h,hf]
   ·rw[←h3];exact uI (by rw[h3];exact hf)
 ·exact h
theorem Li{P:Program}(hm:P.follows .mixedOrders=true){Φ:Nat→Option CF}(hΦ:en P Φ):wd P (iL Φ):=by
 intro rd fn F cc t d M ct e t' d' M' ct' h
 rcases tc Φ rd fn F cc (.mk t d M ct)with h1|⟨n,h1⟩
 ·rw[h1]at h;cases h
 ·rw[h1]at h;exact qT hm hΦ n rd fn F cc t d M ct e t' d' M' ct' h
structure nM(F0:RO)(M0:Mem)(F:RO)(M:Mem):Prop where
 m:∀b blk,M0.get b=some blk→M.get b=some blk
 f:∀b blk,bq F0 b=some blk→look F M b=some blk
 ap:∀b,(bq F0 b).isSome→M0.get b=none
theorem nM.look{F0:RO}{M0:Mem}{F:RO}{M:Mem}(h:nM F0 M0 F M){b:Nat}{blk:bw}(hb:look F0 M0 b=some blk):look F M b=some blk:=by
 cases hm:M0.get b with
 |some x=>
  rw[au hm]at hb;obtain rfl:=ae hb;exact au (h.m b _ hm)
 |none=>
  rw[aT hm]at hb;exact h.f b blk hb
theorem nM.rel{P:Program}{E:cG}{F0 F:RO}{M0 M:Mem}{c:Nat→Prop}{w:World}(h:nM F0 M0 F M)(hr:jx P E F M c w):jx P E F0 M0 c w where
 has:=fun b blk hb=>hr.has b blk (h.look hb)
 inj:=by
  intro b b' h1 h2 e;obtain⟨x,hx⟩:=bz.1 h1;obtain⟨y,hy⟩:=bz.1 h2;exact hr.inj b b' (by rw[h.look hx];rfl) (by rw[h.look hy];rfl) e
 apart:=h.ap
theorem jx.lt{P:Program}{E:cG}{F:RO}{M:Mem}{c:Nat→Prop}{w:World}(h:jx P E F M c w){b:Nat}(hb:(look F M b).isSome):E.ρ b<w.heap.size:=by
 obtain⟨x,hx⟩:=bz.1 hb
 obtain⟨_,_,o',ho',_⟩:=h.has b x hx
 exact(Array.getElem?_eq_some_iff.1 ho').1
theorem jH.framed{P:Program}{E E':cG}{F0 F:RO}{M0 M M1 N:Mem}{c c':Nat→Prop}{w w':World}(hsub:nM F0 M0 F M)(hr:jx P E F M c w)(hS:jH P F0 E M0 c w E' M1 c' w')
 (hN:∀b blk,N.get b=some blk→M1.get b=some blk∨(M.get b=some blk∧M0.get b=none)):jH P F E M c w E' N c' w':=by
 have old:∀b blk,look F M b=some blk→M0.get b=none→c b∧ep c blk∧E'.ρ b=E.ρ b∧ ∃o,w'.heap[E'.ρ b]?=some o∧dP P E' b blk o:=by
  intro b blk hb h0;obtain⟨hcb,hbd,o,ho,hB⟩:=hr.has b blk hb;have e:=hS.ext.ρ b hcb;refine⟨hcb,hbd,e,o,?_,hB.ext hS.ext hcb hbd⟩;rw[e,hS.frame _ (Array.getElem?_eq_some_iff.1 ho).1,ho];intro b0 hb0 e0;obtain⟨x0,hx0⟩:=bz.1 hb0;have:b0=b:=hr.inj b0 b (by rw[au (hsub.m b0 x0 hx0)];rfl) (by rw[hb];rfl) e0;subst this;rw[h0]at hx0;cases hx0
 have new_old:∀b b' blk',(M1.get b).isSome→look F M b'=some blk'→M0.get b'=none→E'.ρ b≠E.ρ b':=by
  intro b b' blk' h1 h2 h0 e;rcases hS.own b h1 with⟨b0,hb0,e0⟩|hge
  ·obtain⟨x0,hx0⟩:=bz.1 hb0;have:b0=b':=hr.inj b0 b' (by rw[au (hsub.m b0 x0 hx0)];rfl) (by rw[h2];rfl) (e0.trans e);subst this;rw[h0]at hx0;cases hx0
  ·have:=hr.lt (b:=b') (by rw[h2];rfl);omega
 have fM0:∀b,(bq F b).isSome→M0.get b=none:=by
  intro b hb;cases h:M0.get b with
  |none=>rfl
  |some x=>have:=hr.apart b hb;rw[hsub.m b x h]at this;cases this
 have fM:∀b blk,bq F b=some blk→look F M b=some blk:=fun b blk hb=>by rw[aT (hr.apart b (by rw[hb];rfl))];exact hb
 have nocommon:∀b blk',look F M b=some blk'→M0.get b=none→M1.get b=none:=by
  intro b blk' h2 h0;cases h1:M1.get b with
  |none=>rfl
  |some x=>
   exfalso;have:=new_old b b blk' (by rw[h1];rfl) h2 h0;exact this (old b blk' h2 h0).2.2.1
 have lookN:∀b blk,look F N b=some blk→M1.get b=some blk∨(look F M b=some blk∧M0.get b=none):=by
  intro b blk hb;cases h:N.get b with
  |some x=>
   rw[au h]at hb;obtain rfl:=ae hb;rcases hN b _ h with h1|⟨h1,h2⟩
   ·exact .inl h1
   ·exact .inr ⟨au h1,h2⟩
  |none=>
   rw[aT h]at hb;exact .inr ⟨fM b blk hb,fM0 b (by rw[hb];rfl)⟩
 refine⟨hS.ext,hS.le,⟨?_,?_,?_⟩,?_,?_,hS.size,hS.os,hS.output,hS.tape⟩
 ·intro b blk hb;rcases lookN b blk hb with h1|⟨h1,h2⟩
  ·exact hS.rel.has b blk (au h1)
  ·obtain⟨a1,a2,_,a3⟩:=old b blk h1 h2;exact⟨hS.le b a1,fq hS.le _ a2,a3⟩
 ·intro b b' h1 h2 e;obtain⟨x,hx⟩:=bz.1 h1;obtain⟨y,hy⟩:=bz.1 h2;rcases lookN b x hx with g1|⟨g1,g0⟩
  ·rcases lookN b' y hy with k1|⟨k1,k0⟩
   ·exact hS.rel.inj b b' (lF (by rw[g1];rfl)) (lF (by rw[k1];rfl)) e
   ·exfalso;exact new_old b b' y (by rw[g1];rfl) k1 k0 (e.trans (old b' y k1 k0).2.2.1)
  ·rcases lookN b' y hy with k1|⟨k1,k0⟩
   ·exfalso;exact new_old b' b x (by rw[k1];rfl) g1 g0 (e.symm.trans (old b x g1 g0).2.2.1)
   ·refine hr.inj b b' (by rw[g1];rfl) (by rw[k1];rfl) ?_;rw[←(old b x g1 g0).2.2.1,←(old b' y k1 k0).2.2.1];exact e
 ·intro b hb;obtain⟨x,hx⟩:=bz.1 hb;cases h:N.get b with
  |none=>rfl
  |some y=>
   exfalso;have:=nocommon b x (fM b x hx) (fM0 b hb);rcases hN b y h with h1|⟨h1,h2⟩
   ·rw[this]at h1;cases h1
   ·have:=hr.apart b hb;rw[h1]at this;cases this
 ·intro b hb;obtain⟨x,hx⟩:=bz.1 hb;rcases hN b x hx with h1|⟨h1,h2⟩
  ·rcases hS.own b (by rw[h1];rfl)with⟨b0,hb0,e0⟩|hge
   ·obtain⟨x0,hx0⟩:=bz.1 hb0;exact .inl ⟨b0,by rw[hsub.m b0 x0 hx0];rfl,e0⟩
   ·exact .inr hge
  ·exact .inl ⟨b,by rw[h1];rfl,((old b x (au h1) h2).2.2.1).symm⟩
 ·intro r hr' hn;refine hS.frame r hr' fun b hb=>?_;obtain⟨x,hx⟩:=bz.1 hb;exact hn b (by rw[hsub.m b x hx];rfl)
structure Wf(F:RO)(M:Mem)(ct:Nat)(args:List V):Prop where
 ge:1000≤ct
 args:eU (· <ct) args
 lt:∀b blk,look F M b=some blk→b<ct
 bd:∀b blk,look F M b=some blk→ep (· <ct) blk
 ap:∀b,(bq F b).isSome→M.get b=none
theorem b91{P:Program}{E:cG}{F:RO}{M:Mem}{c:Nat→Prop}{w:World}{ct:Nat}{args:List V}(hr:jx P E F M c w)(hbig:∀g,g<1000→c g)(hf:eQ c ct)(ha:eU c args):Wf F M ct args:=by
 have hlt:∀b,c b→b<ct:=fun b hb=>by
  by_cases h:b<ct
  ·exact h
  ·exact absurd hb (hf b (by omega))
 refine⟨?_,iI hlt args ha,fun b blk hb=>hlt b (hr.has b blk hb).1,fun b blk hb=>fq hlt blk (hr.has b blk hb).2.1,hr.apart⟩
 by_cases h:1000≤ct
 ·exact h
 ·exact absurd (hbig ct (by omega)) (hf ct (ah _))
mutual
theorem lQ{p q:Nat→Prop}:∀v,bd p v→bd q v→bd (fun b=>p b∧q b) v
 | .b _,_,_| .i _ _,_,_| .s _ _,_,_| .p0,_,_| .l0,_,_| .m0,_,_| .f0,_,_| .a0,_,_=>trivial
 | .p _ _,h,g=>⟨h,g⟩
 | .l _ _ _ _,h,g=>⟨h,g⟩
 | .u _ _ _ _ _,h,g=>⟨h,g⟩
 | .ue _ _ _,h,g=>⟨h,g⟩
 | .m _,h,g=>⟨h,g⟩
 | .y _,h,g=>⟨h,g⟩
 | .f _ a e,h,g=>⟨mI a h.1 g.1,mI e h.2 g.2⟩
 | .a _ v,h,g=>lQ v h g
 | .g cs,h,g=>mI cs h g
 | .t cs,h,g=>mI cs h g
theorem mI{p q:Nat→Prop}:∀l,eU p l→eU q l→eU (fun b=>p b∧q b) l
 |[],_,_=>trivial
 |v::l,h,g=>⟨lQ v h.1 g.1,mI l h.2 g.2⟩
end
theorem E6{p q:Nat→Prop}(blk:bw)(h:ep p blk)(g:ep q blk):ep (fun b=>p b∧q b) blk:=by
 cases blk with
 |cells ty n ex fz str d t=>exact fun k v hk=>lQ v (h k v hk) (g k v hk)
 |map es c=>exact fun e he=>⟨lQ _ (h e he).1 (g e he).1,lQ _ (h e he).2 (g e he).2⟩
 |loop s pe fn tm ps a b d=>exact⟨fun p=>lQ _ (h.1 p) (g.1 p),h.2,g.2⟩
 |defs _=>trivial
 |siter _ _ _=>trivial
 |miter m _ _ _=>exact fun b hb=>⟨h b hb,g b hb⟩
theorem ag3{P:Program}(hm:P.follows .mixedOrders=true){Φ:Nat→Option CF}(hΦ:en P Φ){f:Nat}{g:RO→List V→Mem→Nat→RC}
 (h:∀F args M ct v N ct',g F args M ct= .k v N ct'→Wf F M ct args→ ∃F0 M0 M1 ct1,nM F0 M0 F M∧da (iL Φ) F0 f args M0 ct (Φ f)= .k v M1 ct1∧ct≤ct'∧bd (· <ct') v∧
  ∀b blk,N.get b=some blk→(M1.get b=some blk∧b<ct'∧ep (· <ct') blk)∨(M.get b=some blk∧M0.get b=none)):dK P f g:=by
 intro F args M ct v N ct' hg E c w hr hglob hbig hf ha
 obtain⟨F0,M0,M1,ct1,hsub,hc,hle,hbv,hN⟩:=h F args M ct v N ct' hg (b91 hr hbig hf ha)
 obtain⟨fn,h1,h2,h3,hC⟩:=gu (rd:=none) (fn:=0) (F₀:=[]) hΦ (Li hm hΦ) F0 f args M0 ct v M1 ct1 hc E c w (hsub.rel hr) hglob hbig hf ha
 refine⟨fn,h1,h2,h3,hC.mono ?_⟩
 rintro e w' ⟨E',c',rfl,hS,hb,hG⟩
 have hS':=hS.framed hsub hr (N:=N) fun b blk hb=>(hN b blk hb).imp (fun h=>h.1) id
 have hlt:∀b,c b→b<ct:=fun b hb=>by
  by_cases h:b<ct
  ·exact h
  ·exact absurd hb (hf b (by omega))
 have up:∀b,c b→c' b∧b<ct':=fun b hb=>⟨hS.le b hb,Nat.lt_of_lt_of_le (hlt b hb) hle⟩
 refine⟨E',fun b=>c' b∧b<ct',rfl,⟨hS'.ext,up,⟨?_,hS'.rel.inj,hS'.rel.apart⟩,hS'.own,hS'.frame,hS'.size,hS'.os,hS'.output,hS'.tape⟩,lQ v hb hbv,⟨hle,fun b hb=>?_⟩⟩
 ·intro b blk hb;obtain⟨g1,g2,g3⟩:=hS'.rel.has b blk hb
  have old:look F M b=some blk→(c' b∧b<ct')∧ep (fun b=>c' b∧b<ct') blk:=fun ho=>by
   obtain⟨k1,k2,_⟩:=hr.has b blk ho;exact⟨up b k1,fq up blk k2⟩
  have:(c' b∧b<ct')∧ep (fun b=>c' b∧b<ct') blk:=by
   cases hn:N.get b with
   |some x=>
    rw[au hn]at hb;obtain rfl:=ae hb;rcases hN b _ hn with⟨k1,k2,k3⟩|⟨k1,_⟩
    ·exact⟨⟨g1,k2⟩,E6 _ g2 k3⟩
    ·exact old (au k1)
   |none=>
    rw[aT hn]at hb;exact old (by rw[aT (hr.apart b (by rw[hb];rfl))];exact hb)
  exact⟨this.1,this.2,g3⟩
 ·rcases hG.new b hb.1 with h|h
  ·exact .inl h
  ·exact .inr ⟨h.1,hb.2⟩
def bh(h:List V→Option V)(_:RO)(args:List V)(M:Mem)(c:Nat):RC:=match h args with
 |some v=> .k v M c
 |none=> .f
theorem gj{P:Program}(hm:P.follows .mixedOrders=true){Φ:Nat→Option CF}(hΦ:en P Φ){f:Nat}{h:List V→Option V}
 (hh:∀args v ct,h args=some v→1000≤ct→bd (fun _=>False) v∧ ∃M1 ct1,da (iL Φ) [] f args .e ct (Φ f)= .k v M1 ct1):dK P f (bh h):=by
 refine ag3 hm hΦ ?_
 intro F args M ct v N ct' hg hW
 unfold bh at hg
 split at hg
 ·rename_i x hx;injection hg with e1 e2 e3
  subst e1 e2 e3;obtain⟨h1,M1,ct1,h2⟩:=hh args x ct hx hW.ge;exact⟨[],.e,M1,ct1,⟨fun b blk hb=>(by cases hb),fun b blk hb=>(by cases hb),fun b hb=>(by cases hb)⟩,h2,ah _,dD (fun b hb=>hb.elim) x h1,fun b blk hb=> .inr ⟨hb,rfl⟩⟩
 ·cases hg
def G3(Φ:Nat→Option CF)(f:Nat)(cf:CF):Nat→Option CF:=fun k=>if k=f then some cf else Φ k
theorem iD{P:Program}{Φ:Nat→Option CF}(hΦ:en P Φ){f:Nat}{g:RO→List V→Mem→Nat→RC}(hg:dK P f g):en P (G3 Φ f (.orc g)):=by
 intro k cf hk
 unfold G3 at hk
 split at hk
 ·rename_i e;subst e;obtain rfl:=ae hk;exact hg
 ·exact hΦ k cf hk
section
variable{Φ:Nat→Option CF}{rd:Option Nat}{fn:Nat}{F:RO}
abbrev K(Φ:Nat→Option CF)(rd:Option Nat)(fn:Nat)(F:RO):Kn:= .mk Φ (iL Φ) rd fn F
def Wp(c:CC)(k:Kn)(s:St)(Q:Ex→St→Prop):Prop:=∃e s',bc c k s= .k e s'∧Q e s'
def mF(ops:List CO)(k:Kn)(s:St)(R:St→Prop):Prop:=∃s',cO ops k s=some s'∧R s'
def pI(b:CC)(k:Kn)(Q:Ex→St→Prop):Ex→St→Prop
 | .nrm,s=>Wp b k s Q
 |e,s=>Q e s
def lR(id:Nat)(Q:Ex→St→Prop):Ex→St→Prop
 | .ext id',s=>if id'=id then Q .nrm s else Q (.ext id') s
 |e,s=>Q e s
def Cj(b:CC)(k:Kn)(Q:Ex→St→Prop):Ex→St→Prop
 | .nrm,s=>Wp (.loop b) k s Q
 |e,s=>Q e s
theorem Df(k:Kn)(s:St)(Q:Ex→St→Prop):Wp .skip k s Q=Q .nrm s:=by
 apply propext;constructor
 ·rintro⟨e,s',h,q⟩;cases h;exact q
 ·exact fun q=>⟨_,_,rfl,q⟩
theorem ax4(k:Kn)(s:St)(Q:Ex→St→Prop):Wp .ret k s Q=Q .ret s:=by
 apply propext;constructor
 ·rintro⟨e,s',h,q⟩;cases h;exact q
 ·exact fun q=>⟨_,_,rfl,q⟩
theorem RU(id:Nat)(k:Kn)(s:St)(Q:Ex→St→Prop):Wp (.exit id) k s Q=Q (.ext id) s:=by
 apply propext;constructor
 ·rintro⟨e,s',h,q⟩;cases h;exact q
 ·exact fun q=>⟨_,_,rfl,q⟩
theorem ax3(ops:List CO)(k:Kn)(s:St)(Q:Ex→St→Prop):Wp (.reg ops) k s Q=mF ops k s (Q .nrm):=by
 apply propext;constructor
 ·rintro⟨e,s',h,q⟩;have h':nk (cO ops k s)= .k e s':=h;cases hs:cO ops k s with
  |none=>rw[hs]at h';cases h'
  |some s1=>
   rw[hs]at h';have:Rs.k .nrm s1= .k e s':=h';injection this with e1 e2
   subst e1 e2;exact⟨_,hs,q⟩
 ·rintro⟨s',h,q⟩;exact⟨_,_,show nk (cO ops k s)=_ by rw[h];rfl,q⟩
theorem Bt(a b:CC)(k:Kn)(s:St)(Q:Ex→St→Prop):Wp (.seq a b) k s Q=Wp a k s (pI b k Q):=by
 apply propext;constructor
 ·rintro⟨e,s',h,q⟩;have h':iU (bc b) k (bc a k s)= .k e s':=h;cases hs:bc a k s with
  |f=>rw[hs]at h';cases h'
  |k e1 s1=>
   rw[hs]at h';refine⟨e1,s1,hs,?_⟩;cases e1 with
   |nrm=>exact⟨e,s',h',q⟩
   |ret=>have h2:Rs.k .ret s1= .k e s':=h';injection h2 with a1 a2;subst a1 a2;exact q
   |ext id=>have h2:Rs.k (.ext id) s1= .k e s':=h';injection h2 with a1 a2;subst a1 a2;exact q
   |gto id=>have h2:Rs.k (.gto id) s1= .k e s':=h';injection h2 with a1 a2;subst a1 a2;exact q
 ·rintro⟨e1,s1,h1,q⟩;cases e1 with
  |nrm=>
   obtain⟨e,s',h2,q⟩:=q;exact⟨e,s',show iU (bc b) k (bc a k s)=_ by rw[h1];exact h2,q⟩
  |ret=>exact⟨_,_,show iU (bc b) k (bc a k s)=_ by rw[h1];rfl,q⟩
  |ext id=>exact⟨_,_,show iU (bc b) k (bc a k s)=_ by rw[h1];rfl,q⟩
  |gto id=>exact⟨_,_,show iU (bc b) k (bc a k s)=_ by rw[h1];rfl,q⟩
theorem xR(b:CC)(k:Kn)(Q:Ex→St→Prop)(s:St):pI b k Q .nrm s=Wp b k s Q:=rfl
theorem Nc(b:CC)(k:Kn)(Q:Ex→St→Prop)(s:St):pI b k Q .ret s=Q .ret s:=rfl
theorem Nb(b:CC)(k:Kn)(Q:Ex→St→Prop)(s:St)(id:Nat):pI b k Q (.ext id) s=Q (.ext id) s:=rfl
theorem Ol(id:Nat)(b:CC)(k:Kn)(s:St)(Q:Ex→St→Prop):Wp (.block id b) k s Q=Wp b k s (lR id Q):=by
 apply propext;constructor
 ·rintro⟨e,s',h,q⟩;have h':dZ id (bc b k s)= .k e s':=h;cases hs:bc b k s with
  |f=>rw[hs]at h';cases h'
  |k e1 s1=>
   rw[hs]at h';refine⟨e1,s1,hs,?_⟩;cases e1 with
   |nrm=>have h2:Rs.k .nrm s1= .k e s':=h';injection h2 with a1 a2;subst a1 a2;exact q
   |ret=>have h2:Rs.k .ret s1= .k e s':=h';injection h2 with a1 a2;subst a1 a2;exact q
   |gto l=>have h2:Rs.k (.gto l) s1= .k e s':=h';injection h2 with a1 a2;subst a1 a2;exact q
   |ext i=>
    have h2:Bool.rec (motive:=fun _=>Rs) (.k (.ext i) s1) (.k .nrm s1) (Nat.beq i id)= .k e s':=h';rw[bb,bI]at h2;show(if i=id then Q .nrm s1 else Q (.ext i) s1);by_cases hi:i=id
    ·rw[ac (by simpa using hi)]at h2;injection h2 with a1 a2;subst a1 a2
     rw[ac hi];exact q
    ·rw[ab (by simpa using hi)]at h2;injection h2 with a1 a2;subst a1 a2
     rw[ab hi];exact q
 ·rintro⟨e1,s1,h1,q⟩;cases e1 with
  |nrm=>exact⟨_,_,show dZ id (bc b k s)=_ by rw[h1];rfl,q⟩
  |ret=>exact⟨_,_,show dZ id (bc b k s)=_ by rw[h1];rfl,q⟩
  |gto l=>exact⟨_,_,show dZ id (bc b k s)=_ by rw[h1];rfl,q⟩
  |ext i=>
   have h2:dZ id (bc b k s)=Bool.rec (motive:=fun _=>Rs) (.k (.ext i) s1) (.k .nrm s1) (Nat.beq i id):=by rw[h1];rfl
   rw[bb,bI]at h2;replace q:(if i=id then Q .nrm s1 else Q (.ext i) s1):=q;by_cases hi:i=id
   ·rw[ac (by simpa using hi)]at h2;rw[ac hi]at q;exact⟨_,_,h2,q⟩
   ·rw[ab (by simpa using hi)]at h2;rw[ab hi]at q;exact⟨_,_,h2,q⟩
theorem zF(id:Nat)(Q:Ex→St→Prop)(s:St):lR id Q .nrm s=Q .nrm s:=rfl
theorem zG(id:Nat)(Q:Ex→St→Prop)(s:St):lR id Q .ret s=Q .ret s:=rfl
theorem zD(id i:Nat)(Q:Ex→St→Prop)(s:St):lR id Q (.ext i) s=if i=id then Q .nrm s else Q (.ext i) s:=rfl
theorem iv(b:CC)(s:St)(Q:Ex→St→Prop):Wp (.loop b) (K Φ rd fn F) s Q=Wp b (K Φ rd fn F) s (Cj b (K Φ rd fn F) Q):=by
 apply propext;constructor
 ·rintro⟨e,s',h,q⟩;have h':fg b (K Φ rd fn F) (bc b (K Φ rd fn F) s)= .k e s':=h;cases hs:bc b (K Φ rd fn F) s with
  |f=>rw[hs]at h';cases h'
  |k e1 s1=>
   rw[hs]at h';refine⟨e1,s1,hs,?_⟩;cases e1 with
   |nrm=>
    have h2:iL Φ rd fn F (.loop b) s1= .k e s':=h';rw[uH]at h2;exact⟨e,s',h2,q⟩
   |ret=>have h2:Rs.k .ret s1= .k e s':=h';injection h2 with a1 a2;subst a1 a2;exact q
   |ext id=>have h2:Rs.k (.ext id) s1= .k e s':=h';injection h2 with a1 a2;subst a1 a2;exact q
   |gto id=>have h2:Rs.k (.gto id) s1= .k e s':=h';injection h2 with a1 a2;subst a1 a2;exact q
 ·rintro⟨e1,s1,h1,q⟩;cases e1 with
  |nrm=>
   obtain⟨e,s',h2,q⟩:=q;refine⟨e,s',show fg b (K Φ rd fn F) (bc b (K Φ rd fn F) s)=_ from ?_,q⟩;rw[h1];show iL Φ rd fn F (.loop b) s1=_;rw[uH];exact h2
  |ret=>exact⟨_,_,show fg b (K Φ rd fn F) (bc b (K Φ rd fn F) s)=_ by rw[h1];rfl,q⟩
  |ext id=>exact⟨_,_,show fg b (K Φ rd fn F) (bc b (K Φ rd fn F) s)=_ by rw[h1];rfl,q⟩
  |gto id=>exact⟨_,_,show fg b (K Φ rd fn F) (bc b (K Φ rd fn F) s)=_ by rw[h1];rfl,q⟩
theorem ER(b:CC)(k:Kn)(Q:Ex→St→Prop)(s:St):Cj b k Q .nrm s=Wp (.loop b) k s Q:=rfl
theorem ES(b:CC)(k:Kn)(Q:Ex→St→Prop)(s:St):Cj b k Q .ret s=Q .ret s:=rfl
theorem EQ(b:CC)(k:Kn)(Q:Ex→St→Prop)(s:St)(id:Nat):Cj b k Q (.ext id) s=Q (.ext id) s:=rfl
theorem Wp.mono{c:CC}{k:Kn}{s:St}{Q Q':Ex→St→Prop}(h:Wp c k s Q)(hq:∀e s',Q e s'→Q' e s'):Wp c k s Q':=by
 obtain⟨e,s',h1,q⟩:=h
 exact⟨e,s',h1,hq e s' q⟩
theorem FF{b:CC}{Q:Ex→St→Prop}(I:Nat→St→Prop)(h:∀n s,I n s→Wp b (K Φ rd fn F) s fun e s'=>match e with| .nrm=>∃m,m<n∧I m s'|e=>Q e s'):∀n s,I n s→Wp (.loop b) (K Φ rd fn F) s Q:=by
 intro n
 induction n using Nat.strongRecOn with
 |_ n ih=>
  intro s hs;rw[iv];refine(h n s hs).mono fun e s' he=>?_;cases e with
  |nrm=>obtain⟨m,hm,hI⟩:=he;exact ih m hm s' hI
  |_=>exact he
theorem yk{x:X}{a b:CC}{k:Kn}{t:T}{d:List Nat}{M:Mem}{c:Nat}{Q:Ex→St→Prop}(hx:x.ev t= .b true):Wp (.cond x a b) k (.mk t d M c) Q=Wp a k (.mk t d M c) Q:=by
 have he:bc (.cond x a b) k (.mk t d M c)=bc a k (.mk t d M c):=by
  show gI x a b (bc a) (bc b) k (.mk t d M c)=_;unfold gI;show Cq (x.ev t) _ _=_;rw[hx];rfl
 unfold Wp;rw[he]
theorem yj{x:X}{a b:CC}{k:Kn}{t:T}{d:List Nat}{M:Mem}{c:Nat}{Q:Ex→St→Prop}(hx:x.ev t= .b false):Wp (.cond x a b) k (.mk t d M c) Q=Wp b k (.mk t d M c) Q:=by
 have he:bc (.cond x a b) k (.mk t d M c)=bc b k (.mk t d M c):=by
  show gI x a b (bc a) (bc b) k (.mk t d M c)=_;unfold gI;show Cq (x.ev t) _ _=_;rw[hx];rfl
 unfold Wp;rw[he]
theorem ax2(k:Kn)(s:St)(R:St→Prop):mF [] k s R=R s:=by
 apply propext;constructor
 ·rintro⟨s',h,q⟩;cases h;exact q
 ·exact fun q=>⟨_,rfl,q⟩
theorem fk(o:CO)(r:List CO)(k:Kn)(s:St)(R:St→Prop):mF (o::r) k s R↔ ∃s',dC o k s=some s'∧mF r k s' R:=by
 constructor
 ·rintro⟨s',h,q⟩;have h':jq (cO r) k (dC o k s)=some s':=h;cases hs:dC o k s with
  |none=>rw[hs]at h';cases h'
  |some s1=>rw[hs]at h';exact⟨s1,rfl,s',h',q⟩
 ·rintro⟨s1,h1,s',h2,q⟩;exact⟨s',show jq (cO r) k (dC o k s)=some s' by rw[h1];exact h2,q⟩
def QR.to{β:Type}(r:QR)(f:β)(g:V→β):β:=match r with
 | .f=>f
 | .v x=>g x
 | .r x _=>g x
theorem bs1{p:ay}{o:QO}{r:List CO}{k:Kn}{t:T}{d:List Nat}{M:Mem}{c:Nat}{R:St→Prop}{x:V}(h:(cE o k.F M t).val=some x):
 mF (.mk (some p) (.q o) none::r) k (.mk t d M c) R=mF r k (.mk (t.setP p x) d M c) R:=by
 have hs:dC (.mk (some p) (.q o) none) k (.mk t d M c)=some (.mk (t.setP p x) d M c):=by
  show Rv (some p) t d M c (cE o k.F M t)=_;cases hq:cE o k.F M t with
  |f=>rw[hq]at h;cases h
  |v y=>rw[hq]at h;obtain rfl:=ae h;exact ff _ _ _ _ _ _
  |r y b=>rw[hq]at h;obtain rfl:=ae h;exact ff _ _ _ _ _ _
 apply propext
 rw[fk,hs]
 constructor
 ·rintro⟨s',h,q⟩;obtain rfl:=ae h;exact q
 ·exact fun q=>⟨_,rfl,q⟩
theorem bs0{p:ay}{o:AO}{r:List CO}{k:Kn}{t:T}{d:List Nat}{M:Mem}{c:Nat}{R:St→Prop}{v:V}{blk:bw}(h:iE o c t=some (v,blk)):
 mF (.mk (some p) (.a o) none::r) k (.mk t d M c) R=mF r k (.mk (t.setP p v) d (M.set c blk) (c+1)) R:=by
 have hs:dC (.mk (some p) (.a o) none) k (.mk t d M c)=some (.mk (t.setP p v) d (M.set c blk) (c+1)):=by
  show Ru (some p) t d M c (iE o c t)=_;rw[h];show MZ (some p) t d M c v blk=_;unfold MZ;rw[Tr.force_eq,bp,ff];rfl
 apply propext
 rw[fk,hs]
 constructor
 ·rintro⟨s',h,q⟩;obtain rfl:=ae h;exact q
 ·exact fun q=>⟨_,rfl,q⟩
theorem b92{dst:Option ay}{o:EO}{r:List CO}{k:Kn}{t:T}{d:List Nat}{M M':Mem}{c c':Nat}{R:St→Prop}{v:V}(h:ew o k M c t= .k v M' c'):
 mF (.mk dst (.e o) none::r) k (.mk t d M c) R=mF r k (.mk (setT t dst v) d M' c') R:=by
 have hs:dC (.mk dst (.e o) none) k (.mk t d M c)=some (.mk (setT t dst v) d M' c'):=by
  show sI dst t d (ew o k M c t)=_;rw[h];exact ff _ _ _ _ _ _
 apply propext
 rw[fk,hs]
 constructor
 ·rintro⟨s',h,q⟩;obtain rfl:=ae h;exact q
 ·exact fun q=>⟨_,rfl,q⟩
theorem b94{dst:Option ay}{o:OK}{g:ay}{want:Bool}{r:List CO}{k:Kn}{t:T}{d:List Nat}{M:Mem}{c:Nat}{R:St→Prop}(hg:cd t g= .b want):
 mF (.mk dst o (some (g,want))::r) k (.mk t d M c) R=mF (.mk dst o none::r) k (.mk t d M c) R:=by
 have hw:wanted t (some (g,want))=true:=by
  show fL want (cd t g)=_;rw[hg];cases want<;>rfl
 have hs:dC (.mk dst o (some (g,want))) k (.mk t d M c)=dC (.mk dst o none) k (.mk t d M c):=by
  show Yg o k dst t d M c (wanted t (some (g,want)))=_;rw[hw];rfl
 apply propext
 rw[fk,fk,hs]
theorem b93{dst:Option ay}{o:OK}{g:ay}{want:Bool}{r:List CO}{k:Kn}{t:T}{d:List Nat}{M:Mem}{c:Nat}{R:St→Prop}(hg:cd t g= .b (!want)):
 mF (.mk dst o (some (g,want))::r) k (.mk t d M c) R=mF r k (.mk (setT t dst undef) d M c) R:=by
 have hw:wanted t (some (g,want))=false:=by
  show fL want (cd t g)=_;rw[hg];cases want<;>rfl
 have hs:dC (.mk dst o (some (g,want))) k (.mk t d M c)=some (.mk (setT t dst undef) d M c):=by
  show Yg o k dst t d M c (wanted t (some (g,want)))=_;rw[hw];exact ff _ _ _ _ _ _
 apply propext
 rw[fk,hs]
 constructor
 ·rintro⟨s',h,q⟩;obtain rfl:=ae h;exact q
 ·exact fun q=>⟨_,rfl,q⟩
theorem b95{dst:Option ay}{o:OK}{g:ay}{want:Bool}{r:List CO}{k:Kn}{t:T}{d:List Nat}{M:Mem}{c:Nat}{R:St→Prop}(hg:cd t g=undef):
 mF (.mk dst o (some (g,want))::r) k (.mk t d M c) R=mF r k (.mk (setT t dst undef) d M c) R:=by
 have hw:wanted t (some (g,want))=false:=by
  show fL want (cd t g)=_;rw[hg];rfl
 have hs:dC (.mk dst o (some (g,want))) k (.mk t d M c)=some (.mk (setT t dst undef) d M c):=by
  show Yg o k dst t d M c (wanted t (some (g,want)))=_;rw[hw];exact ff _ _ _ _ _ _
 apply propext
 rw[fk,hs]
 constructor
 ·rintro⟨s',h,q⟩;obtain rfl:=ae h;exact q
 ·exact fun q=>⟨_,rfl,q⟩
def Q(n:Nat):ay:=bo n
def Gi(o:Option (List V))(M:Mem)(c:Nat)(Post:V→Mem→Nat→Prop):Prop:=match o with
 |none=>False
 |some vs=>Post (pD vs) M c
def Zp(o:Option Mem)(F:RO)(t:T)(res:List RV)(c:Nat)(Post:V→Mem→Nat→Prop):Prop:=match o with
 |none=>False
 |some M=>Gi (dH F M t res) M c Post
def nW(F:RO)(res:List RV)(Post:V→Mem→Nat→Prop):Ex→St→Prop
 | .nrm,.mk t d M c=>Zp (dw d M) F t res c Post
 | .ret,.mk t d M c=>Zp (dw d M) F t res c Post
 |_,_=>False
theorem Lu(F:RO)(res:List RV)(Post:V→Mem→Nat→Prop)(t:T)(M:Mem)(c:Nat):nW F res Post .nrm (.mk t [] M c)=Gi (dH F M t res) M c Post:=rfl
theorem Lv(F:RO)(res:List RV)(Post:V→Mem→Nat→Prop)(t:T)(M:Mem)(c:Nat):nW F res Post .ret (.mk t [] M c)=Gi (dH F M t res) M c Post:=rfl
theorem bh7(vs:List V)(M:Mem)(c:Nat)(Post:V→Mem→Nat→Prop):Gi (some vs) M c Post=Post (pD vs) M c:=rfl
def t8(v:V):Option (List V)→Option (List V)
 |some l=>some (v::l)
 |none=>none
theorem zM(v:V)(l:List V):t8 v (some l)=some (v::l):=rfl
theorem Fi(F:RO)(M:Mem)(t:T):dH F M t []=some []:=rfl
theorem ai3(F:RO)(M:Mem)(t:T)(p:ay)(r:List RV):dH F M t (.t p::r)=t8 (cd t p) (dH F M t r):=by
 show pG (cd t p) (dH F M t r)=_
 cases dH F M t r<;>rfl
theorem Mv(v:V):pD [v]=v:=rfl
theorem Mw(v w:V)(l:List V):pD (v::w::l)= .t (v::w::l):=rfl
theorem sZ{f n:Nat}{res:List RV}{body:CC}{args:List V}{M:Mem}{c:Nat}{Post:V→Mem→Nat→Prop}(hf:Φ f=some (.mk n res body))
 (h:Wp body (K Φ none f F) (.mk (bA n args) [] M c) (nW F res Post)):∃v M' c',da (iL Φ) F f args M c (Φ f)= .k v M' c'∧Post v M' c':=by
 obtain⟨e,s,h1,hq⟩:=h
 obtain⟨t,d,M1,c1⟩:=s
 have hend:Ch e=true∧Zp (dw d M1) F t res c1 Post:=by
  cases e with
  |nrm=>exact⟨rfl,hq⟩
  |ret=>exact⟨rfl,hq⟩
  |ext id=>exact hq.elim
  |gto l=>exact hq.elim
 have hcall:da (iL Φ) F f args M c (some (.mk n res body))=Bool.rec (motive:=fun _=>RC) .f (uP res F t c1 (dw d M1)) (Ch e):=by
  show k8 res F (iL Φ none f F body (.mk (bA n args) [] M c))=_;rw[uH,h1];rfl
 rw[hf,hcall,hend.1]
 have h2:=hend.2
 cases hd:dw d M1 with
 |none=>rw[hd]at h2;exact h2.elim
 |some M2=>
  rw[hd]at h2;have h3:Gi (dH F M2 t res) M2 c1 Post:=h2;cases hr:dH F M2 t res with
  |none=>rw[hr]at h3;exact h3.elim
  |some vs=>
   rw[hr]at h3;exact⟨pD vs,M2,c1,show uQ c1 M2 (dH F M2 t res)=_ by rw[hr];rfl,h3⟩
end
section
variable{Φ:Nat→Option CF}{rd:Option Nat}{fn:Nat}{F:RO}
def aE6(o:Option V)(p:ay)(r:List CO)(k:Kn)(t:T)(d:List Nat)(M:Mem)(c:Nat)(R:St→Prop):Prop:=match o with
 |none=>False
 |some x=>mF r k (.mk (t.setP p x) d M c) R
def aE4(o:Option (V×bw))(p:ay)(r:List CO)(k:Kn)(t:T)(d:List Nat)(M:Mem)(c:Nat)(R:St→Prop):Prop:=match o with
 |none=>False
 |some x=>mF r k (.mk (t.setP p x.1) d (M.set c x.2) (c+1)) R
def Zu(o:RC)(p:ay)(r:List CO)(k:Kn)(t:T)(d:List Nat)(R:St→Prop):Prop:=match o with
 | .f=>False
 | .k v M c=>mF r k (.mk (t.setP p v) d M c) R
def So(o:RC)(r:List CO)(k:Kn)(t:T)(d:List Nat)(R:St→Prop):Prop:=match o with
 | .f=>False
 | .k v M c=>mF r k (.mk t d M c) R
theorem bp0(x:V)(p:ay)(r:List CO)(k:Kn)(t:T)(d:List Nat)(M:Mem)(c:Nat)(R:St→Prop):aE6 (some x) p r k t d M c R=mF r k (.mk (t.setP p x) d M c) R:=rfl
theorem bo8(v:V)(b:bw)(p:ay)(r:List CO)(k:Kn)(t:T)(d:List Nat)(M:Mem)(c:Nat)(R:St→Prop):aE4 (some (v,b)) p r k t d M c R=mF r k (.mk (t.setP p v) d (M.set c b) (c+1)) R:=rfl
theorem bo9(v:V)(M:Mem)(c:Nat)(p:ay)(r:List CO)(k:Kn)(t:T)(d:List Nat)(R:St→Prop):Zu (.k v M c) p r k t d R=mF r k (.mk (t.setP p v) d M c) R:=rfl
theorem aY7(v:V)(M:Mem)(c:Nat)(r:List CO)(k:Kn)(t:T)(d:List Nat)(R:St→Prop):So (.k v M c) r k t d R=mF r k (.mk t d M c) R:=rfl
theorem bs5(p:ay)(o:QO)(r:List CO)(t:T)(d:List Nat)(M:Mem)(c:Nat)(R:St→Prop):
 mF (.mk (some p) (.q o) none::r) (K Φ rd fn F) (.mk t d M c) R=aE6 (cE o F M t).val p r (K Φ rd fn F) t d M c R:=by
 cases h:(cE o F M t).val with
 |some x=>rw[bs1 (k:=K Φ rd fn F) h];rfl
 |none=>
  apply propext;rw[fk];constructor
  ·rintro⟨s',h1,_⟩;have h1':Rv (some p) t d M c (cE o F M t)=some s':=h1;cases hq:cE o F M t with
   |f=>rw[hq]at h1';cases h1'
   |v y=>rw[hq]at h;cases h
   |r y b=>rw[hq]at h;cases h
  ·exact False.elim
theorem bs3(p:ay)(o:AO)(r:List CO)(t:T)(d:List Nat)(M:Mem)(c:Nat)(R:St→Prop):
 mF (.mk (some p) (.a o) none::r) (K Φ rd fn F) (.mk t d M c) R=aE4 (iE o c t) p r (K Φ rd fn F) t d M c R:=by
 cases h:iE o c t with
 |some x=>rw[bs0 (k:=K Φ rd fn F) (v:=x.1) (blk:=x.2) h];rfl
 |none=>
  apply propext;rw[fk];constructor
  ·rintro⟨s',h1,_⟩;have h1':Ru (some p) t d M c (iE o c t)=some s':=h1;rw[h]at h1';cases h1'
  ·exact False.elim
theorem bs4(p:ay)(o:EO)(r:List CO)(t:T)(d:List Nat)(M:Mem)(c:Nat)(R:St→Prop):
 mF (.mk (some p) (.e o) none::r) (K Φ rd fn F) (.mk t d M c) R=Zu (ew o (K Φ rd fn F) M c t) p r (K Φ rd fn F) t d R:=by
 cases h:ew o (K Φ rd fn F) M c t with
 |k v M' c'=>rw[b92 h];rfl
 |f=>
  apply propext;rw[fk];constructor
  ·rintro⟨s',h1,_⟩;have h1':sI (some p) t d (ew o (K Φ rd fn F) M c t)=some s':=h1;rw[h]at h1';cases h1'
  ·exact False.elim
theorem ba5(o:EO)(r:List CO)(t:T)(d:List Nat)(M:Mem)(c:Nat)(R:St→Prop):
 mF (.mk none (.e o) none::r) (K Φ rd fn F) (.mk t d M c) R=So (ew o (K Φ rd fn F) M c t) r (K Φ rd fn F) t d R:=by
 cases h:ew o (K Φ rd fn F) M c t with
 |k v M' c'=>rw[b92 h];rfl
 |f=>
  apply propext;rw[fk];constructor
  ·rintro⟨s',h1,_⟩;have h1':sI none t d (ew o (K Φ rd fn F) M c t)=some s':=h1;rw[h]at h1';cases h1'
  ·exact False.elim
theorem S2(f:Nat)(as:List X)(M:Mem)(c:Nat)(t:T):ew (.call f as) (K Φ rd fn F) M c t=da (iL Φ) F f (evs as t) M c (Φ f):=rfl
theorem Ed(F:RO)(f:Nat)(args:List V)(M:Mem)(c:Nat)(g:RO→List V→Mem→Nat→RC):da (iL Φ) F f args M c (some (.orc g))=g F args M c:=rfl
theorem ad7(l r:T)(v:V):cd (Tr.n l (some v) r) .h=v:=Eq.trans (rfl:_=v) (Eq.refl v)
theorem ad9(l r:T):cd (Tr.n l none r) .h=undef:=Eq.trans (rfl:_=undef) (Eq.refl undef)
theorem ad8(l r:T)(v:Option V)(p:ay):cd (Tr.n l v r) (.l p)=cd l p:=Eq.trans (rfl:_=cd l p) (Eq.refl _)
theorem ae0(l r:T)(v:Option V)(p:ay):cd (Tr.n l v r) (.r p)=cd r p:=Eq.trans (rfl:_=cd r p) (Eq.refl _)
theorem ev_t(p:ay)(t:T):(X.t p).ev t=cd t p:=rfl
theorem ev_c(v:V)(t:T):(X.c v).ev t=v:=rfl
theorem Qr(t:T):evs [] t=[]:=rfl
theorem LB(x:X)(l:List X)(t:T):evs (x::l) t=x.ev t::evs l t:=rfl
theorem bq7(x:X)(M:Mem)(t:T):(cE (.mv x) F M t).val=some (x.ev t):=rfl
def pkV:V→V→V→Option V
 | .b x,a,b=>some (bif x then a else b)
 |_,_,_=>none
theorem b33(c a b:X)(M:Mem)(t:T):(cE (.pk c a b) F M t).val=pkV (c.ev t) (a.ev t) (b.ev t):=by
 show(Fd c a b F M t).val=_
 unfold Fd pkV
 cases c.ev t with
 |b x=>cases x<;>rfl
 |_=>rfl
theorem aX5(a b:V):pkV (.b true) a b=some a:=rfl
theorem aX4(a b:V):pkV (.b false) a b=some b:=rfl
def cZ(op:BinOp):V→V→Option V
 | .i k a,.i k' b=>(eL op k a k' b).val
 | .s n a,.s m b=>(KP op n a m b).val
 |_,_=>none
theorem b23(op:BinOp)(x y:X)(M:Mem)(t:T):(cE (.bi op x y) F M t).val=cZ op (x.ev t) (y.ev t):=by
 show(xu op x y F M t).val=_
 unfold xu cZ
 cases x.ev t with
 |i k a=>
  show(re (y.ev t) QR.f fun k' b=>eL op k a k' b).val=_;cases y.ev t<;>rfl
 |s n a=>
  show(tI (y.ev t) QR.f fun m b=>KP op n a m b).val=_;cases y.ev t<;>rfl
 |_=>cases y.ev t<;>rfl
theorem a02(k:IntKind)(a b:Int):cZ .add (.i k a) (.i k b)=some (.i k (k.wrap (a+b))):=by
 cases k<;>simp[cZ,eL,dO,nR,XU,fX,r6,fj,j0,BU,QR.val]
theorem zC(k:IntKind)(a b:Int):cZ .sub (.i k a) (.i k b)=some (.i k (k.wrap (a-b))):=by
 show _=some (V.i k (k.wrap (Int.sub a b)))
 cases k<;>simp[cZ,eL,dO,nR,Y2,fX,r6,fj,j0,QR.val]
theorem a07(k:IntKind)(a b:Int):cZ .lss (.i k a) (.i k b)=some (.b (decide (a<b))):=by
 cases k<;>simp[cZ,eL,dO,nR,XZ,fX,r6,kB,fH,QR.val]
theorem a05(k:IntKind)(a b:Int):cZ .gtr (.i k a) (.i k b)=some (.b (decide (b<a))):=by
 cases k<;>simp[cZ,eL,dO,nR,XX,fX,r6,kB,fH,QR.val]
theorem dle(a b:Int):decide (a≤b)= !decide (b<a):=by
 by_cases h:b<a
 ·rw[aj h,ak (by omega)];rfl
 ·rw[ak h,aj (by omega)];rfl
theorem a06(k:IntKind)(a b:Int):cZ .leq (.i k a) (.i k b)=some (.b (decide (a≤b))):=by
 cases k<;>simp[cZ,eL,dO,nR,XY,fX,r6,kB,fH,fJ,QR.val,dle,-decide_not,-Int.not_lt]
theorem a04(k:IntKind)(a b:Int):cZ .geq (.i k a) (.i k b)=some (.b (decide (b≤a))):=by
 cases k<;>simp[cZ,eL,dO,nR,XW,fX,r6,kB,fH,fJ,QR.val,dle,-decide_not,-Int.not_lt]
theorem a03(k:IntKind)(a b:Int):cZ .eql (.i k a) (.i k b)=some (.b (decide (a=b))):=by
 cases k<;>simp[cZ,eL,dO,nR,XV,fX,r6,kB,cS,QR.val]
theorem a09(k:IntKind)(a b:Int):cZ .neq (.i k a) (.i k b)=some (.b (decide (a≠b))):=by
 cases k<;>simp[cZ,eL,dO,nR,Y1,fX,r6,kB,cS,fJ,QR.val]
def unV(op:UnOp)(x:V):Option V:=(cE (.un op (.c x)) [] .e .e).val
theorem b34(op:UnOp)(x:X)(M:Mem)(t:T):(cE (.un op x) F M t).val=unV op (x.ev t):=by
 cases op<;>rfl
theorem ak0(x:Bool):unV .not (.b x)=some (.b (!x)):=by cases x<;>rfl
def lnV(sh:Sh)(F:RO)(M:Mem)(x:V):Option V:=(cE (.ln sh (.c x)) F M .e).val
theorem ak2(sh:Sh)(x:X)(M:Mem)(t:T):(cE (.ln sh x) F M t).val=lnV sh F M (x.ev t):=by
 cases sh<;>rfl
theorem lnS(n x:Nat)(M:Mem):lnV .str F M (.s n x)=some (.i .i64 (n:Int)):=rfl
def uW(x i:V):Option V:=(cE (.ixS (.c x) (.c i)) [] .e .e).val
theorem YB(x i:X)(M:Mem)(t:T):(cE (.ixS x i) F M t).val=uW (x.ev t) (i.ev t):=rfl
end
def rP(k:IntKind):List Int→List V
 |[]=>[]
 |z::r=> .i k z::rP k r
def oG(ty:Nat)(k:IntKind)(zs:List Int):bw:= .cells ty zs.length false zs.length true [] (bG (rP k zs) 0 .e)
abbrev BE:=Nat×IntKind×List Int
def ya:List BE→(Nat→Nat)→RO
 |[],_=>[]
 |(g,k,zs)::r,ty=>(g,oG (ty g) k zs)::ya r ty
def sO(W:World)(t:BE):Prop:=∃ty fr,W.heap[t.1]?=some (.cells (t.2.2.map fun z=>Value.int t.2.1 z).toArray ty fr)
theorem li(k:IntKind)(zs:List Int):rP k zs=zs.map (V.i k):=by
 induction zs with
 |nil=>rfl
 |cons z r ih=>rw[rP,ih];rfl
theorem aj5{c:Nat→Prop}{ty:Nat}{k:IntKind}{zs:List Int}:ep c (oG ty k zs):=by
 intro j v hv
 rw[cw]at hv
 split at hv
 ·rename_i hj;rw[cN]at hv;have hlen:(rP k zs).length=zs.length:=by rw[li];simp
  rw[ac (by omega)]at hv;rw[li]at hv;simp only[Nat.sub_zero,List.getElem?_map]at hv;rw[List.getElem?_eq_getElem hj]at hv;simp only[Option.map_some]at hv;obtain rfl:=ae hv;trivial
 ·cases hv
theorem yd{L:List BE}{ty:Nat→Nat}{b:Nat}{blk:bw}(h:bq (ya L ty) b=some blk):∃t∈L,t.1=b∧blk=oG (ty b) t.2.1 t.2.2:=by
 induction L with
 |nil=>cases h
 |cons t r ih=>
  obtain⟨g,k,zs⟩:=t;have h':Bool.rec (motive:=fun _=>Option bw) (bq (ya r ty) b) (some (oG (ty g) k zs)) (Nat.beq g b)=some blk:=h;rw[bb,bI]at h';by_cases e:g=b
  ·rw[ac (by simpa using e)]at h';subst e;exact⟨_,bJ ..,rfl,(ae h').symm⟩
  ·rw[ab (by simpa using e)]at h';obtain⟨t,ht,h1,h2⟩:=ih h';exact⟨t,br _ ht,h1,h2⟩
theorem lJ{P:Program}{W:World}{name:String}{k:IntKind}{zs:List Int}{g:Nat}{t e:TypeId}{n:Nat}
 (hg:P.globalNamed name=some g) (hty:(P.globals[g]?).map (·.type)=some t) (ht:P.underlying t=some (.array n e)) (he:P.underlying e=some (.int k)) (hce:P.cellsOf e=1) (hct:P.cellsOf t=n):
 ∀{laid:List (String×DataW Unit)} {ps:List MemPlace},(name,Lib.tabData k zs)∈laid→DataW.LaidVars P W laid ps→sO W (g,k,zs)
 |x::r,ps,hm,h=>by
  obtain⟨g',t',cs,fuel,p,q,hg',ht',hvar,hd,hr,_⟩:=h;rcases be.1 hm with e1|hm'
  ·subst e1;obtain rfl:=ae (hg.symm.trans hg');obtain rfl:=ae (hty.symm.trans ht');have hcs:=Lib.cells_of_tab ht he hce hct hd;unfold World.var? at hvar;rw[hg]at hvar;simp only[Option.bind_some]at hvar;split at hvar
   ·rename_i cs' ty fr hh;obtain rfl:=ae hvar;refine⟨ty,fr,?_⟩;show W.heap[g]?=_;rw[hh,←hcs]
   ·cases hvar
  ·exact lJ hg hty ht he hce hct hm' hr
theorem rO{P:Program}{W:World}{name:String}{k:IntKind}{zs:List Int}{g:Nat}{t e:TypeId}{n:Nat}
 (hg:P.globalNamed name=some g) (hty:(P.globals[g]?).map (·.type)=some t) (ht:P.underlying t=some (.array n e)) (he:P.underlying e=some (.int k)) (hce:P.cellsOf e=1) (hct:P.cellsOf t=n)
 {laid:List (String×DataW Unit)} (hm:(name,Lib.tabData k zs)∈laid) (h:laidMet P laid W):sO W (g,k,zs):=by
 obtain⟨ps,hv,_⟩:=h
 exact lJ hg hty ht he hce hct hm hv
def Bc(k:IntKind)(z:Int):V→Bool
 | .i k' z'=>fX k k'&&Em z z'
 |_=>false
def gW(n:Nat)(d:List V)(c:T)(k:IntKind):List Int→Nat→Bool
 |[],i=>Nat.beq i n
 |z::r,i=>match cell n d c i with
  |some v=>Bc k z v&&gW n d c k r (Nat.succ i)
  |none=>false
def pj(F:RO)(t:BE):Bool:=match bq F t.1 with
 |some (.cells _ n false fz true d c)=>Nat.beq fz n&&gW n d c t.2.1 t.2.2 0
 |_=>false
def fi(F:RO):List BE→Bool
 |[]=>true
 |t::r=>Nat.blt t.1 1000&&(pj F t&&fi F r)
theorem nB{n:Nat}{d:List V}{c:T}{k:IntKind}:∀{zs:List Int} {i:Nat},gW n d c k zs i=true→i+zs.length=n∧ ∀j z,zs[j]?=some z→cell n d c (i+j)=some (.i k z)
 |[],i,h=>by
  have:decide (i=n)=true:=by rw[←bI];exact h
  exact⟨by simpa using this,fun j z hz=>by simp at hz⟩
 |z::r,i,h=>by
  unfold gW at h;split at h
  ·rename_i v hv;rw[aX]at h;obtain⟨h1,h2⟩:=h;obtain⟨h3,h4⟩:=nB h2;have hve:v= .i k z:=by
    unfold Bc at h1;split at h1
    ·rename_i k' z';rw[aX,e9,cS]at h1;have a1:=bL h1.1;have a2:=bL h1.2;rw[a1,a2]
    ·cases h1
   refine⟨by simp only[aw];omega,fun j z' hz=>?_⟩;cases j with
   |zero=>simp at hz;subst hz;rw[←hve];exact hv
   |succ j=>
    rw[show i+(j+1)=Nat.succ i+j by omega];exact h4 j z' (by simpa using hz)
  ·cases h
theorem NG{ty:Nat}{k:IntKind}{zs:List Int}{j:Nat}{v:V}(h:cell zs.length [] (bG (rP k zs) 0 .e) j=some v):∃z,zs[j]?=some z∧v= .i k z:=by
 rw[cw]at h
 split at h
 ·rename_i hj;rw[cN]at h;have hlen:(rP k zs).length=zs.length:=by rw[li];simp
  rw[ac (by omega)]at h;rw[li]at h;simp only[Nat.sub_zero,List.getElem?_map]at h;rw[List.getElem?_eq_getElem hj]at h;simp only[Option.map_some]at h;exact⟨zs[j],List.getElem?_eq_getElem hj,(ae h).symm⟩
 ·cases h
theorem NF{P:Program}{E:cG}{F:RO}{M:Mem}{c:Nat→Prop}{w:World}{t:BE}(hr:jx P E F M c w)(h:pj F t=true):∃ty o,w.heap[E.ρ t.1]?=some o∧dP P E t.1 (oG ty t.2.1 t.2.2) o:=by
 unfold pj at h
 split at h
 ·rename_i ty n fz d cs hF;rw[aX,bI]at h;obtain⟨h0,h⟩:=h;have h0:=bL h0;subst h0;obtain⟨h1,h2⟩:=nB h;have hl:look F M t.1=some (.cells ty fz false fz true d cs):=by
   rw[aT (hr.apart t.1 (by rw[hF];rfl))];exact hF
  obtain⟨_,_,o,ho,arr,fr,rfl,hc⟩:=hr.has _ _ hl;have hn:t.2.2.length=fz:=by omega
  subst hn;refine⟨ty,_,ho,arr,fr,rfl,?_,hc.size,hc.free,hc.plain⟩;intro j v hv;obtain⟨z,hz,rfl⟩:=NG (ty:=ty) hv;refine hc.cell j _ ?_;have:=h2 j z hz
  rwa [Nat.zero_add]at this
 ·cases h
theorem rQ{F:RO}:∀{L:List BE},fi F L=true→ ∀t∈L,t.1<1000∧pj F t=true
 |[],_,t,ht=>by cases ht
 |x::r,h,t,ht=>by
  have h':(Nat.blt x.1 1000&&(pj F x&&fi F r))=true:=h;rw[aX,aX,fu]at h';rcases be.1 ht with e|ht'
  ·subst e;exact⟨bL h'.1,h'.2.1⟩
  ·exact rQ h'.2.2 t ht'
theorem AL{P:Program}{E:cG}{F:RO}{M:Mem}{c:Nat→Prop}{w:World}{L:List BE}(hr:jx P E F M c w)(hglob:∀g,g<1000→E.ρ g=g∧E.β g=0)(h:fi F L=true):∃ty,jx P E (ya L ty) .e c0 w:=by
 have hall:=rQ h
 have hty:∃ty:Nat→Nat,∀b,∀t∈L,t.1=b→ ∃o,w.heap[E.ρ b]?=some o∧dP P E b (oG (ty b) t.2.1 t.2.2) o:=by
  refine⟨fun b=>match w.heap[E.ρ b]? with|some (.cells _ ty _)=>ty|_=>0,fun b t ht e=>?_⟩;subst e;obtain⟨ty,o,ho,hB⟩:=NF hr (hall t ht).2;have hB':=hB;obtain⟨arr,fr,rfl,_⟩:=hB;refine⟨_,ho,?_⟩;simp only[ho];exact hB'
 obtain⟨ty,hty⟩:=hty
 refine⟨ty,⟨?_,?_,fun b hb=>rfl⟩⟩
 ·intro b blk hb;rw[aT (show(Tr.e:Mem).get b=none from rfl)]at hb;obtain⟨t,ht,e,rfl⟩:=yd hb;subst e;obtain⟨o,ho,hB⟩:=hty _ t ht rfl;exact⟨(hall t ht).1,aj5,o,ho,hB⟩
 ·intro b b' h1 h2 e;have lt:∀x,(look (ya L ty) .e x).isSome→x<1000:=by
   intro x hx;obtain⟨y,hy⟩:=bz.1 hx;rw[aT (show(Tr.e:Mem).get x=none from rfl)]at hy;obtain⟨t,ht,e,_⟩:=yd hy;subst e;exact(hall t ht).1
  rw[(hglob b (lt b h1)).1,(hglob b' (lt b' h2)).1]at e;exact e
theorem pE{P:Program}(hm:P.follows .mixedOrders=true){Φ:Nat→Option CF}(hΦ:en P Φ){fuel f:Nat}{L:List BE}(h:∀ty,isT (aZ9 Φ fuel (ya L ty) f [])=true):
 dK P f (fun F args M ct=>match args with|[]=>bif fi F L then .k (.b true) M ct else .f|_=> .f):=by
 intro F args M ct v N ct' hg E c w hr hglob hbig hf ha
 cases args with
 |cons a r=>cases hg
 |nil=>
  have hg':(bif fi F L then RC.k (.b true) M ct else .f)= .k v N ct':=hg;cases ht:fi F L with
  |false=>rw[ht]at hg';cases hg'
  |true=>
   rw[ht]at hg';have hg2:RC.k (.b true) M ct= .k v N ct':=hg';injection hg2 with e1 e2 e3
   subst e1 e2 e3;obtain⟨ty,hrel⟩:=AL hr hglob ht;obtain⟨M',ct2,hk⟩:=LY (h ty);obtain⟨fn,h1,h2,h3,hC⟩:=gu (rd:=none) (fn:=0) (F₀:=[]) hΦ (qT hm hΦ fuel) (ya L ty) f [] .e 1000 (.b true) M' ct2 hk E c0 w hrel hglob (fun g hg=>hg) (fun b hb hc=>Nat.lt_irrefl _ (Nat.lt_of_lt_of_le hc hb)) trivial;refine⟨fn,h1,h2,h3,hC.mono ?_⟩;rintro e w' ⟨E',c',rfl,hS,hb,hG⟩;have hfr:∀r,r<w.heap.size→w'.heap[r]?=w.heap[r]?:=fun r hr'=>hS.frame r hr' (fun b hb=>by cases hb);have hhas:∀b blk,look F M b=some blk→c b∧ep c blk∧ ∃o,w'.heap[E.ρ b]?=some o∧dP P E b blk o:=by
    intro b blk hb;obtain⟨g1,g2,o,ho,g3⟩:=hr.has b blk hb;exact⟨g1,g2,o,by rw[hfr _ (Array.getElem?_eq_some_iff.1 ho).1];exact ho,g3⟩
   exact⟨E,c,rfl,⟨.refl c E,fun _ h=>h,⟨hhas,hr.inj,hr.apart⟩,fun b hb=> .inl ⟨b,hb,rfl⟩,fun r hr' _=>hfr r hr',hS.size,hS.os,hS.output,hS.tape⟩,trivial,.refl _ _⟩
theorem Tr.setP_same{α:Type}(p:ay)(v w:α):∀t:Tr α,(t.setP p v).setP p w=t.setP p w:=by
 induction p with
 |h=>intro t;cases t<;>rfl
 |l p ih=>
  intro t;cases t with
  |e=>rw[Tr.setP_el,Tr.setP_l,ih,Tr.setP_el]
  |n l x r=>rw[Tr.setP_l,Tr.setP_l,ih,Tr.setP_l]
 |r p ih=>
  intro t;cases t with
  |e=>rw[Tr.setP_er,Tr.setP_r,ih,Tr.setP_er]
  |n l x r=>rw[Tr.setP_r,Tr.setP_r,ih,Tr.setP_r]
theorem oB{α:Type}(v:α):∀(f k:Nat),k+1<2^(f+1)→Tr.single (some v) f k=(Tr.e:Tr α).setP (jg f k) v
 |0,k,h=>by
  have:k=0:=by simp at h;omega
  subst this;rfl
 |f+1,k,h=>by
  have hp:(2:Nat)^(f+1+1)=2*2^(f+1):=by rw[Nat.pow_succ];omega
  rw[Tr.single_succ,pd];by_cases h0:k=0
  ·rw[ac h0,ac h0];rfl
  ·rw[ab h0,ab h0];by_cases h2:k%2=0
   ·rw[ac h2,ac h2,Tr.setP_er,oB v f _ (by omega)]
   ·rw[ab h2,ab h2,Tr.setP_el,oB v f _ (by omega)]
theorem mh{α:Type}(v:α)(t:Tr α):∀k:Nat,t.set k v=t.setP (bo k) v:=by
 induction t with
 |e=>
  intro k;show(Tr.e:Tr α).put (some v) k=_;rw[Tr.put_e];refine oB v _ k ?_;have:=Nat.lt_log2_self (n:=k);have hp:(2:Nat)^(k.log2+1+1)=2*2^(k.log2+1):=by rw[Nat.pow_succ];omega
  omega
 |n l x r ihl ihr=>
  intro k;show(Tr.n l x r).put (some v) k=_;rw[Tr.put_n];by_cases h0:k=0
  ·subst h0;rfl
  ·rw[ab h0];by_cases h2:k%2=0
   ·rw[ac h2];have e:bo k= .r (bo (k/2-1)):=by rw[←rq];congr 1;omega
    rw[e,Tr.setP_r,←ihr];rfl
   ·rw[ab h2];have e:bo k= .l (bo (k/2)):=by rw[←tM];congr 1;omega
    rw[e,Tr.setP_l,←ihl];rfl
theorem l8{α:Type}(t:Tr α)(k:Nat)(v w:α):(t.set k v).set k w=t.set k w:=by
 rw[mh,mh,mh,Tr.setP_same]
theorem xS{α:Type}(t:Tr α){k j:Nat}(h:k≠j)(v w:α):(t.set k v).set j w=(t.set j w).set k v:=by
 rw[mh,mh,mh,mh,Tr.setP_comm (bo k) v (bo j) w t (fun e=>h (tL e).symm)]
def gm(l:List V):T:=bG l 0 .e
theorem lD(v:V):∀(l:List V) (k i:Nat) (t:T),i<k→bG l k (t.set i v)=(bG l k t).set i v
 |[],k,i,t,h=>rfl
 |x::l,k,i,t,h=>by
  rw[cK,cK,xS _ (show i≠k by omega),lD v l (k+1) i _ (by omega)]
theorem r8(v:V):∀(l:List V) (k i:Nat) (t:T),i<l.length→(bG l k t).set (k+i) v=bG (l.set i v) k t
 |[],k,i,t,h=>by cases h
 |x::l,k,0,t,h=>by
  rw[List.set_cons_zero,cK,cK,aW k,←lD v l (k+1) k _ (by omega),l8]
 |x::l,k,i+1,t,h=>by
  rw[List.set_cons_succ,cK,cK,show k+(i+1)=(k+1)+i by omega,r8 v l (k+1) i _ (by simpa using h)]
theorem MW(v:V)(l:List V)(i:Nat)(h:i<l.length):(gm l).set i v=gm (l.set i v):=by
 have:=r8 v l 0 i .e h
 rwa [Nat.zero_add]at this
def over:List V→Nat→List V→List V
 |l,_,[]=>l
 |l,i,v::r=>over (l.set i v) (i+1) r
theorem kg:∀(vs l:List V) (i:Nat),(over l i vs).length=l.length
 |[],l,i=>rfl
 |v::r,l,i=>by rw[over,kg r];simp
theorem kb:∀(vs l:List V) (i:Nat),i+vs.length≤l.length→bG vs i (gm l)=gm (over l i vs)
 |[],l,i,h=>rfl
 |v::r,l,i,h=>by
  simp only[aw]at h;rw[cK,MW _ _ _ (by omega),over,kb r _ _ (by simp;omega)]
def af(ty:Nat)(l:List V):bw:= .cells ty l.length true 0 false [] (gm l)
theorem qJ(l:List V)(i:Nat):cell l.length [] (gm l) i=l[i]?:=by
 rw[cw]
 by_cases h:i<l.length
 ·rw[ac h];unfold gm;rw[cN,ac (by omega)];simp only[Nat.sub_zero];rw[List.getElem?_eq_getElem h]
 ·rw[ab h,List.getElem?_eq_none (by omega)]
theorem oT(l:List V):∀(n i:Nat),i+n≤l.length→dL l.length [] (gm l) n i=some ((l.drop i).take n)
 |0,i,h=>by rw[mM];simp
 |n+1,i,h=>by
  rw[gd,qJ,List.getElem?_eq_getElem (by omega)];show(match dL l.length [] (gm l) n (i+1)with|none=>none|some r=>some (l[i]::r))=_;rw[oT l n (i+1) (by omega)];simp only;rw[←List.getElem_cons_drop (by omega:i<l.length),List.take_succ_cons]
section
variable{Φ:Nat→Option CF}{rd:Option Nat}{fn:Nat}{F:RO}
theorem lG(M:Mem)(b:Nat)(x:bw):look F (M.set b x) b=some x:=au (by rw[Tr.get_set,ac rfl])
theorem kd(M:Mem){b b':Nat}(x:bw)(h:b'≠b):look F (M.set b x) b'=look F M b':=cz (by rw[Tr.get_set,ab h])
theorem r9(M:Mem)(b o ty:Nat)(l:List V):load1 F (M.set b (af ty l)) b o=l[o]?:=by
 unfold load1
 rw[lG]
 exact qJ l o
theorem wW(M:Mem){b b':Nat}(o:Nat)(x:bw)(h:b'≠b):load1 F (M.set b x) b' o=load1 F M b' o:=by
 unfold load1
 rw[kd M x h]
theorem cV(M:Mem)(b o n ty:Nat)(l:List V)(h:o+n≤l.length):loadN F (M.set b (af ty l)) b o n=some ((l.drop o).take n):=by
 unfold loadN
 rw[lG]
 exact oT l n o h
theorem Mj(M:Mem){b b':Nat}(o n:Nat)(x:bw)(h:b'≠b):loadN F (M.set b x) b' o n=loadN F M b' o n:=by
 unfold loadN
 rw[kd M x h]
theorem ph(M:Mem)(b o ty:Nat)(l vs:List V)(h:o+vs.length≤l.length)(h1:aE vs=true):bN (M.set b (af ty l)) b o vs=some (M.set b (af ty (over l o vs))):=by
 have hg:(M.set b (af ty l)).get b=some (af ty l):=by rw[Tr.get_set,ac rfl]
 show Option.rec (motive:=fun _=>Option Mem) none (fun blk=>lg (M.set b (af ty l)) b o vs blk) ((M.set b (af ty l)).get b)=_
 rw[hg]
 show(Bool.rec (motive:=fun _=>Option Mem) none (Bool.rec (motive:=fun _=>Option Mem) none (Bool.rec (motive:=fun _=>Option Mem) none (dU (M.set b (af ty l)) b o vs ty l.length true 0 false [] (gm l)) (aE vs)) (Nat.ble 0 o)) (Nat.ble (Nat.add o vs.length) l.length))=_
 rw[bb,bb,bb,bW,bW,aj (show Nat.add o vs.length≤l.length from h),aj (az o),h1]
 simp only[if_true]
 unfold dU
 rw[Tr.force_eq,Tr.force_eq,kb _ _ _ h,l8]
 unfold af
 rw[kg]
theorem Fz(M:Mem){b b':Nat}(o:Nat)(x:bw)(vs:List V)(h:b'≠b){M':Mem}(hs:bN M b' o vs=some M'):bN (M.set b x) b' o vs=some (M'.set b x):=by
 obtain⟨ty,n,ex,fz,str,d,cs,hM,h1,h2,h3,rfl⟩:=ku hs
 have hg:(M.set b x).get b'=some (.cells ty n ex fz str d cs):=by rw[Tr.get_set,ab h];exact hM
 show Option.rec (motive:=fun _=>Option Mem) none (fun blk=>lg (M.set b x) b' o vs blk) ((M.set b x).get b')=_
 rw[hg]
 show(Bool.rec (motive:=fun _=>Option Mem) none (Bool.rec (motive:=fun _=>Option Mem) none (Bool.rec (motive:=fun _=>Option Mem) none (dU (M.set b x) b' o vs ty n ex fz str d cs) (aE vs)) (Nat.ble fz o)) (Nat.ble (Nat.add o vs.length) n))=_
 rw[bb,bb,bb,bW,bW,aj (show Nat.add o vs.length≤n from h1),aj h2,h3]
 simp only[if_true]
 unfold dU
 rw[Tr.force_eq,Tr.force_eq,xS _ (Ne.symm h)]
def aU5(F:RO)(M:Mem)(x:V):Option V:=(cE (.ld1 (.c x)) F M .e).val
def aV0(n:Nat)(F:RO)(M:Mem)(x:V):Option V:=(cE (.ldn n (.c x)) F M .e).val
theorem b30(x:X)(M:Mem)(t:T):(cE (.ld1 x) F M t).val=aU5 F M (x.ev t):=rfl
theorem b31(n:Nat)(x:X)(M:Mem)(t:T):(cE (.ldn n x) F M t).val=aV0 n F M (x.ev t):=rfl
theorem aU6(M:Mem)(b o:Nat):aU5 F M (.p b o)=load1 F M b o:=by
 show(qrb b (load1 F M b o)).val=_
 cases load1 F M b o<;>rfl
theorem aV1(n:Nat)(M:Mem)(b o:Nat):aV0 n F M (.p b o)=(loadN F M b o n).map .g:=by
 show(qgb b (loadN F M b o n)).val=_
 cases loadN F M b o n<;>rfl
theorem b27(off:Nat)(x:X)(M:Mem)(t:T):(cE (.fa off x) F M t).val=match x.ev t with| .p b o=>some (.p b (o+off))|_=>none:=by
 show(pC (x.ev t) .f fun b o=>si b (Nat.add o off)).val=_
 cases x.ev t with
 |p b o=>
  show(si b (Nat.add o off)).val=_;unfold si;rw[bp];rfl
 |_=>rfl
theorem Pz(ty:Nat)(cs:List V)(b:Nat)(t:T)(h:aE cs=true):iE (.al ty cs) b t=some (.p b 0,af ty cs):=by
 show(bif aE cs then some (V.p b 0,bw.cells ty cs.length true 0 false [] (bG cs 0 .e))else none)=_
 rw[h];rfl
theorem PE(ty sz:Nat)(x:X)(b:Nat)(t:T):iE (.bx ty sz x) b t=if(flatten (x.ev t)).length=sz∧aE (flatten (x.ev t))=true then some (.p b 0,af ty (flatten (x.ev t)))else none:=by
 show(bif Nat.beq (flatten (x.ev t)).length sz&&aE (flatten (x.ev t))then some (V.p b 0,bw.cells ty sz true 0 false [] (bG (flatten (x.ev t)) 0 .e))else none)=_
 rw[bI]
 by_cases h:(flatten (x.ev t)).length=sz
 ·rw[aj h];cases ha:aE (flatten (x.ev t))with
  |true=>rw[ac ⟨h,rfl⟩,←h];rfl
  |false=>rw[ab (fun hh=>by cases hh.2)];rfl
 ·rw[ak h,ab (fun hh=>h hh.1)];rfl
theorem uJ(n:Nat)(x v:X)(M:Mem)(c:Nat)(t:T):ew (.st n x v) (K Φ rd fn F) M c t=match x.ev t with
 | .p b o=>if(flatten (v.ev t)).length=n then er c (bN M b o (flatten (v.ev t)))else .f
 |_=> .f:=by
 show(pC (x.ev t) .f fun b o=>tg n b o (flatten (v.ev t)) M c)=_
 cases x.ev t with
 |p b o=>
  show tg n b o (flatten (v.ev t)) M c=_;unfold tg;rw[bb,bI];simp only[decide_eq_true_eq]
 |_=>rfl
theorem Qp(c:Nat)(M:Mem):er c (some M)= .k undef M c:=rfl
end
section
variable{Φ:Nat→Option CF}{rd:Option Nat}{fn:Nat}{F:RO}
def ofO(o:Option V)(M:Mem)(c:Nat):RC:=match o with
 |some v=> .k v M c
 |none=> .f
theorem MI(h:List V→Option V)(F:RO)(args:List V)(M:Mem)(c:Nat):bh h F args M c=ofO (h args) M c:=rfl
theorem Mp(v:V)(M:Mem)(c:Nat):ofO (some v) M c= .k v M c:=rfl
theorem Er(x:Bool):flatten (.b x)=[.b x]:=rfl
theorem Eu(k:IntKind)(x:Int):flatten (.i k x)=[.i k x]:=rfl
theorem EA(n x:Nat):flatten (.s n x)=[.s n x]:=rfl
theorem Ez(b o:Nat):flatten (.p b o)=[.p b o]:=rfl
theorem zX:flatten .p0=[.p0]:=rfl
theorem Ew(b o n c:Nat):flatten (.l b o n c)=[.l b o n c]:=rfl
theorem EB(b o n e k:Nat):flatten (.u b o n e k)=[.u b o n e k]:=rfl
theorem zV:flatten .l0=[.l0]:=rfl
theorem Ey(b:Nat):flatten (.m b)=[.m b]:=rfl
theorem zW:flatten .m0=[.m0]:=rfl
theorem Es(f:Nat)(a b:List V):flatten (.f f a b)=[.f f a b]:=rfl
theorem zU:flatten .f0=[.f0]:=rfl
theorem Et(l:List V):flatten (.g l)=l:=rfl
theorem cg:aE []=true:=rfl
theorem aD(v:V)(l:List V):aE (v::l)=(bD v&&aE l):=by
 show Bool.rec (motive:=fun _=>Bool) false (aE l) (bD v)=_
 cases bD v<;>rfl
theorem Qy(x:Bool):bD (.b x)=true:=rfl
theorem QA(k:IntKind)(x:Int):bD (.i k x)=true:=rfl
theorem QE(n x:Nat):bD (.s n x)=true:=rfl
theorem QD(b o:Nat):bD (.p b o)=true:=rfl
theorem LX:bD .p0=true:=rfl
theorem QB(b o n c:Nat):bD (.l b o n c)=true:=rfl
theorem QF(b o n e k:Nat):bD (.u b o n e k)=true:=rfl
theorem LW:bD .l0=true:=rfl
theorem QC(b:Nat):bD (.m b)=true:=rfl
theorem Qz(f:Nat)(a b:List V):bD (.f f a b)=true:=rfl
theorem LV:bD .f0=true:=rfl
def p6(cs:List V):List (Nat×Nat×List V)→Option (List V)
 |[]=>some cs
 |(o,n,vs)::r=>if vs.length=n then(match eA cs o vs with|some cs=>p6 cs r|none=>none)else none
theorem md:∀(o:Nat) (l vs:List V),o+vs.length≤l.length→eA l o vs=some (over l o vs)
 |0,l,[],h=>by cases l<;>rfl
 |0,[],v::r,h=>by simp at h
 |0,x::l,v::r,h=>by
  have key:∀(r l:List V) (v:V),over (v::l) 1 r=v::over l 0 r:=by
   have gen:∀(r l:List V) (v:V) (i:Nat),over (v::l) (i+1) r=v::over l i r:=by
    intro r
    induction r with
    |nil=>intro l v i;rfl
    |cons a r ih=>intro l v i;rw[over,over,List.set_cons_succ,ih]
   exact fun r l v=>gen r l v 0
  rw[eA,md 0 l r (by simp at h;omega),over,List.set_cons_zero,key]
 |o+1,[],vs,h=>by simp at h
 |o+1,x::l,vs,h=>by
  have gen:∀(r l:List V) (v:V) (i:Nat),over (v::l) (i+1) r=v::over l i r:=by
   intro r
   induction r with
   |nil=>intro l v i;rfl
   |cons a r ih=>intro l v i;rw[over,over,List.set_cons_succ,ih]
  rw[eA,md o l vs (by simp at h;omega),gen]
def XS(t:T):List (Nat×Nat×X)→List (Nat×Nat×List V)
 |[]=>[]
 |(o,n,x)::r=>(o,n,flatten (x.ev t))::XS t r
theorem Qq(t:T):XS t []=[]:=rfl
theorem wK(t:T)(o n:Nat)(x:X)(r:List (Nat×Nat×X)):XS t ((o,n,x)::r)=(o,n,flatten (x.ev t))::XS t r:=rfl
theorem Eo(cs:List V):p6 cs []=some cs:=rfl
theorem qU(cs:List V)(o n:Nat)(vs:List V)(r:List (Nat×Nat×List V)):p6 cs ((o,n,vs)::r)=if vs.length=n then(match eA cs o vs with|some cs=>p6 cs r|none=>none)else none:=rfl
theorem Mz(l:List V)(i:Nat):over l i []=l:=rfl
theorem EX(l:List V)(i:Nat)(v:V)(r:List V):over l i (v::r)=over (l.set i v) (i+1) r:=rfl
theorem mQ(t:T):∀(ps:List (Nat×Nat×X)) (cs:List V),fillParts t cs ps=p6 cs (XS t ps)
 |[],cs=>rfl
 |(o,n,x)::ps,cs=>by
  rw[wK,qU,fillParts,bI];by_cases hc:(flatten (x.ev t)).length=n
  ·rw[aj hc,cond_true,ac hc];cases eA cs o (flatten (x.ev t))with
   |none=>rfl
   |some cs'=>exact mQ t ps cs'
  ·rw[ak hc,cond_false,ab hc]
theorem Yz(zero:List V)(ps:List (Nat×Nat×X))(M:Mem)(t:T):(cE (.bld zero ps) F M t).val=(p6 zero (XS t ps)).map .g:=by
 show(qg (fillParts t zero ps)).val=_
 rw[mQ]
 cases p6 zero (XS t ps)<;>rfl
theorem YA(off:Nat)(x:X)(M:Mem)(t:T):(cE (.fl1 off x) F M t).val=match x.ev t with| .g cs=>cs[off]?|_=>none:=by
 show(Ar (x.ev t) .f fun cs=>qr (mX cs off)).val=_
 cases x.ev t with
 |g cs=>
  show(qr (mX cs off)).val=cs[off]?;rw[iB];cases cs[off]?<;>rfl
 |_=>rfl
theorem b28(off n:Nat)(x:X)(M:Mem)(t:T):(cE (.fln off n x) F M t).val=match x.ev t with| .g cs=>(kw n (iM off cs)).map .g|_=>none:=by
 show(Ar (x.ev t) .f fun cs=>qg (kw n (iM off cs))).val=_
 cases x.ev t with
 |g cs=>
  show(qg (kw n (iM off cs))).val=(kw n (iM off cs)).map .g;cases kw n (iM off cs)<;>rfl
 |_=>rfl
theorem b26(i:Nat)(x:X)(M:Mem)(t:T):(cE (.ex i x) F M t).val=match x.ev t with| .t cs=>cs[i]?|_=>none:=by
 show(rz i x F M t).val=_
 unfold rz
 cases x.ev t with
 |t cs=>
  show(qr (mX cs i)).val=cs[i]?;rw[iB];cases cs[i]?<;>rfl
 |_=>rfl
theorem b24(k:IntKind)(x:X)(M:Mem)(t:T):(cE (.ci k x) F M t).val=match x.ev t with| .i _ n=>some (.i k (k.wrap n))|_=>none:=by
 show(re (x.ev t) .f fun _ n=>vI k (wr k n)).val=_
 cases x.ev t with
 |i k' n=>
  show(vI k (wr k n)).val=_;rw[fj,j0];rfl
 |_=>rfl
def ZY:Option Bool→Option Bool→Option Bool
 |some b,r=>if b=true then r else some false
 |none,_=>none
theorem DX(b c:Bool):ZY (some b) (some c)=some (b&&c):=by cases b<;>rfl
def aR9(F:RO)(M:Mem)(sh:Sh)(x y:Option V):Option Bool:=match x,y with
 |some x,some y=>Cb F M sh false x y
 |_,_=>none
theorem El(M:Mem)(sh:Sh)(x y:V):aR9 F M sh (some x) (some y)=Cb F M sh false x y:=rfl
theorem Ek(M:Mem)(xs ys:List V):jA F M xs ys []=some true:=rfl
theorem lU(M:Mem)(xs ys:List V)(o:Nat)(sh:Sh)(r:List (Nat×Sh)):jA F M xs ys ((o,sh)::r)=ZY (aR9 F M sh (xs[o]?) (ys[o]?)) (jA F M xs ys r):=by
 rw[jA,iB,iB]
 cases xs[o]? with
 |none=>rfl
 |some x=>
  cases ys[o]? with
  |none=>rfl
  |some y=>
   show(match Cb F M sh false x y with|some true=>jA F M xs ys r|r=>r)=ZY (Cb F M sh false x y) _;cases Cb F M sh false x y with
   |none=>rfl
   |some b=>cases b<;>rfl
def QP(neg:Bool):Option Bool→Option V
 |some r=>some (.b (bif neg then !r else r))
 |none=>none
theorem af4(r:Bool):QP false (some r)=some (.b r):=rfl
theorem af5(r:Bool):QP true (some r)=some (.b (!r)):=rfl
theorem b25(neg:Bool)(sh:Sh)(lit:Bool)(x y:X)(M:Mem)(t:T):(cE (.eq neg sh lit x y) F M t).val=QP neg (vX F M sh lit (x.ev t) (y.ev t)):=by
 show(tO neg (vX F M sh lit (x.ev t) (y.ev t))).val=_
 cases vX F M sh lit (x.ev t) (y.ev t)with
 |none=>rfl
 |some r=>
  show(vB (bif neg then !r else r)).val=_;rw[kB];rfl
theorem Qm(ks:List (Nat×Sh))(lit:Bool)(M:Mem)(xs ys:List V):vX F M (.agg ks) lit (.g xs) (.g ys)=jA F M xs ys ks:=rfl
theorem Qn(lit:Bool)(M:Mem)(k:IntKind)(a b:Int):vX F M .int lit (.i k a) (.i k b)=some (decide (a=b)):=by
 show Ql (.i k a) (.i k b)=_
 simp[Ql,e9,cS]
theorem Qk(lit:Bool)(M:Mem)(k:IntKind)(a b:Int):Cb F M .int lit (.i k a) (.i k b)=some (decide (a=b)):=by
 show Ql (.i k a) (.i k b)=_
 simp[Ql,e9,cS]
theorem wF(lit:Bool)(M:Mem)(a b:Bool):Cb F M .bool lit (.b a) (.b b)=some (decide (a=b)):=by
 show eqB (.b a) (.b b)=_
 cases a<;>cases b<;>rfl
theorem ba4(x:X)(as:List X)(M:Mem)(c:Nat)(t:T):ew (.cv x as) (K Φ rd fn F) M c t=mL (K Φ rd fn F) (x.ev t) (evs as t) M c:=rfl
theorem Q1(f:Nat)(first caps args:List V)(M:Mem)(c:Nat):mL (K Φ rd fn F) (.f f first caps) args M c=da (iL Φ) F f (first++(args++caps)) M c (Φ f):=rfl
theorem b32(f:Nat)(first caps:List X)(M:Mem)(t:T):(cE (.mkf f first caps) F M t).val=some (.f f (evs first t) (evs caps t)):=rfl
theorem Rq(M:Mem)(t:T)(p:ay)(sz:Nat)(r:List RV):dH F M t (.cn p sz::r)=match cd t p with
 | .p b o=>match loadN F M b o sz with|some l=>t8 (.g l) (dH F M t r)|none=>none
 |_=>none:=by
 show Option.rec (motive:=fun _=>Option (List V)) none (fun v=>pG v (dH F M t r)) (tR F M t (.cn p sz))=_
 show Option.rec (motive:=fun _=>Option (List V)) none (fun v=>pG v (dH F M t r)) (pC (cd t p) none fun b o=>Option.rec (motive:=fun _=>Option V) none (fun l=>some (.g l)) (loadN F M b o sz))=_
 cases cd t p with
 |p b o=>
  show Option.rec (motive:=fun _=>Option (List V)) none (fun v=>pG v (dH F M t r)) (Option.rec (motive:=fun _=>Option V) none (fun l=>some (.g l)) (loadN F M b o sz))=_;simp only;cases loadN F M b o sz with
  |none=>rfl
  |some l=>
   show pG (.g l) (dH F M t r)=t8 (.g l) (dH F M t r);cases dH F M t r<;>rfl
 |_=>rfl
theorem Ro(M:Mem)(t:T)(p:ay)(r:List RV):dH F M t (.c1 p::r)=match cd t p with
 | .p b o=>match load1 F M b o with|some v=>t8 v (dH F M t r)|none=>none
 |_=>none:=by
 show Option.rec (motive:=fun _=>Option (List V)) none (fun v=>pG v (dH F M t r)) (pC (cd t p) none fun b o=>load1 F M b o)=_
 cases cd t p with
 |p b o=>
  show Option.rec (motive:=fun _=>Option (List V)) none (fun v=>pG v (dH F M t r)) (load1 F M b o)=_;simp only;cases load1 F M b o with
  |none=>rfl
  |some v=>
   show pG v (dH F M t r)=t8 v (dH F M t r);cases dH F M t r<;>rfl
 |_=>rfl
def pa(len sz:Nat)(x i:V):Option V:=(cE (.ixA1 len sz (.c x) (.c i)) [] .e .e).val
theorem NN(len sz:Nat)(x i:X)(M:Mem)(t:T):(cE (.ixA1 len sz x i) F M t).val=pa len sz (x.ev t) (i.ev t):=rfl
theorem o5(len:Nat)(cs:List V)(k:IntKind)(n:Int):pa len 1 (.g cs) (.i k n)=if 0≤n∧n<len then cs[n.toNat]? else none:=by
 show(Ar (V.g cs) QR.f fun cs=>mT len 1 cs (lO (.i k n))).val=_
 show(mT len 1 cs (lO (.i k n))).val=_
 cases n with
 |ofNat m=>
  show(bif Nat.blt m len then qr (mX cs (Nat.mul m 1))else QR.f).val=_;rw[fu];by_cases h:m<len
  ·rw[aj h,cond_true,ac ⟨Int.natCast_nonneg m,Int.ofNat_lt.2 h⟩];show(qr (mX cs (Nat.mul m 1))).val=_;rw[iB,show Nat.mul m 1=m from Nat.mul_one m];show _=cs[m]?;cases cs[m]?<;>rfl
  ·rw[ak h,cond_false,ab (fun hh=>h (Int.ofNat_lt.1 hh.2))];rfl
 |negSucc m=>
  rw[ab (fun hh=>by have:=hh.1;exact absurd this (by simp))];rfl
theorem getD_some{l:List V}{i:Nat}(h:i<l.length)(d:V):l[i]?=some ((l[i]?).getD d):=by
 rw[List.getElem?_eq_getElem h];rfl
def aV6(b:Nat)(x:bw):Option Mem→Option Mem
 |some M=>some (M.set b x)
 |none=>none
theorem ET(b:Nat)(x:bw)(M:Mem):aV6 b x (some M)=some (M.set b x):=rfl
theorem Ba(M:Mem){b b':Nat}(o:Nat)(x:bw)(vs:List V)(h:b'≠b):bN (M.set b x) b' o vs=aV6 b x (bN M b' o vs):=by
 cases hs:bN M b' o vs with
 |some M'=>rw[Fz M o x vs h hs];rfl
 |none=>
  cases hs2:bN (M.set b x) b' o vs with
  |none=>rfl
  |some M2=>
   exfalso;obtain⟨ty,n,ex,fz,str,d,cs,hM,h1,h2,h3,_⟩:=ku hs2;rw[Tr.get_set,ab h]at hM;have:bN M b' o vs=some (M.set b' (.cells ty n ex fz str d (bG vs o cs))):=by
    show Option.rec (motive:=fun _=>Option Mem) none (fun blk=>lg M b' o vs blk) (M.get b')=_;rw[hM];show(Bool.rec (motive:=fun _=>Option Mem) none (Bool.rec (motive:=fun _=>Option Mem) none (Bool.rec (motive:=fun _=>Option Mem) none (dU M b' o vs ty n ex fz str d cs) (aE vs)) (Nat.ble fz o)) (Nat.ble (Nat.add o vs.length) n))=_;rw[bb,bb,bb,bW,bW,aj (show Nat.add o vs.length≤n from h1),aj h2,h3];simp only[if_true];unfold dU;rw[Tr.force_eq,Tr.force_eq]
   rw[hs]at this;cases this
theorem QM(c n:Nat):(c≠c+(n+1))=True:=eq_true (by omega)
theorem QN(c n:Nat):(c+(n+1)≠c)=True:=eq_true (by omega)
theorem af3(c i j:Nat)(h:(i==j)=false):(c+i≠c+j)=True:=eq_true (fun e=>by
 have:i=j:=by omega
 rw[beq_eq_false_iff_ne]at h
 exact h this)
def To(Φ:Nat→Option CF)(f:Nat)(args:List V)(ct:Nat)(v:V):Prop:=∃M1 ct1,da (iL Φ) [] f args .e ct (Φ f)= .k v M1 ct1
theorem gn{f n:Nat}{res:List RV}{body:CC}{args:List V}{c:Nat}{v:V}(hf:Φ f=some (.mk n res body))
 (h:Wp body (K Φ none f []) (.mk (bA n args) [] .e c) (nW [] res fun v' _ _=>v'=v)):To Φ f args c v:=by
 obtain⟨v',M',c',h1,rfl⟩:=sZ hf h
 exact⟨M',c',h1⟩
end
theorem nD{n:Int}(h1: -9223372036854775808≤n)(h2:n<9223372036854775808):IntKind.i64.wrap n=n:=by
 rw[mo .i64 n 18446744073709551616 9223372036854775808 rfl rfl rfl]
 split<;>omega
theorem a08(k:IntKind)(a b:Int):cZ .mul (.i k a) (.i k b)=some (.i k (k.wrap (a*b))):=by
 show _=some (V.i k (k.wrap (Int.mul a b)))
 cases k<;>simp[cZ,eL,dO,nR,Y0,fX,r6,fj,j0,QR.val]
theorem bF(a b:Int)(h1: -9223372036854775808≤a+b)(h2:a+b<9223372036854775808):cZ .add (.i .i64 a) (.i .i64 b)=some (.i .i64 (a+b)):=by
 rw[a02,nD h1 h2]
theorem Cf(a b:Int)(h1: -9223372036854775808≤a*b)(h2:a*b<9223372036854775808):cZ .mul (.i .i64 a) (.i .i64 b)=some (.i .i64 (a*b)):=by
 rw[a08,nD h1 h2]
section
variable{Φ:Nat→Option CF}{rd:Option Nat}{fn:Nat}{F:RO}
def jM(base:Nat)(ops:List (Nat×Nat×CO))(k:Kn)(s:DS)(R:DS→Prop):Prop:=∃s',gf k base ops s=some s'∧R s'
def XQ(d:List Nat)(Q:Ex→St→Prop):DS→Prop
 | .mk t M c pend _=>Q .nrm (.mk t d (cR pend M) c)
theorem RT(n:Nat)(ops:List (Nat×Nat×CO))(k:Kn)(t:T)(d:List Nat)(M:Mem)(c:Nat)(Q:Ex→St→Prop):
 Wp (.dreg n ops) k (.mk t d M c) Q=jM c ops k (.mk t M (c+n) [] []) (XQ d Q):=by
 have he:bc (.dreg n ops) k (.mk t d M c)=qO d (gf k c ops (.mk t M (c+n) [] [])):=by
  show(fN (Nat.add c n) fun c'=>qO d (gf k c ops (.mk t M c' [] [])))=_;rw[bp];rfl
 apply propext;constructor
 ·rintro⟨e,s',h,q⟩;rw[he]at h;cases hs:gf k c ops (.mk t M (c+n) [] [])with
  |none=>rw[hs]at h;cases h
  |some s1=>
   rw[hs]at h;obtain⟨t1,M1,c1,p1,r1⟩:=s1;have h2:((cR p1 M1).force fun M=>Rs.k .nrm (.mk t1 d M c1))= .k e s':=h;rw[Tr.force_eq]at h2;injection h2 with a1 a2
   subst a1 a2;exact⟨_,hs,q⟩
 ·rintro⟨s1,hs,q⟩;obtain⟨t1,M1,c1,p1,r1⟩:=s1;refine⟨_,_,?_,q⟩;rw[he,hs];show((cR p1 M1).force fun M=>Rs.k .nrm (.mk t1 d M c1))=_;rw[Tr.force_eq]
theorem Lo(d:List Nat)(Q:Ex→St→Prop)(t:T)(M:Mem)(c:Nat)(pend:List (Nat×Nat×bw))(reads:List (Nat×Nat)):XQ d Q (.mk t M c pend reads)=Q .nrm (.mk t d (cR pend M) c):=Eq.trans rfl (Eq.refl _)
theorem mW(M:Mem):cR [] M=M:=Eq.trans rfl (Eq.refl _)
theorem ax1(base:Nat)(k:Kn)(s:DS)(R:DS→Prop):jM base [] k s R=R s:=by
 apply propext;constructor
 ·rintro⟨s',h,q⟩;cases h;exact q
 ·exact fun q=>⟨_,rfl,q⟩
theorem ea(base:Nat)(o:Nat×Nat×CO)(r:List (Nat×Nat×CO))(k:Kn)(s:DS)(R:DS→Prop):jM base (o::r) k s R↔ ∃s',px k base o s=some s'∧jM base r k s' R:=by
 constructor
 ·rintro⟨s',h,q⟩;rw[gf]at h;cases hs:px k base o s with
  |none=>rw[hs]at h;cases h
  |some s1=>rw[hs]at h;exact⟨s1,rfl,s',h,q⟩
 ·rintro⟨s1,h1,s',h2,q⟩;exact⟨s',by rw[gf,h1];exact h2,q⟩
def jL(o:QO)(F:RO)(M:Mem)(t:T):QR:=Eh o F M t (cE o F M t)
def Zt(q:QR)(base i:Nat)(p:ay)(r:List (Nat×Nat×CO))(k:Kn)(t:T)(M:Mem)(c:Nat)(pend:List (Nat×Nat×bw))(reads:List (Nat×Nat))(R:DS→Prop):Prop:=match q with
 | .f=>False
 | .v x=>jM base r k (.mk (t.setP p x) M c pend reads) R
 | .r x b=>jM base r k (.mk (t.setP p x) M c pend ((i,b)::reads)) R
theorem ah3(x:V)(base i:Nat)(p:ay)(r:List (Nat×Nat×CO))(k:Kn)(t:T)(M:Mem)(c:Nat)(pend:List (Nat×Nat×bw))(reads:List (Nat×Nat))(R:DS→Prop):
 Zt (.v x) base i p r k t M c pend reads R=jM base r k (.mk (t.setP p x) M c pend reads) R:=Eq.trans rfl (Eq.refl _)
theorem ah2(x:V)(b base i:Nat)(p:ay)(r:List (Nat×Nat×CO))(k:Kn)(t:T)(M:Mem)(c:Nat)(pend:List (Nat×Nat×bw))(reads:List (Nat×Nat))(R:DS→Prop):
 Zt (.r x b) base i p r k t M c pend reads R=jM base r k (.mk (t.setP p x) M c pend ((i,b)::reads)) R:=Eq.trans rfl (Eq.refl _)
theorem br9(base i mask:Nat)(p:ay)(o:QO)(r:List (Nat×Nat×CO))(t:T)(M:Mem)(c:Nat)(pend:List (Nat×Nat×bw))(reads:List (Nat×Nat))(R:DS→Prop):
 jM base ((i,mask,.mk (some p) (.q o) none)::r) (K Φ rd fn F) (.mk t M c pend reads) R=Zt (jL o F M t) base i p r (K Φ rd fn F) t M c pend reads R:=by
 have he:px (K Φ rd fn F) base (i,mask,.mk (some p) (.q o) none) (.mk t M c pend reads)=py i (some p) t M c pend reads (jL o F M t):=rfl
 apply propext
 rw[ea,he]
 cases jL o F M t with
 |f=>exact⟨fun⟨s',h,_⟩=>(by cases h),False.elim⟩
 |v x=>
  have:py i (some p) t M c pend reads (.v x)=some (.mk (t.setP p x) M c pend reads):=by
   show((setT t (some p) x).force fun t=>some (DS.mk t M c pend reads))=_;rw[Tr.force_eq];rfl
  rw[this];constructor
  ·rintro⟨s',h,q⟩;obtain rfl:=ae h;exact q
  ·exact fun q=>⟨_,rfl,q⟩
 |r x b=>
  have:py i (some p) t M c pend reads (.r x b)=some (.mk (t.setP p x) M c pend ((i,b)::reads)):=by
   show((setT t (some p) x).force fun t=>some (DS.mk t M c pend ((i,b)::reads)))=_;rw[Tr.force_eq];rfl
  rw[this];constructor
  ·rintro⟨s',h,q⟩;obtain rfl:=ae h;exact q
  ·exact fun q=>⟨_,rfl,q⟩
def oV:Option V→QR
 |none=> .f
 |some x=> .v x
theorem QU(x:V):oV (some x)= .v x:=Eq.trans rfl (Eq.refl _)
theorem eX{o:QO}{M:Mem}{t:T}(h:∀F' M',cE o F' M' t=oV (cE o [] .e t).val):jL o F M t=oV (cE o F M t).val:=by
 have h1:=h F M
 have h0:=h [] .e
 unfold jL
 rw[h1]
 cases hv:(cE o [] .e t).val with
 |none=>rfl
 |some x=>
  show cE o [] .e t= .v x;rw[h0,hv];rfl
theorem b22(k:IntKind)(n:Int):vI k n=oV (vI k n).val:=by rw[fj];rfl
theorem aR1(x:X)(M:Mem)(t:T):jL (.mv x) F M t= .v (x.ev t):=Eq.trans rfl (Eq.refl _)
theorem aQ7(k:IntKind)(x:X)(M:Mem)(t:T):jL (.ci k x) F M t=oV (match x.ev t with| .i _ n=>some (.i k (k.wrap n))|_=>none):=by
 refine(eX ?_).trans (congrArg oV (b24 (F:=F) k x M t))
 intro F' M'
 show(re (x.ev t) QR.f fun _ n=>vI k (wr k n))=oV (re (x.ev t) QR.f fun _ n=>vI k (wr k n)).val
 cases x.ev t with
 |i k' n=>exact b22 _ _
 |_=>rfl
theorem iT{q:QR}(h:q= .f∨ ∃x,q= .v x):q=oV q.val:=by
 rcases h with rfl|⟨x,rfl⟩<;>rfl
theorem aa1(op:BinOp)(k:IntKind)(a:Int)(k':IntKind)(b:Int):eL op k a k' b= .f∨ ∃x,eL op k a k' b= .v x:=by
 have hb:∀(c:Bool) (q:QR),(q= .f∨ ∃x,q= .v x)→(Bool.rec (motive:=fun _=>QR) .f q c= .f∨ ∃x,(Bool.rec (motive:=fun _=>QR) .f q c:QR)= .v x):=by
  intro c q h;cases c
  ·exact .inl rfl
  ·exact h
 have vi:∀k n,vI k n= .f∨ ∃x,vI k n= .v x:=fun k n=> .inr ⟨_,fj k n⟩
 have vb:∀b,vB b= .f∨ ∃x,vB b= .v x:=fun b=> .inr ⟨_,kB b⟩
 cases op with
 |add=>exact hb _ _ (vi _ _)
 |sub=>exact hb _ _ (vi _ _)
 |mul=>exact hb _ _ (vi _ _)
 |quo=>
  refine hb _ _ ?_;have e:oO k a b= .f∨ ∃x,oO k a b= .v x:=by
   unfold oO;cases Em b 0
   ·exact vi _ _
   ·exact .inl rfl
  exact e
 |rem=>
  refine hb _ _ ?_;have e:sX k a b= .f∨ ∃x,sX k a b= .v x:=by
   unfold sX;cases Em b 0
   ·exact vi _ _
   ·exact .inl rfl
  exact e
 |and=>exact hb _ _ (vi _ _)
 |or=>exact hb _ _ (vi _ _)
 |xor=>exact hb _ _ (vi _ _)
 |andNot=>exact hb _ _ (vi _ _)
 |eql=>exact hb _ _ (vb _)
 |neq=>exact hb _ _ (vb _)
 |lss=>exact hb _ _ (vb _)
 |leq=>exact hb _ _ (vb _)
 |gtr=>exact hb _ _ (vb _)
 |geq=>exact hb _ _ (vb _)
 |shl=>
  show ai6 k a b= .f∨ ∃x,ai6 k a b= .v x;cases b with
  |ofNat n=>exact vi _ _
  |negSucc n=>exact .inl rfl
 |shr=>
  show ai7 k a b= .f∨ ∃x,ai7 k a b= .v x;cases b with
  |ofNat n=>exact vi _ _
  |negSucc n=>exact .inl rfl
theorem aQ6(op:BinOp)(x y:X)(M:Mem)(t:T){k k':IntKind}{a b:Int}(hx:x.ev t= .i k a)(hy:y.ev t= .i k' b):jL (.bi op x y) F M t=oV (cZ op (x.ev t) (y.ev t)):=by
 rw[←b23 (F:=F) op x y M t]
 refine eX ?_
 intro F' M'
 have e:∀F' M',cE (.bi op x y) F' M' t=eL op k a k' b:=by
  intro F' M';show xu op x y F' M' t=_;unfold xu;rw[hx];show(re (y.ev t) QR.f fun k' b=>eL op k a k' b)=_;rw[hy];rfl
 rw[e,e]
 exact iT (aa1 op k a k' b)
theorem aQ9(i:Nat)(x:X)(M:Mem)(t:T):jL (.ex i x) F M t=oV (match x.ev t with| .t cs=>cs[i]?|_=>none):=by
 refine(eX ?_).trans (congrArg oV (b26 (F:=F) i x M t))
 intro F' M'
 show rz i x F' M' t=oV (rz i x [] .e t).val
 unfold rz
 cases x.ev t with
 |t cs=>
  show qr (mX cs i)=oV (qr (mX cs i)).val;cases mX cs i<;>rfl
 |_=>rfl
theorem ac4(x:X)(M:Mem)(t:T){b o:Nat}{v:V}(hx:x.ev t= .p b o)(h:load1 F M b o=some v):jL (.ld1 x) F M t= .r v b:=by
 have hq:∀F' M',cE (.ld1 x) F' M' t=qrb b (load1 F' M' b o):=by
  intro F' M';show(pC (x.ev t) QR.f fun b o=>qrb b (load1 F' M' b o))=_;rw[hx];rfl
 unfold jL
 rw[hq,h]
 show Lg (.ld1 x) t b (look F M b)=_
 unfold load1 at h
 cases hl:look F M b with
 |none=>rw[hl]at h;cases h
 |some blk=>
  rw[hl]at h;show xH b (cE (.ld1 x) [(b,blk)] .e t)=_;rw[hq];have h2:load1 [(b,blk)] .e b o=some v:=by
   unfold load1;have:look [(b,blk)] (.e:Mem) b=some blk:=by
    rw[aT (show(Tr.e:Mem).get b=none from rfl)];show Bool.rec (motive:=fun _=>Option bw) _ (some blk) (Nat.beq b b)=_;rw[bb,bI];simp
   rw[this];exact h
  rw[h2];rfl
theorem AN(M:Mem):bH M []=true:=Eq.trans rfl (Eq.refl _)
theorem vf(mask i b:Nat)(r:List (Nat×Nat))(h:testBit mask i=true)(F:RO)(M:Mem)(s:List (Nat×bw)):bC mask ((i,b)::r) F M s=bC mask r F M s:=by
 rw[bC,h];rfl
def ww(mask:Nat):List (Nat×Nat)→Bool
 |[]=>true
 |(i,_)::r=>(mask/2^i%2==1)&&ww mask r
theorem KN(mask:Nat):ww mask []=true:=Eq.trans rfl (Eq.refl _)
theorem sY(mask i b:Nat)(r:List (Nat×Nat)):ww mask ((i,b)::r)=((mask/2^i%2==1)&&ww mask r):=Eq.trans rfl (Eq.refl _)
theorem gc{mask:Nat}:∀{reads:List (Nat×Nat)},ww mask reads=true→ ∀F M s,bC mask reads F M s=Pr.mk F M s
 |[],_,F,M,s=>rfl
 |(i,b)::r,h,F,M,s=>by
  rw[sY,aX]at h;rw[vf mask i b r (by show Nat.beq (Nat.mod (Nat.div mask (Nat.pow 2 i)) 2) 1=true;rw[bI];exact aj (show mask/2^i%2=1 by simpa using h.1))];exact gc h.2 F M s
def BD(o:RC)(F:RO)(p:Option ay)(base:Nat)(r:List (Nat×Nat×CO))(k:Kn)(t:T)(reads:List (Nat×Nat))(R:DS→Prop):Prop:=match o with
 | .f=>False
 | .k v M c=>bH M F=true∧jM base r k (.mk (setT t p v) M c [] reads) R
theorem Yb(v:V)(M:Mem)(c:Nat)(F:RO)(p:Option ay)(base:Nat)(r:List (Nat×Nat×CO))(k:Kn)(t:T)(reads:List (Nat×Nat))(R:DS→Prop):
 BD (.k v M c) F p base r k t reads R=(bH M F=true∧jM base r k (.mk (setT t p v) M c [] reads) R):=Eq.trans rfl (Eq.refl _)
theorem kC(base i mask:Nat)(dst:Option ay)(o:EO)(r:List (Nat×Nat×CO))(t:T)(M:Mem)(c:Nat)(reads:List (Nat×Nat))(R:DS→Prop)(hb:ww mask reads=true):
 jM base ((i,mask,.mk dst (.e o) none)::r) (K Φ rd fn F) (.mk t M c [] reads) R=BD (ew o (K Φ rd fn F) M c t) F dst base r (K Φ rd fn F) t reads R:=by
 have hp:=gc hb
 have he:px (K Φ rd fn F) base (i,mask,.mk dst (.e o) none) (.mk t M c [] reads)=lu F dst t [] reads [] (ew o (K Φ rd fn F) M c t):=by
  show nU o (K Φ rd fn F) dst t c [] reads (bC mask reads F M [])=_;rw[hp];rfl
 apply propext
 rw[ea,he]
 cases hd:ew o (K Φ rd fn F) M c t with
 |f=>exact⟨fun⟨s',h,_⟩=>(by cases h),False.elim⟩
 |k v M' c'=>
  have h2:lu F dst t [] reads [] (.k v M' c')=if bH M' F=true then some (DS.mk (setT t dst v) M' c' [] reads)else none:=by
   show(bif bH M' F&&bX F M' []then(aU [] M').force fun M=>(setT t dst v).force fun t=>some (DS.mk t M c' [] reads)else none)=_;cases bH M' F with
   |false=>rfl
   |true=>
    show((aU [] M').force fun M=>(setT t dst v).force fun t=>some (DS.mk t M c' [] reads))=_;rw[Tr.force_eq,Tr.force_eq];rfl
  rw[h2,Yb];constructor
  ·rintro⟨s',h,q⟩;split at h
   ·rename_i hr;obtain rfl:=ae h;exact⟨hr,q⟩
   ·cases h
  ·rintro⟨hr,q⟩;exact⟨_,ac hr,q⟩
theorem dB(M:Mem)(b:Nat)(x:bw)(F:RO):bH M ((b,x)::F)=((M.get b).isNone&&bH M F):=by
 show(bif (M.get b).isNone then bH M F else false)=_
 cases(M.get b).isNone<;>rfl
theorem ag(M:Mem){b b':Nat}(x:bw)(h:b'≠b):(M.set b x).get b'=M.get b':=by rw[Tr.get_set,ab h]
theorem uV:(none:Option bw).isNone=true:=Eq.trans rfl (Eq.refl _)
def biQ(op:BinOp)(X Y:V)(F:RO)(M:Mem):QR:=jL (.bi op (.c X) (.c Y)) F M .e
theorem ac0(op:BinOp)(x y:X)(M:Mem)(t:T):jL (.bi op x y) F M t=biQ op (x.ev t) (y.ev t) F M:=Eq.trans rfl (Eq.refl _)
theorem aO4(op:BinOp)(k k':IntKind)(a b:Int)(M:Mem):biQ op (.i k a) (.i k' b) F M=oV (cZ op (.i k a) (.i k' b)):=aQ6 op _ _ M .e rfl rfl
def ldQ(X:V)(F:RO)(M:Mem):QR:=jL (.ld1 (.c X)) F M .e
def ldR(b:Nat):Option V→QR
 |some v=> .r v b
 |none=> .f
theorem Mf(b:Nat)(v:V):ldR b (some v)= .r v b:=Eq.trans rfl (Eq.refl _)
theorem ac3(x:X)(M:Mem)(t:T):jL (.ld1 x) F M t=ldQ (x.ev t) F M:=Eq.trans rfl (Eq.refl _)
theorem aU7(b o:Nat)(M:Mem):ldQ (.p b o) F M=ldR b (load1 F M b o):=by
 cases h:load1 F M b o with
 |some v=>exact ac4 _ M .e rfl h
 |none=>
  show Eh (.ld1 (.c (.p b o))) F M .e (qrb b (load1 F M b o))=_;rw[h];rfl
theorem ac1(sz:Nat)(x i:X)(M:Mem)(t:T):jL (.iaS sz x i) F M t=oV ((cE (.iaS sz x i) F M t).val):=by
 refine eX fun F' M'=>?_
 show nh sz x i F' M' t=oV (nh sz x i [] .e t).val
 have key:∀(b o n:Nat) (y:V),og sz b o n y=oV (og sz b o n y).val:=by
  intro b o n y;unfold og;cases y with
  |i k m=>
   show vg sz b o n m=oV (vg sz b o n m).val;cases m with
   |ofNat m=>
    show(Bool.rec (motive:=fun _=>QR) .f (si b (Nat.add o (Nat.mul m sz))) (Nat.blt m n))=oV (Bool.rec (motive:=fun _=>QR) .f (si b (Nat.add o (Nat.mul m sz))) (Nat.blt m n):QR).val;cases Nat.blt m n with
    |true=>
     show si b (Nat.add o (Nat.mul m sz))=oV (si b (Nat.add o (Nat.mul m sz))).val;unfold si;rw[bp];rfl
    |false=>rfl
   |negSucc m=>rfl
  |_=>rfl
 unfold nh
 cases x.ev t with
 |l b o n c=>exact key b o n _
 |u b o n e k=>exact key b o n _
 |_=>rfl
def tD(x:V):Option V:=(cE (.ln .slice (.c x)) [] .e .e).val
theorem aV3(M:Mem)(x:V):lnV .slice F M x=tD x:=Eq.trans rfl (Eq.refl _)
theorem Y6(b o n c:Nat):tD (.l b o n c)=some (.i .i64 (n:Int)):=Eq.trans rfl (Eq.refl _)
theorem Mg(b o n e k:Nat):tD (.u b o n e k)=some (.i .i64 (n:Int)):=Eq.trans rfl (Eq.refl _)
theorem An:tD .l0=some (.i .i64 0):=Eq.trans rfl (Eq.refl _)
theorem Mh(b o n:Nat):tD (.ue b o n)=some (.i .i64 0):=Eq.trans rfl (Eq.refl _)
def iN(sz:Nat)(x i:V):Option V:=(cE (.iaS sz (.c x) (.c i)) [] .e .e).val
theorem b29(sz:Nat)(x i:X)(M:Mem)(t:T):(cE (.iaS sz x i) F M t).val=iN sz (x.ev t) (i.ev t):=Eq.trans rfl (Eq.refl _)
theorem LQ(sz b o n c i:Nat)(k:IntKind)(h:i<n):iN sz (.l b o n c) (.i k (i:Int))=some (.p b (o+i*sz)):=by
 show(vg sz b o n (Int.ofNat i)).val=_
 show(Bool.rec (motive:=fun _=>QR) .f (si b (Nat.add o (Nat.mul i sz))) (Nat.blt i n)).val=_
 rw[bb,fu,aj h,ac rfl]
 unfold si;rw[bp];rfl
theorem aU3(sz b o n e kn i:Nat)(k:IntKind)(h:i<n):iN sz (.u b o n e kn) (.i k (i:Int))=some (.p b (o+i*sz)):=by
 show(vg sz b o n (Int.ofNat i)).val=_
 show(Bool.rec (motive:=fun _=>QR) .f (si b (Nat.add o (Nat.mul i sz))) (Nat.blt i n)).val=_
 rw[bb,fu,aj h,ac rfl]
 unfold si;rw[bp];rfl
end
section
variable{Φ:Nat→Option CF}{rd:Option Nat}{fn:Nat}{F:RO}
def sV(l:List UInt8):V:= .s l.length (bT l)
def bV(c:UInt8):V:= .i .u8 (c.toNat:Int)
theorem Nx:bT []=0:=rfl
theorem lh(c:UInt8)(l:List UInt8):bT (c::l)=c.toNat+256*bT l:=rfl
theorem vv:∀l:List UInt8,bT l<256^l.length
 |[]=>by decide
 |c::l=>by
  have:=vv l;have hc:=UInt8.toNat_lt c;rw[lh,aw,Nat.pow_succ];omega
theorem pi(a b:List UInt8):bT (a++b)=bT a+256^a.length*bT b:=by
 induction a with
 |nil=>simp[Nx]
 |cons c a ih=>
  rw[List.cons_append,lh,lh,ih,aw,Nat.pow_succ,Nat.mul_add,←Nat.mul_assoc,Nat.mul_comm 256 (256^a.length)];omega
theorem RG(l:List UInt8)(n x:Nat)(h:bl n x=l):x%256^n=bT l:=by
 have hn:l.length=n:=by rw[←h];exact gq n x
 have e:bl n x=bl n (bT l):=by rw[h];have:=jr l;rw[hn]at this;exact this.symm
 have:=KS n x (bT l) e
 rw[this]
 exact Nat.mod_eq_of_lt (by have:=vv l;rwa [hn]at this)
theorem tW(l:List UInt8)(n:Nat)(h:n≤l.length):bT (l.take n)=bT l%256^n:=by
 symm
 refine RG _ n _ ?_
 rw[←uF n l.length (bT l) h,jr]
theorem tV(l:List UInt8)(n:Nat)(h:n≤l.length):bT (l.drop n)=bT l/256^n:=by
 have e:=pi (l.take n) (l.drop n)
 rw[List.take_append_drop,tW l n h,List.length_take,Nat.min_eq_left h]at e
 have h0:0<256^n:=Nat.pow_pos (by decide)
 rw[e,Nat.add_mul_div_left _ _ h0,Nat.div_eq_of_lt (Nat.mod_lt _ h0),Nat.zero_add]
theorem Nw(l:List UInt8)(i:Nat)(h:i<l.length):bT l/256^i%256=(l[i]).toNat:=by
 rw[←tV l i (by omega),cQ h,lh]
 have:=UInt8.toNat_lt l[i]
 omega
theorem bi3(l:List UInt8)(M:Mem):lnV .str F M (sV l)=some (.i .i64 (l.length:Int)):=rfl
theorem EG(l:List UInt8)(k:IntKind)(i:Nat)(h:i<l.length):uW (sV l) (.i k (i:Int))=some (bV l[i]):=by
 show(ma l.length (bT l) i).val=_
 show(Bool.rec (motive:=fun _=>QR) QR.f (fN (Nat.mod (Nat.div (bT l) (kh i)) 256) fun c=>QR.v (.i .u8 (.ofNat c))) (Nat.blt i l.length)).val=_
 rw[bb,fu,ac (by simpa using h),bp]
 show some (V.i .u8 (((bT l/256^i%256:Nat)):Int))=_
 rw[Nw l i h];rfl
theorem pX(a b:List UInt8):jE a.length (bT a) b.length (bT b)=decide (a=b):=by
 rw[gv,jr,jr]
theorem uE(a b:List UInt8):cZ .eql (sV a) (sV b)=some (.b (decide (a=b))):=by
 show(vB (jE a.length (bT a) b.length (bT b))).val=_
 rw[pX]
 cases decide (a=b)<;>rfl
theorem qD(a b:List UInt8):cZ .neq (sV a) (sV b)=some (.b (!decide (a=b))):=by
 show(vB (!jE a.length (bT a) b.length (bT b))).val=_
 rw[pX]
 cases decide (a=b)<;>rfl
theorem Cc(lit:Bool)(M:Mem)(a b:List UInt8):Cb F M .str lit (sV a) (sV b)=some (decide (a=b)):=by
 show some (jE a.length (bT a) b.length (bT b))=_
 rw[pX]
theorem Qo(lit:Bool)(M:Mem)(a b:List UInt8):vX F M .str lit (sV a) (sV b)=some (decide (a=b)):=Cc (F:=F) lit M a b
theorem d9(a b:List UInt8)(h:a.length+b.length≤1099511627776):cZ .add (sV a) (sV b)=some (sV (a++b)):=by
 show(oE a.length (bT a) b.length (bT b)).val=_
 have e:oE a.length (bT a) b.length (bT b)=QR.v (sV (a++b)):=by
  unfold oE;rw[bW,show decide (Nat.add a.length b.length≤1099511627776)=true from aj h,cond_true];show(fN (a.length+b.length) fun n=>fN (bT a%256^a.length+256^a.length*bT b) fun x=>QR.v (.s n x))=_;rw[bp,bp,Nat.mod_eq_of_lt (vv a),←pi,←aO];rfl
 rw[e];rfl
def xW(x:V)(lo hi:Option V):Option V:=(cE (.slS (.c x) (lo.map .c) (hi.map .c)) [] .e .e).val
theorem xj(tm:T)(d:Nat)(o:Option X):optN .e d ((o.map fun x=>x.ev tm).map .c)=optN tm d o:=by cases o<;>rfl
theorem YD(x:X)(lo hi:Option X)(M:Mem)(t:T):(cE (.slS x lo hi) F M t).val=xW (x.ev t) (lo.map fun x=>x.ev t) (hi.map fun x=>x.ev t):=by
 show(rB x lo hi F M t).val=(rB (.c (x.ev t)) _ _ [] .e .e).val
 unfold rB
 rw[xj]
 show _=(tI (x.ev t) .f fun n s=>iC n s (optN t 0 lo) (optN .e n ((hi.map fun x=>x.ev t).map .c))).val
 congr 2
 funext n s
 rw[xj]
theorem ai9(l:List UInt8)(i j:Nat)(hi:i≤j)(hj:j≤l.length):(iC l.length (bT l) (some i) (some j)).val=some (sV ((l.take j).drop i)):=by
 have e:iC l.length (bT l) (some i) (some j)=QR.v (sV ((l.take j).drop i)):=by
  show(Bool.rec (motive:=fun _=>QR) .f (Bool.rec (motive:=fun _=>QR) .f (vS (j-i) (bT l/256^i%256^(j-i))) (Nat.ble j l.length)) (Nat.ble i j))=_;rw[bb,bb,bW,bW,ac (by simpa using hi),ac (by simpa using hj)];show(fN (j-i) fun n=>fN (bT l/256^i%256^(j-i)) fun x=>QR.v (.s n x))=_;rw[bp,bp];have e1:(l.take j).drop i=(l.drop i).take (j-i):=by rw[List.drop_take]
  rw[e1];unfold sV;rw[tW _ _ (by simp;omega),tV _ _ (by omega),List.length_take,bu,Nat.min_eq_left (by omega)]
 rw[e];rfl
theorem Np(l:List UInt8)(k:IntKind)(i:Nat)(hi:i≤l.length):xW (sV l) (some (.i k (i:Int))) none=some (sV (l.drop i)):=by
 have:=ai9 l i l.length hi (by omega)
 rw[List.take_length]at this
 exact this
theorem Yj(l:List UInt8)(k:IntKind)(j:Nat)(hj:j≤l.length):xW (sV l) none (some (.i k (j:Int)))=some (sV (l.take j)):=by
 have:=ai9 l 0 j (by omega) hj
 rw[List.drop_zero]at this
 exact this
theorem Yi(l:List UInt8)(k k':IntKind)(i j:Nat)(hi:i≤j)(hj:j≤l.length):xW (sV l) (some (.i k (i:Int))) (some (.i k' (j:Int)))=some (sV ((l.take j).drop i)):=ai9 l i j hi hj
theorem oQ:∀l:List UInt8,dv l.length (bT l)=l.map bV
 |[]=>rfl
 |c::l=>by
  have hc:=UInt8.toNat_lt c;show(fN ((c.toNat+256*bT l)%256) fun d=>V.i .u8 (.ofNat d)::dv l.length ((c.toNat+256*bT l)/256))=_;rw[bp,show(c.toNat+256*bT l)%256=c.toNat by omega,show(c.toNat+256*bT l)/256=bT l by omega,oQ l];rfl
theorem qH:∀l:List UInt8,fw (l.map bV)=some (l.length,bT l)
 |[]=>rfl
 |c::l=>by
  have hc:=UInt8.toNat_lt c;rw[List.map_cons];show(match fw (l.map bV)with|some (n,x)=>some (Nat.succ n,Nat.add (Nat.mod c.toNat 256) (Nat.mul 256 x))|none=>none)=_;rw[qH l];show some (l.length+1,c.toNat%256+256*bT l)=_;rw[Nat.mod_eq_of_lt (by omega)];rfl
theorem fZ:∀l:List UInt8,aE (l.map bV)=true
 |[]=>rfl
 |c::l=>by rw[List.map_cons,aD,fZ l];rfl
end
section
variable{Φ:Nat→Option CF}{rd:Option Nat}{fn:Nat}{F:RO}
def nF(o:RC)(P:V→Mem→Nat→Prop):Prop:=∃v M' c',o= .k v M' c'∧P v M' c'
theorem nF.mono{o:RC}{P P':V→Mem→Nat→Prop}(h:nF o P)(hp:∀v M' c',P v M' c'→P' v M' c'):nF o P':=by
 obtain⟨v,M',c',e,h⟩:=h
 exact⟨v,M',c',e,hp v M' c' h⟩
abbrev Calls(Φ:Nat→Option CF)(F:RO)(f:Nat)(args:List V)(M:Mem)(c:Nat)(P:V→Mem→Nat→Prop):Prop:=nF (da (iL Φ) F f args M c (Φ f)) P
theorem aM{f n:Nat}{res:List RV}{body:CC}{args:List V}{M:Mem}{c:Nat}{P:V→Mem→Nat→Prop}(hf:Φ f=some (.mk n res body))
 (h:Wp body (K Φ none f F) (.mk (bA n args) [] M c) (nW F res P)):Calls Φ F f args M c P:=sZ hf h
theorem av{o:RC}{p:ay}{r:List CO}{k:Kn}{t:T}{d:List Nat}{R:St→Prop}(h:nF o fun v M' c'=>mF r k (.mk (t.setP p v) d M' c') R):Zu o p r k t d R:=by
 obtain⟨v,M',c',e,h⟩:=h
 rw[e];exact h
theorem fe{o:RC}{p:Option ay}{base:Nat}{r:List (Nat×Nat×CO)}{k:Kn}{t:T}{reads:List (Nat×Nat)}{R:DS→Prop}
 (h:nF o fun v M' c'=>bH M' F=true∧jM base r k (.mk (setT t p v) M' c' [] reads) R):BD o F p base r k t reads R:=by
 obtain⟨v,M',c',e,h⟩:=h
 rw[e];exact h
structure cU(F:RO)(M:Mem)(c:Nat):Prop where
 hiM:∀b,c≤b→M.get b=none
 hiF:∀b,c≤b→bq F b=none
 ap:∀b,(bq F b).isSome→M.get b=none
 ge:1000≤c
structure Gr(c:Nat)(M:Mem)(c':Nat)(M':Mem):Prop where
 le:c≤c'
 old:∀b,b<c→M'.get b=M.get b
 new:∀b,c'≤b→M'.get b=none
theorem oy(M:Mem):∀F:RO,(∀b,(bq F b).isSome→M.get b=none)→bH M F=true
 |[],_=>rfl
 |(b,x)::F,h=>by
  rw[dB,h b (by
   show(Bool.rec (motive:=fun _=>Option bw) (bq F b) (some x) (Nat.beq b b)).isSome=true;rw[Nat.beq_refl];rfl)]
  rw[oy M F fun b' hb'=>h b' (by
   show(Bool.rec (motive:=fun _=>Option bw) (bq F b') (some x) (Nat.beq b b')).isSome=true;cases Nat.beq b b' with
   |true=>rfl
   |false=>exact hb')]
  rfl
theorem cU.free{M:Mem}{c:Nat}(h:cU F M c):bH M F=true:=oy M F h.ap
theorem cU.look{M:Mem}{c:Nat}(h:cU F M c){b:Nat}(hb:c≤b):look F M b=none:=by
 rw[aT (h.hiM b hb),h.hiF b hb]
theorem Gr.refl{M:Mem}{c:Nat}(h:cU F M c):Gr c M c M:=⟨ah _,fun _ _=>rfl,h.hiM⟩
theorem Gr.trans{M M1 M2:Mem}{c c1 c2:Nat}(h:Gr c M c1 M1)(h2:Gr c1 M1 c2 M2):Gr c M c2 M2:=
 ⟨aY h.le h2.le,fun b hb=>(h2.old b (Nat.lt_of_lt_of_le hb h.le)).trans (h.old b hb),h2.new⟩
theorem Gr.ok{M M1:Mem}{c c1:Nat}(h:Gr c M c1 M1)(ho:cU F M c):cU F M1 c1:=by
 refine⟨h.new,fun b hb=>ho.hiF b (aY h.le hb),fun b hb=>?_,aY ho.ge h.le⟩
 have:b<c:=by
  by_cases hc:b<c
  ·exact hc
  ·rw[ho.hiF b (by omega)]at hb;cases hb
 rw[h.old b this];exact ho.ap b hb
theorem Gr.set{M M1:Mem}{c c1 c2:Nat}(h:Gr c M c1 M1)(b:Nat)(x:bw)(h1:c≤b)(h2:b<c2)(h3:c1≤c2):Gr c M c2 (M1.set b x):=by
 refine⟨aY h.le h3,fun b' hb'=>?_,fun b' hb'=>?_⟩
 ·rw[ag _ _ (by omega)];exact h.old b' hb'
 ·rw[ag _ _ (by omega)];exact h.new b' (by omega)
theorem Gr.del{M M1:Mem}{c c1:Nat}(h:Gr c M c1 M1)(b:Nat)(h1:c≤b):Gr c M c1 (M1.del b):=by
 refine⟨h.le,fun b' hb'=>?_,fun b' hb'=>?_⟩
 ·rw[Tr.get_del,ab (by omega)];exact h.old b' hb'
 ·rw[Tr.get_del];split
  ·rfl
  ·exact h.new b' hb'
theorem Gr.up{M M1:Mem}{c c1 c2:Nat}(h:Gr c M c1 M1)(h3:c1≤c2):Gr c M c2 M1:=
 ⟨aY h.le h3,h.old,fun b hb=>h.new b (by omega)⟩
theorem Gr.look{M M1:Mem}{c c1:Nat}(h:Gr c M c1 M1){b:Nat}(hb:b<c):look F M1 b=look F M b:=cz (h.old b hb)
theorem Gr.load1{M M1:Mem}{c c1:Nat}(h:Gr c M c1 M1){b:Nat}(hb:b<c)(o:Nat):load1 F M1 b o=load1 F M b o:=by
 unfold Ev.load1;rw[h.look hb]
theorem Gr.loadN{M M1:Mem}{c c1:Nat}(h:Gr c M c1 M1){b:Nat}(hb:b<c)(o n:Nat):loadN F M1 b o n=loadN F M b o n:=by
 unfold Ev.loadN;rw[h.look hb]
theorem rv{α:Type}(v:α):∀(t:Tr α) (k:Nat),t.get k=some v→t.put (some v) k=t
 | .e,k,h=>by cases h
 | .n l x r,k,h=>by
   rw[Tr.put_n];rw[Tr.get_n]at h;by_cases h0:k=0
   ·rw[ac h0]at h⊢;rw[h]
   ·rw[ab h0]at h⊢;by_cases h2:k%2=0
    ·rw[ac h2]at h⊢;rw[rv v r _ h]
    ·rw[ab h2]at h⊢;rw[rv v l _ h]
theorem cX{M:Mem}{b:Nat}{x:bw}(h:M.get b=some x):M=M.set b x:=(rv x M b h).symm
def gE(F:RO)(M:Mem)(b:Nat)(row:List V):Prop:=∃ty ex fz str d c,look F M b=some (.cells ty row.length ex fz str d c)∧ ∀i,i<row.length→cell row.length d c i=row[i]?
theorem gE.load1{M:Mem}{b:Nat}{row:List V}(h:gE F M b row)(o:Nat):load1 F M b o=row[o]?:=by
 obtain⟨ty,ex,fz,str,d,c,hl,hc⟩:=h
 unfold Ev.load1
 rw[hl]
 show cell row.length d c o=_
 by_cases ho:o<row.length
 ·exact hc o ho
 ·rw[cw,ab ho,List.getElem?_eq_none (by omega)]
theorem qK{d:List V}{c:T}{row:List V}(hc:∀i,i<row.length→cell row.length d c i=row[i]?):∀(n i:Nat),i+n≤row.length→dL row.length d c n i=some ((row.drop i).take n)
 |0,i,h=>by rw[mM];simp
 |n+1,i,h=>by
  rw[gd,hc i (by omega),List.getElem?_eq_getElem (by omega)];show(match dL row.length d c n (i+1)with|none=>none|some r=>some (row[i]::r))=_;rw[qK hc n (i+1) (by omega)];simp only;rw[←List.getElem_cons_drop (by omega:i<row.length),List.take_succ_cons]
theorem gE.loadN{M:Mem}{b:Nat}{row:List V}(h:gE F M b row)(o n:Nat)(hn:o+n≤row.length):loadN F M b o n=some ((row.drop o).take n):=by
 obtain⟨ty,ex,fz,str,d,c,hl,hc⟩:=h
 unfold Ev.loadN
 rw[hl]
 exact qK hc n o hn
theorem gE.grow{M M':Mem}{b c c':Nat}{row:List V}(h:gE F M b row)(hg:Gr c M c' M')(hb:b<c):gE F M' b row:=by
 obtain⟨ty,ex,fz,str,d,cs,hl,hc⟩:=h
 exact⟨ty,ex,fz,str,d,cs,by rw[hg.look hb];exact hl,hc⟩
theorem gE.ne{M:Mem}{b b':Nat}{x:bw}{row:List V}(h:gE F M b row)(hb:b≠b'):gE F (M.set b' x) b row:=by
 obtain⟨ty,ex,fz,str,d,cs,hl,hc⟩:=h
 exact⟨ty,ex,fz,str,d,cs,by rw[kd M x hb];exact hl,hc⟩
theorem xO{M:Mem}{b ty fz:Nat}{ex str:Bool}{row:List V}(h:M.get b=some (.cells ty row.length ex fz str [] (gm row))):gE F M b row:=
 ⟨ty,ex,fz,str,[],gm row,au h,fun i hi=>qJ row i⟩
def cM(F:RO)(M:Mem)(b o:Nat)(row:List V):Prop:=∀k,k<row.length→load1 F M b (o+k)=row[k]?
theorem gE.cells{M:Mem}{b:Nat}{row:List V}(h:gE F M b row):cM F M b 0 row:=fun k _=>by rw[Nat.zero_add];exact h.load1 k
theorem cM.grow{M M':Mem}{b o c c':Nat}{row:List V}(h:cM F M b o row)(hg:Gr c M c' M')(hb:b<c):cM F M' b o row:=fun k hk=>by rw[hg.load1 hb];exact h k hk
theorem cM.sub{M:Mem}{b o:Nat}{row:List V}(h:cM F M b o row)(i n:Nat)(hn:i+n≤row.length):cM F M b (o+i) ((row.drop i).take n):=fun k hk=>by
 simp only[List.length_take,bu]at hk
 rw[Nat.add_assoc,h (i+k) (by omega),List.getElem?_take,ac (by omega),List.getElem?_drop]
theorem Ao{M:Mem}{b o:Nat}{v:V}(h:Ev.load1 F M b o=some v):∃ty n ex fz str d c,look F M b=some (.cells ty n ex fz str d c)∧cell n d c o=some v:=by
 unfold Ev.load1 at h
 cases hl:look F M b with
 |none=>rw[hl]at h;cases h
 |some x=>
  rw[hl]at h;cases x with
  |cells ty n ex fz str d c=>exact⟨ty,n,ex,fz,str,d,c,rfl,h⟩
  |_=>cases h
theorem cM.load{M:Mem}{b o:Nat}{row:List V}(h:cM F M b o row)(hr:row≠[]):loadN F M b o row.length=some row:=by
 cases row with
 |nil=>exact absurd rfl hr
 |cons v r=>
  have h0:=h 0 (by simp);simp only[aW,List.getElem?_cons_zero]at h0;obtain⟨ty,n,ex,fz,str,d,c,hl,_⟩:=Ao h0;have key:∀(l:List V) (o:Nat),(∀k,k<l.length→Ev.load1 F M b (o+k)=l[k]?)→dL n d c l.length o=some l:=by
   intro l
   induction l with
   |nil=>intro o _;rfl
   |cons x l ih=>
    intro o hx;have e0:=hx 0 (by simp);simp only[aW,List.getElem?_cons_zero]at e0;unfold Ev.load1 at e0;rw[hl]at e0;have e0':cell n d c o=some x:=e0;rw[aw,gd,e0'];show(match dL n d c l.length (o+1)with|none=>none|some r=>some (x::r))=_
    rw[ih (o+1) fun k hk=>by
     have:=hx (k+1) (by simpa using hk);rw[List.getElem?_cons_succ]at this;rw[←this];congr 1;omega]
  unfold Ev.loadN;rw[hl];exact key (v::r) o h
theorem cM.loadN{M:Mem}{b o:Nat}{row:List V}(h:cM F M b o row)(i n:Nat)(hn:i+n≤row.length)(h0:0<n):loadN F M b (o+i) n=some ((row.drop i).take n):=by
 have hs:=h.sub i n hn
 have hl:((row.drop i).take n).length=n:=by simp;omega
 have:=hs.load (by intro e;rw[e]at hl;simp at hl;omega)
 rwa [hl]at this
theorem ey:∀{es:List (List V)} {sz:Nat},(∀e∈es,e.length=sz)→es.flatten.length=es.length*sz
 |[],sz,_=>by simp
 |e::es,sz,h=>by
  rw[List.flatten_cons,aO,ey fun x hx=>h x (br _ hx),h e (bJ ..),aw,Nat.add_mul];omega
theorem wO:∀{es:List (List V)} {sz:Nat},(∀e∈es,e.length=sz)→ ∀(i:Nat) (h:i<es.length),(es.flatten.drop (i*sz)).take sz=es[i]
 |[],sz,_,i,h=>by cases h
 |e::es,sz,h,0,_=>by
  rw[List.flatten_cons,Nat.zero_mul,List.drop_zero,List.take_append_of_le_length (by rw[h e (bJ ..)];exact ah _),List.getElem_cons_zero,←h e (bJ ..),List.take_length]
 |e::es,sz,h,i+1,hi=>by
  have he:=h e (bJ ..);rw[List.flatten_cons,List.getElem_cons_succ,Nat.add_mul,Nat.one_mul,Nat.add_comm,List.drop_append,he,List.drop_eq_nil_of_le (by omega),List.nil_append,Nat.add_sub_cancel_left];exact wO (fun x hx=>h x (br _ hx)) i (by simpa using hi)
def cB(F:RO)(M:Mem)(c sz:Nat)(v:V)(es:List (List V)):Prop:=
 (∀e∈es,e.length=sz)∧((es=[]∧(v= .l0∨ ∃b o0 o,v= .ue b o0 o))∨
  ∃b o,((∃cap,es.length≤cap∧v= .l b o es.length cap)∨(∃el kn,el+es.length≤kn∧v= .u b o es.length el kn))∧b<c∧cM F M b o es.flatten)
theorem cB.len{M:Mem}{c sz:Nat}{v:V}{es:List (List V)}(h:cB F M c sz v es):tD v=some (.i .i64 (es.length:Int)):=by
 rcases h with⟨_,⟨rfl,h|⟨b,o0,o,h⟩⟩|⟨b,o,⟨cap,_,h⟩|⟨el,kn,_,h⟩,_⟩⟩
 ·rw[h];exact An
 ·rw[h];exact Mh _ _ _
 ·rw[h];exact Y6 _ _ _ _
 ·rw[h];exact Mg _ _ _ _ _
theorem cB.grow{M M':Mem}{c c' sz:Nat}{v:V}{es:List (List V)}(h:cB F M c sz v es)(hg:Gr c M c' M'):cB F M' c' sz v es:=by
 rcases h with⟨h0,h|⟨b,o,hv,hb,hr⟩⟩
 ·exact⟨h0,.inl h⟩
 ·exact⟨h0,.inr ⟨b,o,hv,Nat.lt_of_lt_of_le hb hg.le,hr.grow hg hb⟩⟩
theorem cB.at{M:Mem}{c sz:Nat}{v:V}{es:List (List V)}(h:cB F M c sz v es)(i:Nat)(hi:i<es.length):
 ∃b o,b<c∧(∀k,iN sz v (.i k (i:Int))=some (.p b o))∧cM F M b o es[i]:=by
 rcases h with⟨h0,⟨rfl,_⟩|⟨b,o,hv,hb,hr⟩⟩
 ·cases hi
 ·have hle:i*sz+sz≤es.flatten.length:=by
   have:(i+1)*sz≤es.length*sz:=Nat.mul_le_mul_right _ hi;rw[Nat.add_mul,Nat.one_mul]at this;rw[ey h0];exact this
  refine⟨b,o+i*sz,hb,fun k=>?_,?_⟩
  ·rcases hv with⟨cap,_,rfl⟩|⟨el,kn,_,rfl⟩
   ·exact LQ _ _ _ _ _ _ _ hi
   ·exact aU3 _ _ _ _ _ _ _ _ hi
  ·have:=hr.sub (i*sz) sz hle
   rwa [wO h0 i hi]at this
theorem cB.one{M:Mem}{c:Nat}{v:V}{es:List (List V)}(h:cB F M c 1 v es)(i:Nat)(hi:i<es.length){x:V}(hx:es[i]=[x]):
 ∃b o,b<c∧(∀k,iN 1 v (.i k (i:Int))=some (.p b o))∧load1 F M b o=some x:=by
 obtain⟨b,o,h1,h2,h3⟩:=h.at i hi
 refine⟨b,o,h1,h2,?_⟩
 have:=h3 0 (by rw[hx];simp)
 rw[aW,hx]at this
 exact this
theorem cU.set{M:Mem}{c c':Nat}(h:cU F M c)(b:Nat)(x:bw)(h1:c≤b)(h2:b<c'):cU F (M.set b x) c':=by
 refine⟨fun b' hb'=>?_,fun b' hb'=>h.hiF b' (by omega),fun b' hb'=>?_,by have:=h.ge;omega⟩
 ·rw[ag _ _ (by omega)];exact h.hiM b' (by omega)
 ·have:b'≠b:=by
   intro e;subst e;rw[h.hiF b' h1]at hb';cases hb'
  rw[ag _ _ this];exact h.ap b' hb'
abbrev SlB(F:RO)(M:Mem)(c:Nat)(v:V)(l:List UInt8):Prop:=cB F M c 1 v (l.map fun x=>[bV x])
theorem SlB.get{M:Mem}{c:Nat}{v:V}{l:List UInt8}(h:SlB F M c v l)(i:Nat)(hi:i<l.length):
 ∃b o,b<c∧(∀k,iN 1 v (.i k (i:Int))=some (.p b o))∧load1 F M b o=some (.i .u8 (l[i].toNat:Int)):=
 cB.one h i (by simpa using hi) (by simp[bV])
theorem SlB.len{M:Mem}{c:Nat}{v:V}{l:List UInt8}(h:SlB F M c v l):tD v=some (.i .i64 (l.length:Int)):=by
 have:=cB.len h
 rwa [List.length_map]at this
theorem am(M:Mem)(b:Nat)(x:bw):(M.set b x).get b=some x:=by rw[Tr.get_set,ac rfl]
end
section
variable{Φ:Nat→Option CF}{rd:Option Nat}{fn:Nat}{F:RO}
theorem Ci{M:Mem}{c sz:Nat}{v:V}{es:List (List V)}(h:cB F M c sz v es):mU v=some es.length:=by
 rcases h with⟨_,⟨rfl,rfl|⟨b,o0,o,rfl⟩⟩|⟨b,o,⟨cap,_,rfl⟩|⟨el,kn,_,rfl⟩,_⟩⟩<;>rfl
theorem kp{M:Mem}{sz b o:Nat}{es:List (List V)}(hsz:0<sz)(h0:∀e∈es,e.length=sz)(h:cM F M b o es.flatten):∃r,readB F M sz es.length b o=some (es.flatten,r):=by
 unfold readB
 rw[bI]
 cases es with
 |nil=>exact⟨none,rfl⟩
 |cons e es=>
  have hl:=ey h0;have hne:(e::es).flatten≠[]:=by
   intro h;rw[h]at hl;simp only[aL,aw,Nat.add_mul]at hl;omega
  have:=h.load hne;rw[hl]at this;rw[ak (by simp),cond_false];show∃r,(match loadN F M b o ((e::es).length*sz)with|some vs=>some (vs,some b)|none=>none)=_;rw[this];exact⟨some b,rfl⟩
theorem xK{M:Mem}{c sz:Nat}{v:V}{es:List (List V)}(hsz:0<sz)(h:cB F M c sz v es):∃r,readL F M sz es.length v=some (es.flatten,r):=by
 rcases h with⟨h0,⟨rfl,rfl|⟨b,o0,o,rfl⟩⟩|⟨b,o,⟨cap,_,rfl⟩|⟨el,kn,_,rfl⟩,_,hc⟩⟩
 ·exact⟨none,rfl⟩
 ·exact⟨none,rfl⟩
 ·exact kp hsz h0 hc
 ·exact kp hsz h0 hc
theorem xX{M:Mem}{c sz:Nat}{v:V}{es:List (List V)}(hsz:0<sz)(h:cB F M c sz v es):eB F M sz v=some (es.length,es.flatten):=by
 have hl:=Ci h
 obtain⟨r,hr⟩:=xK hsz h
 have hs:∀n x,v≠ .s n x:=by
  intro n x e;rcases h with⟨_,⟨rfl,h|⟨b,o0,o,h⟩⟩|⟨b,o,⟨cap,_,h⟩|⟨el,kn,_,h⟩,_⟩⟩<;>(rw[e]at h;cases h)
 have e:eB F M sz v=match mU v with|some n=>RB n (readL F M sz n v)|none=>none:=by
  cases v<;>first|rfl|exact absurd rfl (hs _ _)
 rw[e,hl]
 show RB es.length (readL F M sz es.length v)=_
 rw[hr];rfl
theorem D4{M:Mem}(l:List UInt8):eB F M 1 (sV l)=some (l.length,l.map bV):=by
 show(bif Nat.beq 1 1 then some (l.length,dv l.length (bT l))else none)=_
 rw[oQ];rfl
def pH(ty:Nat)(row:List V):bw:= .cells ty row.length false 0 false [] (gm row)
def bm(M:Mem)(c0 c b ty sz:Nat)(v:V)(es:List (List V)):Prop:=
 (∀e∈es,e.length=sz)∧((es=[]∧v= .l0)∨(c0≤b∧b<c∧v= .u b 0 es.length 0 es.length∧M.get b=some (pH ty es.flatten)))
theorem bm.nil{M:Mem}{c0 c b ty sz:Nat}:bm M c0 c b ty sz .l0 []:=⟨fun e he=>(by cases he),.inl ⟨rfl,rfl⟩⟩
theorem CX{M:Mem}{b ty:Nat}{row:List V}(h:M.get b=some (pH ty row)):gE F M b row:=xO h
theorem bm.sl{M:Mem}{c0 c b ty sz:Nat}{v:V}{es:List (List V)}(h:bm M c0 c b ty sz v es):cB F M c sz v es:=by
 rcases h with⟨h0,⟨rfl,rfl⟩|⟨h1,h2,rfl,h3⟩⟩
 ·exact⟨h0,.inl ⟨rfl,.inl rfl⟩⟩
 ·exact⟨h0,.inr ⟨b,0,.inr ⟨0,es.length,by omega,rfl⟩,h2,(CX h3).cells⟩⟩
theorem bm.up{M M':Mem}{c0 c c' b ty sz:Nat}{v:V}{es:List (List V)}(h:bm M c0 c b ty sz v es)(hc:c≤c')(hb:b<c→M'.get b=M.get b):bm M' c0 c' b ty sz v es:=by
 rcases h with⟨h0,h|⟨h1,h2,rfl,h3⟩⟩
 ·exact⟨h0,.inl h⟩
 ·exact⟨h0,.inr ⟨h1,by omega,rfl,by rw[hb h2];exact h3⟩⟩
theorem bm.gr{M M':Mem}{c0 c c' b ty sz:Nat}{v:V}{es:List (List V)}(h:bm M c0 c b ty sz v es)(hg:Gr c M c' M'):bm M' c0 c' b ty sz v es:=h.up hg.le fun hb=>hg.old b hb
theorem gk{n bytes:Nat}(h:(3*n+2000)*bytes≤281474976710656)(h1:n≤1099511627776):kr n bytes=true:=by
 unfold kr
 rw[bW,bW]
 have a:decide (Nat.mul (Nat.add (Nat.mul 3 n) 2000) bytes≤281474976710656)=true:=aj h
 rw[a,aj h1];rfl
theorem mS(M:Mem)(c ty bytes len:Nat)(vs:List V)(h:kr len bytes=true):fV M c ty bytes len 0 false vs= .k (.u c 0 len 0 len) (M.set c (pH ty vs)) (c+1):=by
 unfold fV
 rw[h]
 show(M.set c (.cells ty vs.length false 0 false [] (bG vs 0 .e))).force (fun M=>fN (Nat.succ c) fun c'=>fN len fun len=>RC.k (.u c 0 len 0 len) M c')=_
 rw[Tr.force_eq,bp,bp];rfl
theorem BW{M:Mem}{c ty sz bytes n:Nat}{new:List V}(h:n≠0):app F M c ty sz bytes .l0 n new=fV M c ty bytes n 0 false new:=by
 unfold app
 rw[bI,ak h,cond_false]
theorem za{M:Mem}{c ty sz bytes b o len el kn n:Nat}{new:List V}(h:n≠0):app F M c ty sz bytes (.u b o len el kn) n new=ly F M c ty sz bytes b o len el kn n new:=by
 unfold app
 rw[bI,ak h,cond_false]
theorem GC{M0 M:Mem}{c0 c b ty sz bytes:Nat}{v:V}{es ns:List (List V)}(h:bm M c0 c b ty sz v es)(hg:Gr c0 M0 c M)(hsz:0<sz)(hn:∀e∈ns,e.length=sz)(h1:aE ns.flatten=true)(hr:kr (es.length+ns.length) bytes=true):
 nF (lT F M c ty sz bytes v (some (ns.length,ns.flatten))) fun v' M' c'=>∃b',bm M' c0 c' b' ty sz v' (es++ns)∧Gr c0 M0 c' M'∧c≤c'∧(∀x,x<c→x≠b→M'.get x=M.get x)∧(b'=b∨c≤b'):=by
 have hnl:=ey hn
 have e1:lT F M c ty sz bytes v (some (ns.length,ns.flatten))=app F M c ty sz bytes v ns.length ns.flatten:=by
  show(bif aE ns.flatten&&Nat.beq ns.flatten.length (Nat.mul ns.length sz)then _ else _)=_;rw[h1,bI,aj (show ns.flatten.length=Nat.mul ns.length sz from hnl)];rfl
 rw[e1]
 have hall:∀e∈es++ns,e.length=sz:=by
  intro e he;rcases List.mem_append.1 he with he|he
  ·exact h.1 e he
  ·exact hn e he
 by_cases hz:ns=[]
 ·subst hz;have e2:app F M c ty sz bytes v 0 []= .k v M c:=by
   show(bif Nat.beq 0 0 then(bif tB v then RC.k v M c else .f)else _)=_;have:tB v=true:=by
    rcases h with⟨_,⟨_,rfl⟩|⟨_,_,rfl,_⟩⟩
    ·rfl
    ·show Nat.ble es.length (Nat.sub es.length 0)=true;rw[bW];exact aj (ah _)
   rw[this];rfl
  exact⟨v,M,c,e2,b,by rw[bP];exact h,hg,ah _,fun _ _ _=>rfl,.inl rfl⟩
 ·have hn0:ns.length≠0:=fun e=>hz (List.length_eq_zero_iff.1 e);rcases h with⟨h0,⟨rfl,rfl⟩|⟨ha,hb,rfl,hM⟩⟩
  ·rw[aL,Nat.zero_add]at hr;refine⟨_,_,_,(BW hn0).trans (mS M c ty bytes ns.length ns.flatten hr),c,⟨hall,.inr ⟨hg.le,by omega,rfl,?_⟩⟩,hg.set c _ hg.le (by omega) (by omega),by omega,fun x hx _=>ag _ _ (by omega),.inr (ah _)⟩;rw[Tr.get_set,ac rfl];rfl
  ·have hel:=ey h0;obtain⟨r,hrd⟩:=kp hsz h0 (CX (F:=F) hM).cells;have hmw:eZ M b ty (Nat.add 0 (Nat.mul es.length sz)) (Nat.add 0 (Nat.mul (Nat.sub es.length 0) sz))=some (0,false):=by
    unfold eZ;rw[hM];show(bif Nat.beq ty ty&&Nat.beq es.flatten.length (0+(es.length-0)*sz)&&Nat.ble 0 (0+es.length*sz)&&Nat.ble (0+es.length*sz) (0+(es.length-0)*sz)then some (0,false)else none)=_;rw[bI,bI,bW,bW,aj (show ty=ty from rfl),aj (show es.flatten.length=0+(es.length-0)*sz by rw[hel];simp),aj (az _),aj (show 0+es.length*sz≤0+(es.length-0)*sz by simp)];rfl
   have e3:ly F M c ty sz bytes b 0 es.length 0 es.length ns.length ns.flatten=fV (M.del b) c ty bytes (es.length+ns.length) 0 false (es.flatten++ns.flatten):=by
    unfold ly;rw[bW,ak (show¬Nat.add (Nat.add 0 es.length) ns.length≤es.length by show¬0+es.length+ns.length≤es.length;omega),cond_false,hmw];show o4 (M.del b) c ty bytes (es.length+ns.length) 0 false ns.flatten (readB F M sz es.length b 0)=_;rw[hrd];rfl
   refine⟨_,_,_,((za hn0).trans e3).trans (mS _ c ty bytes _ _ hr),c,⟨hall,.inr ⟨by omega,by omega,by rw[aO],?_⟩⟩,(hg.del b ha).set c _ (by omega) (by omega) (by omega),by omega,fun x hx hxb=>?_,.inr (ah _)⟩
   ·rw[Tr.get_set,ac rfl,List.flatten_append]
   ·rw[ag _ _ (by omega),Tr.get_del,ab hxb]
def sJ(sz:Nat)(x:V)(lo hi mx:Option V):Option V:=(cE (.slL sz (.c x) (lo.map .c) (hi.map .c) (mx.map .c)) [] .e .e).val
theorem oa(tm:T)(o:Option X):optNN .e ((o.map fun x=>x.ev tm).map .c)=optNN tm o:=by cases o<;>rfl
theorem YC(sz:Nat)(x:X)(lo hi mx:Option X)(M:Mem)(t:T):(cE (.slL sz x lo hi mx) F M t).val=sJ sz (x.ev t) (lo.map fun x=>x.ev t) (hi.map fun x=>x.ev t) (mx.map fun x=>x.ev t):=by
 show(oq sz (x.ev t) (optNN t lo) (optNN t hi) (optNN t mx)).val=(oq sz (x.ev t) (optNN .e _) (optNN .e _) (optNN .e _)).val
 rw[oa,oa,oa]
theorem Mn(b o n c:Nat):Y7 b o n c= .v (.l b o n c):=by unfold Y7;rw[bp,bp,bp]
theorem uZ(b o n el kn:Nat):Y8 b o n el kn= .v (.u b o n el kn):=by unfold Y8;rw[bp,bp,bp]
theorem LH{es:List (List V)}{sz lo hi:Nat}(h0:∀e∈es,e.length=sz)(h1:lo≤hi)(h2:hi≤es.length):((es.take hi).drop lo).flatten=(es.flatten.drop (lo*sz)).take ((hi-lo)*sz):=by
 have key:∀(es:List (List V)) (k:Nat),(∀e∈es,e.length=sz)→(es.take k).flatten=es.flatten.take (k*sz)∧(es.drop k).flatten=es.flatten.drop (k*sz):=by
  intro es
  induction es with
  |nil=>intro k _;simp
  |cons e es ih=>
   intro k h;cases k with
   |zero=>simp
   |succ k=>
    obtain⟨a,b⟩:=ih k fun x hx=>h x (br _ hx);have he:=h e (bJ ..);constructor
    ·rw[List.take_succ_cons,List.flatten_cons,List.flatten_cons,a,show(k+1)*sz=e.length+k*sz by rw[Nat.add_mul,he];omega,List.take_length_add_append]
    ·rw[List.drop_succ_cons,List.flatten_cons,b,show(k+1)*sz=e.length+k*sz by rw[Nat.add_mul,he];omega,List.drop_length_add_append]
 have ht:∀e∈es.take hi,e.length=sz:=fun e he=>h0 e (List.mem_of_mem_take he)
 rw[(key (es.take hi) lo ht).2,(key es hi h0).1,List.drop_take,Nat.sub_mul]
theorem Nm{M:Mem}{c sz:Nat}{v:V}{es:List (List V)}{lo hi:Nat}(h:cB F M c sz v es)(h1:lo≤hi)(h2:hi≤es.length):
 ∃v',(pJ sz v (some lo) (some hi) none= .v v'∧(lo=0→pJ sz v none (some hi) none= .v v')∧(hi=es.length→pJ sz v (some lo) none none= .v v')∧(lo=0→hi=es.length→pJ sz v none none none= .v v'))∧cB F M c sz v' ((es.take hi).drop lo):=by
 have hs:∀e∈(es.take hi).drop lo,e.length=sz:=fun e he=>h.1 e (List.mem_of_mem_take (List.mem_of_mem_drop he))
 have hl:((es.take hi).drop lo).length=hi-lo:=by simp;omega
 rcases h with⟨h0,⟨rfl,rfl|⟨b,o0,o,rfl⟩⟩|⟨b,o,hv,hb,hc⟩⟩
 ·obtain rfl:hi=0:=by simpa using h2
  obtain rfl:lo=0:=by omega
  exact⟨.l0,⟨rfl,fun _=>rfl,fun _=>rfl,fun _ _=>rfl⟩,hs,.inl ⟨rfl,.inl rfl⟩⟩
 ·obtain rfl:hi=0:=by simpa using h2
  obtain rfl:lo=0:=by omega
  exact⟨.ue b o0 o,⟨rfl,fun _=>rfl,fun _=>rfl,fun _ _=>rfl⟩,hs,.inl ⟨rfl,.inr ⟨b,o0,o,rfl⟩⟩⟩
 ·have hfl:=ey h0;have hcs:cM F M b (o+lo*sz) ((es.take hi).drop lo).flatten:=by
   rw[LH h0 h1 h2];refine hc.sub _ _ ?_;rw[hfl,←Nat.add_mul];exact Nat.mul_le_mul_right _ (by omega)
  rcases hv with⟨cap,hcap,rfl⟩|⟨el,kn,hkn,rfl⟩
  ·have e:tT sz b o cap lo hi cap= .v (.l b (if cap=lo then o else o+lo*sz) (hi-lo) (cap-lo)):=by
    unfold tT;rw[bW,bW,bW,bI,aj (ah cap),aj (show hi≤cap by omega),aj h1];show Y7 b (bif decide (cap=lo)then o else o+lo*sz) (hi-lo) (cap-lo)=_;rw[Mn];by_cases hh:cap=lo
    ·rw[aj hh,ac hh];rfl
    ·rw[ak hh,ab hh];rfl
   refine⟨_,⟨e,fun hh=>?_,fun hh=>?_,fun hh hh2=>?_⟩,hs,.inr ⟨b,if cap=lo then o else o+lo*sz,.inl ⟨cap-lo,by rw[hl];omega,by rw[hl]⟩,hb,?_⟩⟩
   ·subst hh;exact e
   ·subst hh;exact e
   ·subst hh hh2;exact e
   ·by_cases hh:cap=lo
    ·rw[ac hh];have:(es.take hi).drop lo=[]:=List.eq_nil_of_length_eq_zero (by omega);rw[this];intro k hk;simp at hk
    ·rw[ab hh];exact hcs
  ·by_cases hz:lo=0
   ·subst hz;have e:lI sz b o el kn 0 hi= .v (.u b o hi el kn):=by
     unfold lI;rw[bW,bW,aj (show Nat.add el hi≤kn by show el+hi≤kn;omega),aj (az hi)];exact uZ _ _ _ _ _
    refine⟨_,⟨e,fun _=>e,fun hh=>?_,fun _ hh=>?_⟩,hs,.inr ⟨b,o,.inr ⟨el,kn,by rw[hl];omega,by rw[hl];rfl⟩,hb,by simpa using hcs⟩⟩
    ·subst hh;exact e
    ·subst hh;exact e
   ·by_cases hh:el+lo<kn
    ·have e:lI sz b o el kn lo hi= .v (.u b (o+lo*sz) (hi-lo) (el+lo) kn):=by
      unfold lI;rw[bW,bW,bI,fu,aj (show Nat.add el hi≤kn by show el+hi≤kn;omega),aj h1,ak hz,aj (show Nat.add el lo<kn from hh)];exact uZ _ _ _ _ _
     refine⟨_,⟨e,fun h=>absurd h hz,fun hh=>?_,fun h _=>absurd h hz⟩,hs,.inr ⟨b,o+lo*sz,.inr ⟨el+lo,kn,by rw[hl];omega,by rw[hl]⟩,hb,hcs⟩⟩;subst hh;exact e
    ·have e:lI sz b o el kn lo hi= .v (.ue b o (o+lo*sz)):=by
      unfold lI;rw[bW,bW,bI,fu,aj (show Nat.add el hi≤kn by show el+hi≤kn;omega),aj h1,ak hz,ak (show¬Nat.add el lo<kn from hh)];show fN (o+lo*sz) (fun o'=>QR.v (.ue b o o'))=_;rw[bp]
     have hnil:(es.take hi).drop lo=[]:=List.eq_nil_of_length_eq_zero (by omega);refine⟨_,⟨e,fun h=>absurd h hz,fun hh=>?_,fun h _=>absurd h hz⟩,hs,.inl ⟨hnil,.inr ⟨b,o,_,rfl⟩⟩⟩;subst hh;exact e
theorem Rz{M:Mem}{c sz:Nat}{v:V}{es:List (List V)}{lo hi:Nat}(h:cB F M c sz v es)(h1:lo≤hi)(h2:hi≤es.length):
 ∃v',(∀k k',sJ sz v (some (.i k (lo:Int))) (some (.i k' (hi:Int))) none=some v')∧(lo=0→ ∀k',sJ sz v none (some (.i k' (hi:Int))) none=some v')∧(hi=es.length→ ∀k,sJ sz v (some (.i k (lo:Int))) none none=some v')∧(lo=0→hi=es.length→sJ sz v none none none=some v')∧cB F M c sz v' ((es.take hi).drop lo):=by
 obtain⟨v',⟨e1,e2,e3,e4⟩,hs⟩:=Nm h h1 h2
 refine⟨v',fun k k'=>?_,fun h0 k'=>?_,fun h0 k=>?_,fun h0 h0'=>?_,hs⟩
 ·show(pJ sz v (some lo) (some hi) none).val=_;rw[e1];rfl
 ·show(pJ sz v none (some hi) none).val=_;rw[e2 h0];rfl
 ·show(pJ sz v (some lo) none none).val=_;rw[e3 h0];rfl
 ·show(pJ sz v none none none).val=_;rw[e4 h0 h0'];rfl
def qC(F:RO)(M:Mem)(c ty sz bytes:Nat)(x y:V):RC:=lT F M c ty sz bytes x (eB F M sz y)
theorem Oq(ty sz bytes:Nat)(x y:X)(M:Mem)(c:Nat)(t:T):ew (.app ty sz bytes x y) (K Φ rd fn F) M c t=qC F M c ty sz bytes (x.ev t) (y.ev t):=rfl
theorem j5{M0 M:Mem}{c0 c b ty sz bytes:Nat}{v y:V}{es ns:List (List V)}(h:bm M c0 c b ty sz v es)(hg:Gr c0 M0 c M)(hsz:0<sz)(hy:cB F M c sz y ns)(h1:aE ns.flatten=true)(hr:kr (es.length+ns.length) bytes=true):
 nF (qC F M c ty sz bytes v y) fun v' M' c'=>∃b',bm M' c0 c' b' ty sz v' (es++ns)∧Gr c0 M0 c' M'∧c≤c'∧(∀x,x<c→x≠b→M'.get x=M.get x)∧(b'=b∨c≤b'):=by
 unfold qC
 rw[xX hsz hy]
 exact GC h hg hsz hy.1 h1 hr
theorem eG(l:List UInt8):(l.map fun x=>[bV x]).flatten=l.map bV:=by
 induction l with
 |nil=>rfl
 |cons a l ih=>rw[List.map_cons,List.flatten_cons,ih];rfl
theorem DW(l:List UInt8):aE (l.map fun x=>[bV x]).flatten=true:=by rw[eG];exact fZ l
theorem GB{M0 M:Mem}{c0 c b ty bytes:Nat}{v:V}{l:List UInt8}{es:List (List V)}(h:bm M c0 c b ty 1 v es)(hg:Gr c0 M0 c M)(hr:kr (es.length+l.length) bytes=true):
 nF (qC F M c ty 1 bytes v (sV l)) fun v' M' c'=>∃b',bm M' c0 c' b' ty 1 v' (es++l.map fun x=>[bV x])∧Gr c0 M0 c' M'∧c≤c'∧(∀x,x<c→x≠b→M'.get x=M.get x)∧(b'=b∨c≤b'):=by
 unfold qC
 rw[D4]
 have:=GC (F:=F) (bytes:=bytes) (ns:=l.map fun x=>[bV x]) h hg Nat.one_pos (by intro e he;obtain⟨x,_,rfl⟩:=List.mem_map.1 he;rfl)
  (DW l) (by rw[List.length_map];exact hr)
 rw[List.length_map,eG]at this
 exact this
def bsV(F:RO)(M:Mem)(x:V):Option V:=(cE (.bs (.c x)) F M .e).val
theorem bq4(x:X)(M:Mem)(t:T):(cE (.bs x) F M t).val=bsV F M (x.ev t):=Eq.trans rfl (Eq.refl _)
theorem KT{M:Mem}{c:Nat}{v:V}{l:List UInt8}(h:SlB F M c v l):bsV F M v=some (sV l):=by
 have hl:=Ci h
 obtain⟨r,hr⟩:=xK Nat.one_pos h
 rw[List.length_map]at hl hr
 rw[eG]at hr
 have e:cE (.bs (.c v)) F M .e=Cy F M v (mU v):=by
  show(match v with| .s _ _=>QR.f|v=>Cy F M v (mU v))=_;rcases h with⟨_,⟨_,rfl|⟨b,o0,o,rfl⟩⟩|⟨b,o,⟨cap,_,rfl⟩|⟨el,kn,_,rfl⟩,_⟩⟩<;>rfl
 unfold bsV
 rw[e,hl]
 show(match readL F M 1 l.length v with|some (vs,b)=>Cz b (fw vs)|none=>QR.f).val=_
 rw[hr]
 show(Cz r (fw (l.map bV))).val=_
 rw[qH]
 show(fN l.length fun n=>fN (bT l) fun s=>match r with|some b=>QR.r (.s n s) b|none=> .v (.s n s)).val=_
 rw[bp,bp]
 cases r<;>rfl
def bK(d:List V)(ty:Nat)(row:List V):bw:= .cells ty row.length true 0 false d (gm row)
theorem Ee(d l:List V)(i:Nat)(h:i<l.length):cell l.length d (gm l) i=l[i]?:=by
 rw[cw,ac h]
 unfold gm
 rw[cN,ac (by omega)]
 simp only[Nat.sub_zero]
 rw[List.getElem?_eq_getElem h]
theorem CW{M:Mem}{b ty:Nat}{d row:List V}(h:M.get b=some (bK d ty row)):gE F M b row:=
 ⟨ty,true,0,false,d,gm row,au h,fun i hi=>Ee d row i hi⟩
theorem Nl{M:Mem}{b c ty sz n:Nat}{d:List V}{es:List (List V)}(h:M.get b=some (bK d ty es.flatten))(hb:b<c)(h0:∀e∈es,e.length=sz)(hn:es.length=n):cB F M c sz (.l b 0 n n) es:=by
 subst hn
 exact⟨h0,.inr ⟨b,0,.inl ⟨_,ah _,rfl⟩,hb,(CW h).cells⟩⟩
def uM(t:T):List (Nat×X)→List (Nat×List V)
 |[]=>[]
 |(o,x)::r=>(o,flatten (x.ev t))::uM t r
theorem LA(t:T):uM t []=[]:=rfl
theorem nX(t:T)(o:Nat)(x:X)(r:List (Nat×X)):uM t ((o,x)::r)=(o,flatten (x.ev t))::uM t r:=rfl
def je(sz:Nat):Nat→List (Nat×List V)→Option (List V)
 |_,[]=>some []
 |o,(k,vs)::r=>if k=o∧vs.length=sz∧aE vs=true then(je sz (o+sz) r).map (vs++ ·)else none
theorem At(sz o:Nat):je sz o []=some []:=rfl
theorem ki(sz o k:Nat)(vs:List V)(r:List (Nat×List V)):je sz o ((k,vs)::r)=if k=o∧vs.length=sz∧aE vs=true then(je sz (o+sz) r).map (vs++ ·)else none:=rfl
theorem kc:∀(a b:List V) (k:Nat) (t:T),bG b (k+a.length) (bG a k t)=bG (a++b) k t
 |[],b,k,t=>rfl
 |x::a,b,k,t=>by
  rw[List.cons_append,cK,cK,aw,show k+(a.length+1)=(k+1)+a.length by omega,kc a b]
theorem wN{sz m:Nat}{t:T}:∀{parts:List (Nat×X)} {pre row:List V},je sz pre.length (uM t parts)=some row→pre.length+row.length≤m→fillP sz m t parts (bG pre 0 .e)=some (bG (pre++row) 0 .e)
 |[],pre,row,h,hm=>by
  obtain rfl:[]=row:=ae h;rw[bP];rfl
 |(o,x)::r,pre,row,h,hm=>by
  rw[nX,ki]at h;split at h
  ·rename_i hc;obtain⟨rfl,h1,h2⟩:=hc;rw[bf]at h;obtain⟨row',h3,rfl⟩:=h;rw[aO]at hm;show(bif Nat.beq (flatten (x.ev t)).length sz&&Nat.ble (Nat.add pre.length sz) m&&aE (flatten (x.ev t))then(bG (flatten (x.ev t)) pre.length (bG pre 0 .e)).force fun t'=>fillP sz m t r t' else none)=_;rw[bI,bW,h2,aj h1,aj (show Nat.add pre.length sz≤m by show pre.length+sz≤m;omega)];show(bG (flatten (x.ev t)) pre.length (bG pre 0 .e)).force (fun t'=>fillP sz m t r t')=_;rw[Tr.force_eq];have hs:=kc pre (flatten (x.ev t)) 0 .e;rw[Nat.zero_add]at hs;rw[hs];have:=wN (m:=m) (parts:=r) (pre:=pre++flatten (x.ev t)) (row:=row') (by rw[aO,h1];exact h3) (by rw[aO];omega);rw[this,bM]
  ·cases h
theorem rg{sz:Nat}:∀{ps:List (Nat×List V)} {o:Nat} {row:List V},je sz o ps=some row→row.length=ps.length*sz∧aE row=true
 |[],o,row,h=>by
  obtain rfl:[]=row:=ae h;simp;rfl
 |(k,vs)::r,o,row,h=>by
  rw[ki]at h;split at h
  ·rename_i hc;rw[bf]at h;obtain⟨row',h3,rfl⟩:=h;obtain⟨h4,h5⟩:=rg h3;refine⟨by rw[aO,h4,hc.2.1,aw,Nat.add_mul];omega,?_⟩;have key:∀(a b:List V),aE a=true→aE b=true→aE (a++b)=true:=by
    intro a
    induction a with
    |nil=>intro b _ h;exact h
    |cons x a ih=>
     intro b ha hb;rw[aD,aX]at ha;rw[List.cons_append,aD,ha.1,ih b ha.2 hb];rfl
   exact key _ _ hc.2.2 h5
  ·cases h
def aO6(ty n:Nat)(zero:List V)(b:Nat):Option (List V)→Option (V×bw)
 |some row=>some (.l b 0 n n,bK zero ty row)
 |none=>none
def bh0(ty n sz:Nat)(zero:List V)(parts:List (Nat×X))(b:Nat)(t:T):Option (V×bw):=iE (.bsl ty n sz zero parts) b t
theorem wL(t:T):∀ps:List (Nat×X),(uM t ps).length=ps.length
 |[]=>rfl
 |(o,x)::r=>by rw[nX,aw,aw,wL t r]
theorem Gv(ty n sz:Nat)(zero:List V)(parts:List (Nat×X))(b:Nat)(t:T)(hn:parts.length=n){row:List V}(h:je sz 0 (uM t parts)=some row):
 iE (.bsl ty n sz zero parts) b t=some (.l b 0 n n,bK zero ty row):=by
 subst hn
 have hl:=(rg h).1
 rw[wL]at hl
 have:=wN (m:=parts.length*sz) (pre:=[]) h (by simp[hl])
 rw[List.nil_append]at this
 show(match fillP sz (parts.length*sz) t parts .e with|some c=>fN (parts.length*sz) fun m=>some (V.l b 0 parts.length parts.length,bw.cells ty m true 0 false zero c)|none=>none)=_
 rw[show fillP sz (parts.length*sz) t parts .e=some (bG row 0 .e)from this]
 show fN (parts.length*sz) (fun m=>some (V.l b 0 parts.length parts.length,bw.cells ty m true 0 false zero (bG row 0 .e)))=_
 rw[bp,←hl];rfl
theorem PD(ty n sz:Nat)(zero:List V)(parts:List (Nat×X))(b:Nat)(t:T):iE (.bsl ty n sz zero parts) b t=if parts.length=n∧(je sz 0 (uM t parts)).isSome=true then aO6 ty n zero b (je sz 0 (uM t parts))else bh0 ty n sz zero parts b t:=by
 split
 ·rename_i h;obtain⟨row,hr⟩:=bz.1 h.2;rw[hr];exact Gv ty n sz zero parts b t h.1 hr
 ·rfl
theorem E9(ty n:Nat)(zero:List V)(b:Nat)(row:List V):aO6 ty n zero b (some row)=some (.l b 0 n n,bK zero ty row):=rfl
def uX(L:List BE):RO→List V→Mem→Nat→RC:=fun F args M ct=>match args with|[]=>bif fi F L then .k (.b true) M ct else .f|_=> .f
theorem Ae{L:List BE}(h:fi F L=true)(M:Mem)(c:Nat):uX L F [] M c= .k (.b true) M c:=by
 show(bif fi F L then RC.k (.b true) M c else .f)=_
 rw[h];rfl
end
def yi(C:Nat):Value→Option V
 | .bool x=>some (.b x)
 | .int k n=>some (.i k n)
 | .string s=>some (sV s.data.toList)
 | .pointer none=>some .p0
 | .slice none 0 0=>some .l0
 | .slice (some a) n c=>if a.spot=none∧a.block<C then some (.l a.block a.off n c)else if n=0∧c=0∧wn a<C then some (.ue (wn a) 1 0)else none
 | .iface t (.pointer (some ⟨r,o,none⟩))=>if r<C then some (.a t (.p r o))else none
 |_=>none
theorem Q8(E:cG)(s:ByteArray):conc E (sV s.data.toList)= .string s:=by
 show Value.string (ba s.data.toList.length (bT s.data.toList))=_
 unfold ba
 rw[jr]
theorem rU{C:Nat}{x:Value}{v:V}(h:yi C x=some v):conc E0 v=x∧bd (· <C) v:=by
 unfold yi at h
 split at h
 ·obtain rfl:=ae h;exact⟨rfl,trivial⟩
 ·obtain rfl:=ae h;exact⟨rfl,trivial⟩
 ·obtain rfl:=ae h;exact⟨Q8 _ _,trivial⟩
 ·obtain rfl:=ae h;exact⟨rfl,trivial⟩
 ·obtain rfl:=ae h;exact⟨rfl,trivial⟩
 ·rename_i a n c;split at h
  ·rename_i hr;obtain⟨b,o,sp⟩:=a;obtain⟨h1,hr⟩:=hr;have h1:sp=none:=h1;subst h1;obtain rfl:=ae h;refine⟨?_,hr⟩;show Value.slice (some ⟨b,0+o,none⟩) n c=_;rw[Nat.zero_add]
  ·split at h
   ·rename_i hr;obtain⟨rfl,rfl,hr⟩:=hr;obtain rfl:=ae h;refine⟨?_,hr⟩;show Value.slice (some (if(0:Nat)=0 then(if(0:Nat)<1 then adD (wn a)else _)else _)) 0 0=_;rw[ac rfl,ac (by decide),aM6]
   ·cases h
 ·rename_i t r o;split at h
  ·rename_i hr;obtain rfl:=ae h;refine⟨?_,hr⟩;show Value.iface t (.pointer (some ⟨r,0+o,none⟩))=_;rw[Nat.zero_add]
  ·cases h
 ·cases h
def mZ:List (Option V)→Nat→T→T
 |[],_,t=>t
 |none::r,k,t=>mZ r (k+1) t
 |some v::r,k,t=>mZ r (k+1) (t.set k v)
theorem oc:∀(l:List (Option V)) (k:Nat) (t:T) (j:Nat),(mZ l k t).get j=if k≤j∧j<k+l.length then(match l[j-k]? with|some (some v)=>some v|_=>t.get j)else t.get j
 |[],k,t,j=>by
  rw[ab (by simp;try omega)];rfl
 |none::r,k,t,j=>by
  show(mZ r (k+1) t).get j=_;rw[oc r (k+1) t j];simp only[aw];by_cases h0:j=k
  ·subst h0;rw[ab (by omega),ac (by omega)];simp
  ·by_cases h1:k≤j∧j<k+(r.length+1)
   ·rw[ac (by omega),ac h1,show j-k=(j-(k+1))+1 by omega,List.getElem?_cons_succ]
   ·rw[ab (by omega),ab h1]
 |some v::r,k,t,j=>by
  show(mZ r (k+1) (t.set k v)).get j=_;rw[oc r (k+1) (t.set k v) j,Tr.get_set];simp only[aw];by_cases h0:j=k
  ·subst h0;rw[ab (by omega),ac rfl,ac (by omega)];simp
  ·rw[ab h0];by_cases h1:k≤j∧j<k+(r.length+1)
   ·rw[ac (by omega),ac h1,show j-k=(j-(k+1))+1 by omega,List.getElem?_cons_succ]
   ·rw[ab (by omega),ab h1]
def oP(C:Nat):Obj→Option bw
 | .cells arr ty _=>some (.cells ty arr.size false arr.size true [] (mZ (arr.toList.map (yi C)) 0 .e))
 |_=>none
def lB(C:Nat):List Obj→Nat→RO
 |[],_=>[]
 |o::r,k=>match oP C o with
  |some x=>(k,x)::lB C r (k+1)
  |none=>lB C r (k+1)
theorem tu(C:Nat):∀(l:List Obj) (k j:Nat),bq (lB C l k) j=if k≤j then(l[j-k]?).bind (oP C)else none
 |[],k,j=>by
  show none=_;split<;>simp
 |o::r,k,j=>by
  have ih:=tu C r (k+1) j;unfold lB;by_cases h0:j=k
  ·subst h0;rw[ab (by omega)]at ih;rw[ac (ah _),Nat.sub_self,List.getElem?_cons_zero];show _=oP C o;cases hb:oP C o with
   |none=>exact ih
   |some x=>
    show bq ((j,x)::lB C r (j+1)) j=some x;rw[cj,ac rfl]
  ·have e:bq (match oP C o with|some x=>(k,x)::lB C r (k+1)|none=>lB C r (k+1)) j=bq (lB C r (k+1)) j:=by
    cases oP C o with
    |none=>rfl
    |some x=>
     show bq ((k,x)::lB C r (k+1)) j=_;rw[cj,ab (fun e=>h0 e.symm)]
   rw[e,ih];by_cases h1:k≤j
   ·rw[ac (by omega),ac h1,show j-k=(j-(k+1))+1 by omega,List.getElem?_cons_succ]
   ·rw[ab (by omega),ab h1]
def dR(W:World)(C:Nat):RO:=lB C W.heap.toList 0
theorem kR(W:World)(C j:Nat):bq (dR W C) j=(W.heap[j]?).bind (oP C):=by
 unfold dR
 rw[tu,ac (az _),Nat.sub_zero,Array.getElem?_toList]
theorem kS{C ty:Nat}{arr:Array Value}{k:Nat}{v:V}:cell arr.size [] (mZ (arr.toList.map (yi C)) 0 .e) k=some v↔ ∃x,arr[k]?=some x∧yi C x=some v:=by
 rw[cw]
 by_cases h:k<arr.size
 ·rw[ac h,oc,ac (by simpa using h)];simp only[Nat.sub_zero,List.getElem?_map,Array.getElem?_toList,Array.getElem?_eq_getElem h,Option.map_some];show(match (match some (yi C arr[k])with|some (some v)=>some v|_=>(Tr.e:T).get k)with|some v=>some v|none=>([]:List V)[k%([]:List V).length]?)=some v↔_;constructor
  ·intro hv;refine⟨arr[k],rfl,?_⟩;cases hx:yi C arr[k]with
   |none=>rw[hx]at hv;simp[Tr.get_e]at hv
   |some y=>rw[hx]at hv;simpa using hv
  ·rintro⟨x,hx,hv⟩;obtain rfl:=ae hx;rw[hv]
 ·rw[ab h];constructor
  ·intro hh;cases hh
  ·rintro⟨x,hx,_⟩;rw[Array.getElem?_eq_none (by omega)]at hx;cases hx
theorem LN{P:Program}{W:World}{C:Nat}(hC:W.heap.size≤C):jx P E0 (dR W C) .e (· <C) W:=by
 refine⟨?_,fun b b' _ _ e=>e,fun b _=>rfl⟩
 intro b blk hb
 rw[aT (show(Tr.e:Mem).get b=none from rfl),kR]at hb
 cases ho:W.heap[b]? with
 |none=>rw[ho]at hb;cases hb
 |some o=>
  rw[ho]at hb;have hb':oP C o=some blk:=hb;have hlt:b<C:=Nat.lt_of_lt_of_le (Array.getElem?_eq_some_iff.1 ho).1 hC;cases o with
  |cells arr ty fr=>
   obtain rfl:=ae hb';refine⟨hlt,?_,_,ho,arr,fr,rfl,?_,?_,?_,?_⟩
   ·intro k v hk;obtain⟨x,_,hv⟩:=(kS (ty:=ty)).1 hk;exact(rU hv).2
   ·intro k v hk;obtain⟨x,hx,hv⟩:=(kS (ty:=ty)).1 hk;show arr[0+k]?=_;rw[Nat.zero_add,hx,(rU hv).1]
   ·show arr.size=0+arr.size+0*_;simp
   ·intro o h1 h2;have h1':0+arr.size≤o:=h1;omega
   ·intro h;cases h
  |_=>cases hb'
theorem EF{W:World}{C r o:Nat}{x:Value}{v:V}(h:W.cell? ⟨r,o,none⟩=some x)(hv:yi C x=some v):load1 (dR W C) .e r o=some v:=by
 unfold World.cell? at h
 split at h
 ·rename_i cs ty fr hh;have h':cs[o]?=some x:=h;unfold Ev.load1;rw[aT (show(Tr.e:Mem).get r=none from rfl),kR];have hh':W.heap[r]?=some (.cells cs ty fr):=hh;rw[hh'];exact(kS (ty:=ty)).2 ⟨x,h',hv⟩
 ·cases h
theorem tw{W:World}{C:Nat}:∀{L:List BE},(∀t∈L,t.1<1000∧sO W t)→fi (dR W C) L=true
 |[],_=>rfl
 |t::r,h=>by
  show(Nat.blt t.1 1000&&(pj (dR W C) t&&fi (dR W C) r))=true;rw[tw fun t ht=>h t (br _ ht),fu,aj (h t (bJ ..)).1];obtain⟨_,ty,fr,hh⟩:=h t (bJ ..);have hi:pj (dR W C) t=true:=by
   unfold pj;rw[kR,hh];show(Nat.beq (t.2.2.map fun z=>Value.int t.2.1 z).toArray.size (t.2.2.map fun z=>Value.int t.2.1 z).toArray.size&&gW _ [] _ t.2.1 t.2.2 0)=true;rw[Nat.beq_refl,Bool.true_and]
   have key:∀(zs:List Int) (i:Nat),i+zs.length=t.2.2.length→(∀j,zs[j]?=t.2.2[i+j]?)→
    gW (t.2.2.map fun z=>Value.int t.2.1 z).toArray.size [] (mZ ((t.2.2.map fun z=>Value.int t.2.1 z).toArray.toList.map (yi C)) 0 .e) t.2.1 zs i=true:=by
    intro zs
    induction zs with
    |nil=>
     intro i hi _;show Nat.beq i _=true;simp only[aL]at hi;rw[bI];simp;omega
    |cons z zs ih=>
     intro i hi hz;have h0:=hz 0;simp only[List.getElem?_cons_zero,aW]at h0
     have hc:cell (t.2.2.map fun z=>Value.int t.2.1 z).toArray.size [] (mZ ((t.2.2.map fun z=>Value.int t.2.1 z).toArray.toList.map (yi C)) 0 .e) i=some (.i t.2.1 z):=
      (kS (ty:=ty)).2 ⟨.int t.2.1 z,by simp[←h0],rfl⟩
     unfold gW;rw[hc];show(Bc t.2.1 z (.i t.2.1 z)&&_)=true;rw[ih (i+1) (by simp at hi;omega) fun j=>by have:=hz (j+1);rw[List.getElem?_cons_succ]at this;rw[this];congr 1;omega];show(fX t.2.1 t.2.1&&Em z z&&true)=true;rw[e9,cS];simp
   exact key t.2.2 0 (by omega) (fun j=>by rw[Nat.zero_add])
  rw[hi];rfl
theorem ae5{P:Program}(hm:P.follows .mixedOrders=true){Φ:Nat→Option CF}(hΦ:en P Φ){f:Nat}{W:World}{C:Nat}{args:List V}(hC:W.heap.size≤C)(hk:1000≤C)(ha:eU (· <C) args)
 (h:Ev.Calls Φ (dR W C) f args .e C fun v _ _=>v= .b true):Go.Calls P f (aB E0 args).toArray W fun e W'=>e= .returned (.bool true)∧(∀may,W.keptBut W' may)∧ ∀i,i<W.heap.size→W'.heap[i]?=W.heap[i]?:=by
 obtain⟨v,M',c',hc,rfl⟩:=h
 obtain⟨fn,h1,h2,h3,hC⟩:=gu (rd:=none) (fn:=0) (F₀:=[]) hΦ (Li hm hΦ) (dR W C) f args .e C (.b true) M' c' hc E0 (· <C) W (LN hC) (fun g _=>⟨rfl,rfl⟩) (fun g hg=>Nat.lt_of_lt_of_le hg hk) (fun b hb hc=>Nat.lt_irrefl _ (Nat.lt_of_lt_of_le hc hb)) ha
 refine hC.mono ?_
 rintro e W' ⟨E',c',rfl,hS,_,_⟩
 exact⟨rfl,fun may=>QI hS may,fun i hi=>hS.frame i hi (fun b hb=>by cases hb)⟩
end
end Go.Proofs.YtmbpllipombieaaDoor.Ev
