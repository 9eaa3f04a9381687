/- What is proved here: pieces of the evaluator's soundness: if the evaluator comes to a value, the model's run comes to it, for every world and tape; no conditions beyond the hypotheses of each theorem. -/
import Derived.Test.YtmbpllipombieaaDoorEv2
import Derived.Lib.LaidTab
import GoSem.ClaimJoined
set_option linter.unusedSimpArgs false
set_option linter.unusedVariables false
set_option linter.defProp false
namespace Go.Proofs.YtmbpllipombieaaDoor.Ev
open Go
noncomputable section
def LR(a b:Rs):Prop:=a= .f∨a=b
def LC(a b:RC):Prop:=a= .f∨a=b
def LO{α:Type}(a b:Option α):Prop:=a=none∨a=b
def iW(ex ex':uH):Prop:=∀rd fn F c s,LR (ex rd fn F c s) (ex' rd fn F c s)
section
variable{Φ:Nat→Option CF}{ex ex':uH}{rd:Option Nat}{fn:Nat}{F:RO}
theorem QX(h:iW ex ex')(F:RO)(f:Nat)(args:List V)(M:Mem)(c:Nat)(o:Option CF):LC (cT ex F f args M c o) (cT ex' F f args M c o):=by
 cases o with
 |none=>exact .inl rfl
 |some cf=>
  cases cf with
  |orc g=>exact .inr rfl
  |mk n res body=>
   show LC (lU res F (ex none f F body (.mk (bz n args) [] M c))) (lU res F (ex' none f F body (.mk (bz n args) [] M c)));rcases h none f F body (.mk (bz n args) [] M c)with e|e
   ·rw[e];exact .inl rfl
   ·rw[e];exact .inr rfl
theorem sY(h:iW ex ex')(f:Nat)(args:List V)(M:Mem)(c:Nat):LC (kS (.mk Φ ex rd fn F) f args M c) (kS (.mk Φ ex' rd fn F) f args M c):=QX h F f args M c _
theorem IJ(h:iW ex ex')(l fn':Nat)(body:CC)(t:T)(M:Mem)(c:Nat)(lp:Lp):LC (qE (.mk Φ ex rd fn F) l fn' body t M c lp) (qE (.mk Φ ex' rd fn F) l fn' body t M c lp):=by
 cases lp with
 |f=>exact .inl rfl
 |k s pe fn2 tm ps a b d=>
  cases s with
  |ready=>
   show LC ((M.set l (.loop .busy pe fn2 tm ps a b d)).force fun M=>mL l (ex (some l) fn' F body (.mk t [] M c))) ((M.set l (.loop .busy pe fn2 tm ps a b d)).force fun M=>mL l (ex' (some l) fn' F body (.mk t [] M c)));rw[Tr.force_eq,Tr.force_eq];rcases h (some l) fn' F body (.mk t [] (M.set l (.loop .busy pe fn2 tm ps a b d)) c)with e|e
   ·rw[e];exact .inl rfl
   ·rw[e];exact .inr rfl
  |_=>exact .inl rfl
theorem V9(h:iW ex ex')(l fn':Nat)(body:CC)(r:Rs):LC (mK (.mk Φ ex rd fn F) l fn' body r) (mK (.mk Φ ex' rd fn F) l fn' body r):=by
 cases r with
 |f=>exact .inl rfl
 |k e s=>
  cases e with
  |nrm=>
   obtain⟨t,d,M,c⟩:=s;cases d with
   |nil=>exact IJ (Φ:=Φ) (rd:=rd) (fn:=fn) h l fn' body t M c _
   |cons _ _=>exact .inl rfl
  |_=>exact .inl rfl
theorem Yb(h:iW ex ex')(l fn':Nat)(asg body:CC)(M:Mem)(c:Nat)(o:Option T):LC (EI (.mk Φ ex rd fn F) l fn' asg body M c o) (EI (.mk Φ ex' rd fn F) l fn' asg body M c o):=by
 cases o with
 |none=>exact .inl rfl
 |some t=>
  show LC (mK (.mk Φ ex rd fn F) l fn' body (ex (some l) fn' F asg (.mk t [] M c))) (mK (.mk Φ ex' rd fn F) l fn' body (ex' (some l) fn' F asg (.mk t [] M c)));rcases h (some l) fn' F asg (.mk t [] M c)with e|e
  ·rw[e];exact .inl rfl
  ·rw[e];exact V9 h l fn' body _
theorem R0(h:iW ex ex')(l:Nat)(args:List V)(M:Mem)(c:Nat)(lp:Lp):LC (qQ (.mk Φ ex rd fn F) l args M c lp) (qQ (.mk Φ ex' rd fn F) l args M c lp):=by
 cases lp with
 |f=>exact .inl rfl
 |k s pe fn2 tm ps a b d=>
  cases s with
  |ready=>exact Yb h l fn2 a b M c _
  |_=>exact .inl rfl
theorem QZ(h:iW ex ex')(v:V)(args:List V)(M:Mem)(c:Nat):LC (oI (.mk Φ ex rd fn F) v args M c) (oI (.mk Φ ex' rd fn F) v args M c):=by
 cases v with
 |f g a b=>exact sY (Φ:=Φ) (rd:=rd) (fn:=fn) h g _ M c
 |y l=>exact R0 h l args M c _
 |_=>exact .inl rfl
theorem QY(h:iW ex ex')(v:V)(args:List V)(M:Mem)(c:Nat):LC (lO (.mk Φ ex rd fn F) v args M c) (lO (.mk Φ ex' rd fn F) v args M c):=by
 cases v with
 |f g a b=>exact sY (Φ:=Φ) (rd:=rd) (fn:=fn) h g _ M c
 |_=>exact .inl rfl
theorem Rd(h:iW ex ex')(o:EO)(M:Mem)(c:Nat)(t:T):LC (eU o (.mk Φ ex rd fn F) M c t) (eU o (.mk Φ ex' rd fn F) M c t):=by
 cases o with
 |call f as=>exact sY (Φ:=Φ) (rd:=rd) (fn:=fn) h f _ M c
 |cv f as=>exact QZ h _ _ M c
 |_=>exact .inr rfl
theorem Td(h:iW ex ex')(o:OK)(dst:Option aR)(t:T)(d:List Nat)(M:Mem)(c:Nat):LO (XQ o (.mk Φ ex rd fn F) dst t d M c) (XQ o (.mk Φ ex' rd fn F) dst t d M c):=by
 cases o with
 |q o=>exact .inr rfl
 |a o=>exact .inr rfl
 |e o=>
  show LO (vf dst t d (eU o (.mk Φ ex rd fn F) M c t)) (vf dst t d (eU o (.mk Φ ex' rd fn F) M c t));rcases Rd (Φ:=Φ) (rd:=rd) (fn:=fn) (F:=F) h o M c t with e|e
  ·rw[e];exact .inl rfl
  ·rw[e];exact .inr rfl
theorem SX(h:iW ex ex')(o:CO)(s:St):LO (dQ o (.mk Φ ex rd fn F) s) (dQ o (.mk Φ ex' rd fn F) s):=by
 obtain⟨dst,op,g⟩:=o
 obtain⟨t,d,M,c⟩:=s
 cases g with
 |none=>exact Td h op dst t d M c
 |some g=>
  show LO (s_w op (.mk Φ ex rd fn F) dst t d M c (wanted t (some g))) (s_w op (.mk Φ ex' rd fn F) dst t d M c (wanted t (some g)));cases wanted t (some g)with
  |false=>exact .inr rfl
  |true=>exact Td h op dst t d M c
theorem wA(h:iW ex ex'):∀(ops:List CO) (s:St),LO (d8 ops (.mk Φ ex rd fn F) s) (d8 ops (.mk Φ ex' rd fn F) s)
 |[],s=> .inr rfl
 |o::r,s=>by
  show LO (kH (d8 r) (.mk Φ ex rd fn F) (dQ o (.mk Φ ex rd fn F) s)) (kH (d8 r) (.mk Φ ex' rd fn F) (dQ o (.mk Φ ex' rd fn F) s));rcases SX (Φ:=Φ) (rd:=rd) (fn:=fn) (F:=F) h o s with e|e
  ·rw[e];exact .inl rfl
  ·rw[e];cases dQ o (.mk Φ ex' rd fn F) s with
   |none=>exact .inl rfl
   |some s1=>exact wA h r s1
theorem Wl(h:iW ex ex')(e:EO)(dst:Option aR)(t:T)(c:Nat)(pend:List (Nat×Nat×bJ))(reads:List (Nat×Nat))(p:Pr):
 LO (pO e (.mk Φ ex rd fn F) dst t c pend reads p) (pO e (.mk Φ ex' rd fn F) dst t c pend reads p):=by
 obtain⟨F',M,saved⟩:=p
 show LO (bif cq F' M pend then nj F' dst t pend reads saved (eU e (.mk Φ ex rd fn F') M c t)else none) (bif cq F' M pend then nj F' dst t pend reads saved (eU e (.mk Φ ex' rd fn F') M c t)else none)
 cases cq F' M pend with
 |false=>exact .inl rfl
 |true=>
  rcases Rd (Φ:=Φ) (rd:=rd) (fn:=fn) (F:=F') h e M c t with e|e
  ·rw[e];exact .inl rfl
  ·rw[e];exact .inr rfl
theorem aP6(h:iW ex ex')(base:Nat)(x:Nat×Nat×CO)(s:DS):LO (rG (.mk Φ ex rd fn F) base x s) (rG (.mk Φ ex' rd fn F) base x s):=by
 obtain⟨i,mask,dst,op,g⟩:=x
 obtain⟨t,M,c,pend,reads⟩:=s
 show LO (bif wanted t g then R8 (.mk Φ ex rd fn F) base i mask dst op t M c pend reads else _) (bif wanted t g then R8 (.mk Φ ex' rd fn F) base i mask dst op t M c pend reads else _)
 cases wanted t g with
 |false=>exact .inr rfl
 |true=>
  cases op with
  |q o=>exact .inr rfl
  |a o=>exact .inr rfl
  |e o=>
   show LO (uZ o (.mk Φ ex rd fn F) mask dst t c reads (eb mask pend M)) (uZ o (.mk Φ ex' rd fn F) mask dst t c reads (eb mask pend M));obtain⟨M1,p1⟩:=eb mask pend M;exact Wl h o dst t c p1 reads _
theorem Fb(h:iW ex ex')(base:Nat):∀(ops:List (Nat×Nat×CO)) (s:DS),LO (ie (.mk Φ ex rd fn F) base ops s) (ie (.mk Φ ex' rd fn F) base ops s)
 |[],s=> .inr rfl
 |o::r,s=>by
  rw[ie,ie];rcases aP6 (Φ:=Φ) (rd:=rd) (fn:=fn) (F:=F) h base o s with e|e
  ·rw[e];exact .inl rfl
  ·rw[e];cases rG (.mk Φ ex' rd fn F) base o s with
   |none=>exact .inl rfl
   |some s1=>exact Fb h base r s1
theorem zC(h:iW ex ex')(c:CC)(s:St):LR (oF (.mk Φ ex rd fn F) c s) (oF (.mk Φ ex' rd fn F) c s):=h rd fn F c s
theorem FV(h:iW ex ex')(f:X)(ps:List aR)(asg body:CC)(t:T)(d:List Nat)(M:Mem)(l dn:Nat):LR (o8 f ps asg body (.mk Φ ex rd fn F) t d M l dn) (o8 f ps asg body (.mk Φ ex' rd fn F) t d M l dn):=by
 show LR ((M.set l (.loop .ready .none fn t ps asg body dn)).force fun M=>fN (Nat.succ l) fun c=>mt t d l (lO (.mk Φ ex rd fn F) (f.ev t) [.y l] M c)) ((M.set l (.loop .ready .none fn t ps asg body dn)).force fun M=>fN (Nat.succ l) fun c=>mt t d l (lO (.mk Φ ex' rd fn F) (f.ev t) [.y l] M c))
 rw[Tr.force_eq,Tr.force_eq,bA,bA]
 rcases QY (Φ:=Φ) (rd:=rd) (fn:=fn) (F:=F) h (f.ev t) [.y l] (M.set l (.loop .ready .none fn t ps asg body dn)) (Nat.succ l)with e|e
 ·rw[e];exact .inl rfl
 ·rw[e];exact .inr rfl
theorem XF(h:iW ex ex')(f:X)(ps:List aR)(asg body:CC)(t:T)(d:List Nat)(M:Mem)(l:Nat)(lp:Lp):LR (Ij f ps asg body (.mk Φ ex rd fn F) t d M l lp) (Ij f ps asg body (.mk Φ ex' rd fn F) t d M l lp):=by
 cases lp with
 |f=>exact .inl rfl
 |k s pe fn2 tm ps' a b dn=>exact FV h f ps asg body t d M l dn
theorem A7(h:iW ex ex'):∀(c:CC) (s:St),LR (bg c (.mk Φ ex rd fn F) s) (bg c (.mk Φ ex' rd fn F) s):=by
 intro c
 induction c with
 |skip=>exact fun s=> .inr rfl
 |reg ops=>
  intro s;show LR (p6 (d8 ops (.mk Φ ex rd fn F) s)) (p6 (d8 ops (.mk Φ ex' rd fn F) s));rcases wA (Φ:=Φ) (rd:=rd) (fn:=fn) (F:=F) h ops s with e|e
  ·rw[e];exact .inl rfl
  ·rw[e];exact .inr rfl
 |dreg n ops=>
  intro s;obtain⟨t,d,M,c⟩:=s;show LR (fN (Nat.add c n) fun c'=>t8 d (ie (.mk Φ ex rd fn F) c ops (.mk t M c' [] []))) (fN (Nat.add c n) fun c'=>t8 d (ie (.mk Φ ex' rd fn F) c ops (.mk t M c' [] [])));rw[bA,bA];rcases Fb (Φ:=Φ) (rd:=rd) (fn:=fn) (F:=F) h c ops (.mk t M (Nat.add c n) [] [])with e|e
  ·rw[e];exact .inl rfl
  ·rw[e];exact .inr rfl
 |seq a b iha ihb=>
  intro s;show LR (jK (bg b) (.mk Φ ex rd fn F) (bg a (.mk Φ ex rd fn F) s)) (jK (bg b) (.mk Φ ex' rd fn F) (bg a (.mk Φ ex' rd fn F) s));rcases iha s with e|e
  ·rw[e];exact .inl rfl
  ·rw[e];cases bg a (.mk Φ ex' rd fn F) s with
   |f=>exact .inl rfl
   |k e s1=>
    cases e with
    |nrm=>exact ihb s1
    |_=>exact .inr rfl
 |cond x a b iha ihb=>
  intro s;show LR (iH x a b (bg a) (bg b) (.mk Φ ex rd fn F) s) (iH x a b (bg a) (bg b) (.mk Φ ex' rd fn F) s);unfold iH;cases x.ev (stT s)with
  |b v=>
   cases v with
   |true=>exact iha s
   |false=>exact ihb s
  |_=>exact .inl rfl
 |block id b ih=>
  intro s;show LR (eJ id (bg b (.mk Φ ex rd fn F) s)) (eJ id (bg b (.mk Φ ex' rd fn F) s));rcases ih s with e|e
  ·rw[e];exact .inl rfl
  ·rw[e];exact .inr rfl
 |loop b ih=>
  intro s;show LR (fO b (.mk Φ ex rd fn F) (bg b (.mk Φ ex rd fn F) s)) (fO b (.mk Φ ex' rd fn F) (bg b (.mk Φ ex' rd fn F) s));rcases ih s with e|e
  ·rw[e];exact .inl rfl
  ·rw[e];cases bg b (.mk Φ ex' rd fn F) s with
   |f=>exact .inl rfl
   |k e s1=>
    cases e with
    |nrm=>exact zC (Φ:=Φ) h _ s1
    |_=>exact .inr rfl
 |rf f ps a b _ _=>
  intro s;obtain⟨t,d,M,c⟩:=s;cases rd with
  |some l=>exact XF h f ps a b t d M c _
  |none=>
   show LR ((M.set c (.defs false)).force fun M=>fN (Nat.succ c) fun c'=>o8 f ps a b (.mk Φ ex none fn F) t (c::d) M c' c) ((M.set c (.defs false)).force fun M=>fN (Nat.succ c) fun c'=>o8 f ps a b (.mk Φ ex' none fn F) t (c::d) M c' c);rw[Tr.force_eq,Tr.force_eq,bA,bA];exact FV h f ps a b t (c::d) _ _ c
 |exit id=>exact fun s=> .inr rfl
 |scope b tbl ihb _=>
  intro s;show LR (gC tbl (.mk Φ ex rd fn F) (bg b (.mk Φ ex rd fn F) s)) (gC tbl (.mk Φ ex' rd fn F) (bg b (.mk Φ ex' rd fn F) s));rcases ihb s with e|e
  ·rw[e];exact .inl rfl
  ·rw[e];cases bg b (.mk Φ ex' rd fn F) s with
   |f=>exact .inl rfl
   |k e s1=>
    cases e with
    |gto l=>
     show LR (o9 tbl (.mk Φ ex rd fn F) s1 (gM l tbl)) (o9 tbl (.mk Φ ex' rd fn F) s1 (gM l tbl));cases gM l tbl with
     |none=>exact .inl rfl
     |some c=>exact zC (Φ:=Φ) h _ s1
    |_=>exact .inr rfl
 |tab l c r _ _=>exact fun s=> .inr rfl
 |goto l=>exact fun s=> .inr rfl
 |ret=>exact fun s=> .inr rfl
 |bad=>exact fun s=> .inr rfl
end
theorem Fh(Φ:Nat→Option CF):∀(n:Nat),iW (exec Φ n) (exec Φ (n+1))
 |0=>fun rd fn F c s=> .inl rfl
 |n+1=>fun rd fn F c s=>A7 (Fh Φ n) c s
theorem pR(Φ:Nat→Option CF){n:Nat}(m:Nat):iW (exec Φ n) (exec Φ (n+m)):=by
 induction m with
 |zero=>exact fun rd fn F c s=> .inr rfl
 |succ m ih=>
  intro rd fn F c s;rcases ih rd fn F c s with h|h
  ·exact .inl h
  ·rcases Fh Φ (n+m) rd fn F c s with h2|h2
   ·exact .inl (h.trans h2)
   ·exact .inr (h.trans h2)
def VR(a:Nat→Rs)(b:Rs):Prop:=b= .f∨ ∃n,∀m,n≤m→a m=b
def VC(a:Nat→RC)(b:RC):Prop:=b= .f∨ ∃n,∀m,n≤m→a m=b
def VO{α:Type}(a:Nat→Option α)(b:Option α):Prop:=b=none∨ ∃n,∀m,n≤m→a m=b
def vt(ex:Nat→uH)(ex':uH):Prop:=∀rd fn F c s,VR (fun m=>ex m rd fn F c s) (ex' rd fn F c s)
section
variable{Φ:Nat→Option CF}{ex:Nat→uH}{ex':uH}{rd:Option Nat}{fn:Nat}{F:RO}
theorem W9(h:vt ex ex')(F:RO)(f:Nat)(args:List V)(M:Mem)(c:Nat)(o:Option CF):VC (fun m=>cT (ex m) F f args M c o) (cT ex' F f args M c o):=by
 cases o with
 |none=>exact .inl rfl
 |some cf=>
  cases cf with
  |orc g=>exact .inr ⟨0,fun m hm=>rfl⟩
  |mk n res body=>
   show VC (fun m=>lU res F (ex m none f F body (.mk (bz n args) [] M c))) (lU res F (ex' none f F body (.mk (bz n args) [] M c)));rcases h none f F body (.mk (bz n args) [] M c)with e|⟨n,e⟩
   ·rw[e];exact .inl rfl
   ·exact .inr ⟨n,fun m hm=>congrArg (lU res F) (e m hm)⟩
theorem xO(h:vt ex ex')(f:Nat)(args:List V)(M:Mem)(c:Nat):VC (fun m=>kS (.mk Φ (ex m) rd fn F) f args M c) (kS (.mk Φ ex' rd fn F) f args M c):=W9 h F f args M c _
theorem Va(h:vt ex ex')(l fn':Nat)(body:CC)(t:T)(M:Mem)(c:Nat)(lp:Lp):VC (fun m=>qE (.mk Φ (ex m) rd fn F) l fn' body t M c lp) (qE (.mk Φ ex' rd fn F) l fn' body t M c lp):=by
 cases lp with
 |f=>exact .inl rfl
 |k s pe fn2 tm ps a b d=>
  cases s with
  |ready=>
   show VC (fun m=>(M.set l (.loop .busy pe fn2 tm ps a b d)).force fun M=>mL l (ex m (some l) fn' F body (.mk t [] M c))) ((M.set l (.loop .busy pe fn2 tm ps a b d)).force fun M=>mL l (ex' (some l) fn' F body (.mk t [] M c)));simp only[Tr.force_eq];rcases h (some l) fn' F body (.mk t [] (M.set l (.loop .busy pe fn2 tm ps a b d)) c)with e|⟨n,e⟩
   ·rw[e];exact .inl rfl
   ·exact .inr ⟨n,fun m hm=>congrArg (mL l) (e m hm)⟩
  |_=>exact .inl rfl
theorem Ya(h:vt ex ex')(l fn':Nat)(body:CC)(r:Rs):VC (fun m=>mK (.mk Φ (ex m) rd fn F) l fn' body r) (mK (.mk Φ ex' rd fn F) l fn' body r):=by
 cases r with
 |f=>exact .inl rfl
 |k e s=>
  cases e with
  |nrm=>
   obtain⟨t,d,M,c⟩:=s;cases d with
   |nil=>exact Va (Φ:=Φ) (rd:=rd) (fn:=fn) h l fn' body t M c _
   |cons _ _=>exact .inl rfl
  |_=>exact .inl rfl
theorem bm9(h:vt ex ex')(l fn':Nat)(asg body:CC)(M:Mem)(c:Nat)(o:Option T):VC (fun m=>EI (.mk Φ (ex m) rd fn F) l fn' asg body M c o) (EI (.mk Φ ex' rd fn F) l fn' asg body M c o):=by
 cases o with
 |none=>exact .inl rfl
 |some t=>
  show VC (fun m=>mK (.mk Φ (ex m) rd fn F) l fn' body (ex m (some l) fn' F asg (.mk t [] M c))) (mK (.mk Φ ex' rd fn F) l fn' body (ex' (some l) fn' F asg (.mk t [] M c)));rcases h (some l) fn' F asg (.mk t [] M c)with e|⟨n,e⟩
  ·rw[e];exact .inl rfl
  ·rcases Ya (Φ:=Φ) (rd:=rd) (fn:=fn) (F:=F) h l fn' body (ex' (some l) fn' F asg (.mk t [] M c))with e2|⟨n2,e2⟩
   ·exact .inl e2
   ·exact .inr ⟨max n n2,fun m hm=>by
     have h1:=e m (bc (Nat.le_max_left _ _) hm);have h2:=e2 m (bc (Nat.le_max_right _ _) hm);simp only at h1 h2⊢;rw[h1,h2]⟩
theorem Wd(h:vt ex ex')(l:Nat)(args:List V)(M:Mem)(c:Nat)(lp:Lp):VC (fun m=>qQ (.mk Φ (ex m) rd fn F) l args M c lp) (qQ (.mk Φ ex' rd fn F) l args M c lp):=by
 cases lp with
 |f=>exact .inl rfl
 |k s pe fn2 tm ps a b d=>
  cases s with
  |ready=>exact bm9 h l fn2 a b M c _
  |_=>exact .inl rfl
theorem Wc(h:vt ex ex')(v:V)(args:List V)(M:Mem)(c:Nat):VC (fun m=>oI (.mk Φ (ex m) rd fn F) v args M c) (oI (.mk Φ ex' rd fn F) v args M c):=by
 cases v with
 |f g a b=>exact xO (Φ:=Φ) (rd:=rd) (fn:=fn) h g _ M c
 |y l=>exact Wd h l args M c _
 |_=>exact .inl rfl
theorem Wa(h:vt ex ex')(v:V)(args:List V)(M:Mem)(c:Nat):VC (fun m=>lO (.mk Φ (ex m) rd fn F) v args M c) (lO (.mk Φ ex' rd fn F) v args M c):=by
 cases v with
 |f g a b=>exact xO (Φ:=Φ) (rd:=rd) (fn:=fn) h g _ M c
 |_=>exact .inl rfl
theorem az6(h:vt ex ex')(o:EO)(M:Mem)(c:Nat)(t:T):VC (fun m=>eU o (.mk Φ (ex m) rd fn F) M c t) (eU o (.mk Φ ex' rd fn F) M c t):=by
 cases o with
 |call f as=>exact xO (Φ:=Φ) (rd:=rd) (fn:=fn) h f _ M c
 |cv f as=>exact Wc h _ _ M c
 |_=>exact .inr ⟨0,fun m hm=>rfl⟩
theorem aD0(h:vt ex ex')(o:OK)(dst:Option aR)(t:T)(d:List Nat)(M:Mem)(c:Nat):VO (fun m=>XQ o (.mk Φ (ex m) rd fn F) dst t d M c) (XQ o (.mk Φ ex' rd fn F) dst t d M c):=by
 cases o with
 |q o=>exact .inr ⟨0,fun m hm=>rfl⟩
 |a o=>exact .inr ⟨0,fun m hm=>rfl⟩
 |e o=>
  show VO (fun m=>vf dst t d (eU o (.mk Φ (ex m) rd fn F) M c t)) (vf dst t d (eU o (.mk Φ ex' rd fn F) M c t));rcases az6 (Φ:=Φ) (rd:=rd) (fn:=fn) (F:=F) h o M c t with e|⟨n,e⟩
  ·rw[e];exact .inl rfl
  ·exact .inr ⟨n,fun m hm=>congrArg (vf dst t d) (e m hm)⟩
theorem XL(h:vt ex ex')(o:CO)(s:St):VO (fun m=>dQ o (.mk Φ (ex m) rd fn F) s) (dQ o (.mk Φ ex' rd fn F) s):=by
 obtain⟨dst,op,g⟩:=o
 obtain⟨t,d,M,c⟩:=s
 cases g with
 |none=>exact aD0 h op dst t d M c
 |some g=>
  show VO (fun m=>s_w op (.mk Φ (ex m) rd fn F) dst t d M c (wanted t (some g))) (s_w op (.mk Φ ex' rd fn F) dst t d M c (wanted t (some g)));cases wanted t (some g)with
  |false=>exact .inr ⟨0,fun m hm=>rfl⟩
  |true=>exact aD0 h op dst t d M c
theorem AD(h:vt ex ex'):∀(ops:List CO) (s:St),VO (fun m=>d8 ops (.mk Φ (ex m) rd fn F) s) (d8 ops (.mk Φ ex' rd fn F) s)
 |[],s=> .inr ⟨0,fun m hm=>rfl⟩
 |o::r,s=>by
  show VO (fun m=>kH (d8 r) (.mk Φ (ex m) rd fn F) (dQ o (.mk Φ (ex m) rd fn F) s)) (kH (d8 r) (.mk Φ ex' rd fn F) (dQ o (.mk Φ ex' rd fn F) s));rcases XL (Φ:=Φ) (rd:=rd) (fn:=fn) (F:=F) h o s with e|⟨n,e⟩
  ·rw[e];exact .inl rfl
  ·cases hs:dQ o (.mk Φ ex' rd fn F) s with
   |none=>exact .inl rfl
   |some s1=>
    rw[hs]at e;rcases AD h r s1 with e2|⟨n2,e2⟩
    ·exact .inl e2
    ·exact .inr ⟨max n n2,fun m hm=>by
      have h1:=e m (bc (Nat.le_max_left _ _) hm);have h2:=e2 m (bc (Nat.le_max_right _ _) hm);simp only at h1 h2⊢;rw[h1];exact h2⟩
theorem aP7(h:vt ex ex')(e:EO)(dst:Option aR)(t:T)(c:Nat)(pend:List (Nat×Nat×bJ))(reads:List (Nat×Nat))(p:Pr):
 VO (fun m=>pO e (.mk Φ (ex m) rd fn F) dst t c pend reads p) (pO e (.mk Φ ex' rd fn F) dst t c pend reads p):=by
 obtain⟨F',M,saved⟩:=p
 show VO (fun m=>bif cq F' M pend then nj F' dst t pend reads saved (eU e (.mk Φ (ex m) rd fn F') M c t)else none) (bif cq F' M pend then nj F' dst t pend reads saved (eU e (.mk Φ ex' rd fn F') M c t)else none)
 cases cq F' M pend with
 |false=>exact .inl rfl
 |true=>
  rcases az6 (Φ:=Φ) (rd:=rd) (fn:=fn) (F:=F') h e M c t with e|⟨n,e⟩
  ·rw[e];exact .inl rfl
  ·exact .inr ⟨n,fun m hm=>congrArg (nj F' dst t pend reads saved) (e m hm)⟩
theorem bw3(h:vt ex ex')(base:Nat)(x:Nat×Nat×CO)(s:DS):VO (fun m=>rG (.mk Φ (ex m) rd fn F) base x s) (rG (.mk Φ ex' rd fn F) base x s):=by
 obtain⟨i,mask,dst,op,g⟩:=x
 obtain⟨t,M,c,pend,reads⟩:=s
 show VO (fun m=>bif wanted t g then R8 (.mk Φ (ex m) rd fn F) base i mask dst op t M c pend reads else _) (bif wanted t g then R8 (.mk Φ ex' rd fn F) base i mask dst op t M c pend reads else _)
 cases wanted t g with
 |false=>exact .inr ⟨0,fun m hm=>rfl⟩
 |true=>
  cases op with
  |q o=>exact .inr ⟨0,fun m hm=>rfl⟩
  |a o=>exact .inr ⟨0,fun m hm=>rfl⟩
  |e o=>
   show VO (fun m=>uZ o (.mk Φ (ex m) rd fn F) mask dst t c reads (eb mask pend M)) (uZ o (.mk Φ ex' rd fn F) mask dst t c reads (eb mask pend M));obtain⟨M1,p1⟩:=eb mask pend M;exact aP7 h o dst t c p1 reads _
theorem R7(h:vt ex ex')(base:Nat):∀(ops:List (Nat×Nat×CO)) (s:DS),VO (fun m=>ie (.mk Φ (ex m) rd fn F) base ops s) (ie (.mk Φ ex' rd fn F) base ops s)
 |[],s=> .inr ⟨0,fun m hm=>rfl⟩
 |o::r,s=>by
  simp only[ie];rcases bw3 (Φ:=Φ) (rd:=rd) (fn:=fn) (F:=F) h base o s with e|⟨n,e⟩
  ·rw[e];exact .inl rfl
  ·cases hs:rG (.mk Φ ex' rd fn F) base o s with
   |none=>exact .inl rfl
   |some s1=>
    rw[hs]at e;rcases R7 h base r s1 with e2|⟨n2,e2⟩
    ·exact .inl e2
    ·exact .inr ⟨max n n2,fun m hm=>by
      have h1:=e m (bc (Nat.le_max_left _ _) hm);have h2:=e2 m (bc (Nat.le_max_right _ _) hm);simp only at h1 h2⊢;rw[h1];exact h2⟩
theorem EZ(h:vt ex ex')(c:CC)(s:St):VR (fun m=>oF (.mk Φ (ex m) rd fn F) c s) (oF (.mk Φ ex' rd fn F) c s):=h rd fn F c s
theorem SO(h:vt ex ex')(f:X)(ps:List aR)(asg body:CC)(t:T)(d:List Nat)(M:Mem)(l dn:Nat):VR (fun m=>o8 f ps asg body (.mk Φ (ex m) rd fn F) t d M l dn) (o8 f ps asg body (.mk Φ ex' rd fn F) t d M l dn):=by
 show VR (fun m=>(M.set l (.loop .ready .none fn t ps asg body dn)).force fun M=>fN (Nat.succ l) fun c=>mt t d l (lO (.mk Φ (ex m) rd fn F) (f.ev t) [.y l] M c)) ((M.set l (.loop .ready .none fn t ps asg body dn)).force fun M=>fN (Nat.succ l) fun c=>mt t d l (lO (.mk Φ ex' rd fn F) (f.ev t) [.y l] M c))
 simp only[Tr.force_eq,bA]
 rcases Wa (Φ:=Φ) (rd:=rd) (fn:=fn) (F:=F) h (f.ev t) [.y l] (M.set l (.loop .ready .none fn t ps asg body dn)) (Nat.succ l)with e|⟨n,e⟩
 ·rw[e];exact .inl rfl
 ·exact .inr ⟨n,fun m hm=>congrArg (mt t d l) (e m hm)⟩
theorem aX1(h:vt ex ex')(f:X)(ps:List aR)(asg body:CC)(t:T)(d:List Nat)(M:Mem)(l:Nat)(lp:Lp):VR (fun m=>Ij f ps asg body (.mk Φ (ex m) rd fn F) t d M l lp) (Ij f ps asg body (.mk Φ ex' rd fn F) t d M l lp):=by
 cases lp with
 |f=>exact .inl rfl
 |k s pe fn2 tm ps' a b dn=>exact SO h f ps asg body t d M l dn
theorem WD(h:vt ex ex'):∀(c:CC) (s:St),VR (fun m=>bg c (.mk Φ (ex m) rd fn F) s) (bg c (.mk Φ ex' rd fn F) s):=by
 intro c
 induction c with
 |skip=>exact fun s=> .inr ⟨0,fun m hm=>rfl⟩
 |reg ops=>
  intro s;show VR (fun m=>p6 (d8 ops (.mk Φ (ex m) rd fn F) s)) (p6 (d8 ops (.mk Φ ex' rd fn F) s));rcases AD (Φ:=Φ) (rd:=rd) (fn:=fn) (F:=F) h ops s with e|⟨n,e⟩
  ·rw[e];exact .inl rfl
  ·exact .inr ⟨n,fun m hm=>congrArg p6 (e m hm)⟩
 |dreg k ops=>
  intro s;obtain⟨t,d,M,c⟩:=s;show VR (fun m=>fN (Nat.add c k) fun c'=>t8 d (ie (.mk Φ (ex m) rd fn F) c ops (.mk t M c' [] []))) (fN (Nat.add c k) fun c'=>t8 d (ie (.mk Φ ex' rd fn F) c ops (.mk t M c' [] [])));simp only[bA];rcases R7 (Φ:=Φ) (rd:=rd) (fn:=fn) (F:=F) h c ops (.mk t M (Nat.add c k) [] [])with e|⟨n,e⟩
  ·rw[e];exact .inl rfl
  ·exact .inr ⟨n,fun m hm=>congrArg (t8 d) (e m hm)⟩
 |seq a b iha ihb=>
  intro s;show VR (fun m=>jK (bg b) (.mk Φ (ex m) rd fn F) (bg a (.mk Φ (ex m) rd fn F) s)) (jK (bg b) (.mk Φ ex' rd fn F) (bg a (.mk Φ ex' rd fn F) s));rcases iha s with e|⟨n,e⟩
  ·rw[e];exact .inl rfl
  ·cases hs:bg a (.mk Φ ex' rd fn F) s with
   |f=>exact .inl rfl
   |k x s1=>
    rw[hs]at e;cases x with
    |nrm=>
     rcases ihb s1 with e2|⟨n2,e2⟩
     ·exact .inl e2
     ·exact .inr ⟨max n n2,fun m hm=>by
       have h1:=e m (bc (Nat.le_max_left _ _) hm);have h2:=e2 m (bc (Nat.le_max_right _ _) hm);simp only at h1 h2⊢;rw[h1];exact h2⟩
    |_=>exact .inr ⟨n,fun m hm=>congrArg (jK (bg b) (.mk Φ (ex m) rd fn F)) (e m hm)⟩
 |cond x a b iha ihb=>
  intro s;show VR (fun m=>iH x a b (bg a) (bg b) (.mk Φ (ex m) rd fn F) s) (iH x a b (bg a) (bg b) (.mk Φ ex' rd fn F) s);unfold iH;cases x.ev (stT s)with
  |b v=>
   cases v with
   |true=>exact iha s
   |false=>exact ihb s
  |_=>exact .inl rfl
 |block id b ih=>
  intro s;show VR (fun m=>eJ id (bg b (.mk Φ (ex m) rd fn F) s)) (eJ id (bg b (.mk Φ ex' rd fn F) s));rcases ih s with e|⟨n,e⟩
  ·rw[e];exact .inl rfl
  ·exact .inr ⟨n,fun m hm=>congrArg (eJ id) (e m hm)⟩
 |loop b ih=>
  intro s;show VR (fun m=>fO b (.mk Φ (ex m) rd fn F) (bg b (.mk Φ (ex m) rd fn F) s)) (fO b (.mk Φ ex' rd fn F) (bg b (.mk Φ ex' rd fn F) s));rcases ih s with e|⟨n,e⟩
  ·rw[e];exact .inl rfl
  ·cases hs:bg b (.mk Φ ex' rd fn F) s with
   |f=>exact .inl rfl
   |k x s1=>
    rw[hs]at e;cases x with
    |nrm=>
     rcases EZ (Φ:=Φ) (rd:=rd) (fn:=fn) (F:=F) h (.loop b) s1 with e2|⟨n2,e2⟩
     ·exact .inl e2
     ·exact .inr ⟨max n n2,fun m hm=>by
       have h1:=e m (bc (Nat.le_max_left _ _) hm);have h2:=e2 m (bc (Nat.le_max_right _ _) hm);simp only at h1 h2⊢;rw[h1];exact h2⟩
    |_=>exact .inr ⟨n,fun m hm=>congrArg (fO b (.mk Φ (ex m) rd fn F)) (e m hm)⟩
 |rf f ps a b _ _=>
  intro s;obtain⟨t,d,M,c⟩:=s;cases rd with
  |some l=>exact aX1 h f ps a b t d M c _
  |none=>
   show VR (fun m=>(M.set c (.defs false)).force fun M=>fN (Nat.succ c) fun c'=>o8 f ps a b (.mk Φ (ex m) none fn F) t (c::d) M c' c) ((M.set c (.defs false)).force fun M=>fN (Nat.succ c) fun c'=>o8 f ps a b (.mk Φ ex' none fn F) t (c::d) M c' c);simp only[Tr.force_eq,bA];exact SO h f ps a b t (c::d) _ _ c
 |exit id=>exact fun s=> .inr ⟨0,fun m hm=>rfl⟩
 |scope b tbl ihb _=>
  intro s;show VR (fun m=>gC tbl (.mk Φ (ex m) rd fn F) (bg b (.mk Φ (ex m) rd fn F) s)) (gC tbl (.mk Φ ex' rd fn F) (bg b (.mk Φ ex' rd fn F) s));rcases ihb s with e|⟨n,e⟩
  ·rw[e];exact .inl rfl
  ·cases hs:bg b (.mk Φ ex' rd fn F) s with
   |f=>exact .inl rfl
   |k x s1=>
    rw[hs]at e;cases x with
    |gto l=>
     have hj:VR (fun m=>o9 tbl (.mk Φ (ex m) rd fn F) s1 (gM l tbl)) (o9 tbl (.mk Φ ex' rd fn F) s1 (gM l tbl)):=by
      cases gM l tbl with
      |none=>exact .inl rfl
      |some c=>exact EZ (Φ:=Φ) h _ s1
     rcases hj with e2|⟨n2,e2⟩
     ·exact .inl e2
     ·exact .inr ⟨max n n2,fun m hm=>by
       have h1:=e m (bc (Nat.le_max_left _ _) hm);have h2:=e2 m (bc (Nat.le_max_right _ _) hm);simp only at h1 h2⊢;rw[h1];exact h2⟩
    |_=>exact .inr ⟨n,fun m hm=>congrArg (gC tbl (.mk Φ (ex m) rd fn F)) (e m hm)⟩
 |tab l c r _ _=>exact fun s=> .inr ⟨0,fun m hm=>rfl⟩
 |goto l=>exact fun s=> .inr ⟨0,fun m hm=>rfl⟩
 |ret=>exact fun s=> .inr ⟨0,fun m hm=>rfl⟩
 |bad=>exact fun s=> .inr ⟨0,fun m hm=>rfl⟩
end
open Classical in
def iu(Φ:Nat→Option CF):uH:=fun rd fn F c s=>if h:∃n,exec Φ n rd fn F c s≠ .f then exec Φ (Classical.choose h) rd fn F c s else .f
theorem xQ{Φ:Nat→Option CF}{n:Nat}{rd:Option Nat}{fn:Nat}{F:RO}{c:CC}{s:St}(h:exec Φ n rd fn F c s≠ .f):iu Φ rd fn F c s=exec Φ n rd fn F c s:=by
 have hx:∃n,exec Φ n rd fn F c s≠ .f:=⟨n,h⟩
 unfold iu
 rw[dif_pos hx]
 have hc:=Classical.choose_spec hx
 rcases pR Φ (n:=n) (Classical.choose hx) rd fn F c s with e1|e1
 ·exact absurd e1 h
 ·rcases pR Φ (n:=Classical.choose hx) n rd fn F c s with e2|e2
  ·exact absurd e2 hc
  ·rw[e1,e2,Nat.add_comm]
theorem vR(Φ:Nat→Option CF)(rd:Option Nat)(fn:Nat)(F:RO)(c:CC)(s:St):iu Φ rd fn F c s= .f∨ ∃n,iu Φ rd fn F c s=exec Φ n rd fn F c s:=by
 by_cases hx:∃n,exec Φ n rd fn F c s≠ .f
 ·exact .inr ⟨_,by unfold iu;rw[dif_pos hx]⟩
 ·exact .inl (by unfold iu;rw[dif_neg hx])
theorem Rz(Φ:Nat→Option CF)(n:Nat):iW (exec Φ n) (iu Φ):=by
 intro rd fn F c s
 by_cases h:exec Φ n rd fn F c s= .f
 ·exact .inl h
 ·exact .inr (xQ h).symm
theorem aP9(Φ:Nat→Option CF)(rd:Option Nat)(fn:Nat)(F:RO)(c:CC)(s:St):LR (iu Φ rd fn F c s) (bg c (.mk Φ (iu Φ) rd fn F) s):=by
 by_cases hx:∃n,exec Φ n rd fn F c s≠ .f
 ·obtain⟨n,hn⟩:=hx;rw[xQ hn];cases n with
  |zero=>exact .inl rfl
  |succ n=>exact A7 (Rz Φ n) c s
 ·exact .inl (by unfold iu;rw[dif_neg hx])
theorem bw6(Φ:Nat→Option CF):vt (exec Φ) (iu Φ):=by
 intro rd fn F c s
 rcases vR Φ rd fn F c s with h|⟨n,h⟩
 ·exact .inl h
 ·by_cases hf:iu Φ rd fn F c s= .f
  ·exact .inl hf
  ·refine .inr ⟨n,fun m hm=>?_⟩;have:exec Φ m rd fn F c s≠ .f:=by
    obtain⟨k,rfl⟩:∃k,m=n+k:=⟨m-n,by omega⟩
    rcases pR Φ (n:=n) k rd fn F c s with e|e
    ·exact absurd (h.trans e) hf
    ·rw[←e,←h];exact hf
   exact(xQ this).symm
theorem xP(Φ:Nat→Option CF)(rd:Option Nat)(fn:Nat)(F:RO)(c:CC)(s:St):iu Φ rd fn F c s=bg c (.mk Φ (iu Φ) rd fn F) s:=by
 rcases aP9 Φ rd fn F c s with h|h
 ·rcases WD (Φ:=Φ) (rd:=rd) (fn:=fn) (F:=F) (bw6 Φ) c s with h2|⟨n,h2⟩
  ·rw[h,h2]
  ·have h3:exec Φ (n+1) rd fn F c s=bg c (.mk Φ (iu Φ) rd fn F) s:=h2 n (aj _);by_cases hf:bg c (.mk Φ (iu Φ) rd fn F) s= .f
   ·rw[h,hf]
   ·rw[←h3];exact xQ (by rw[h3];exact hf)
 ·exact h
theorem Rc{P:Program}(hm:P.follows .mixedOrders=true){Φ:Nat→Option CF}(hΦ:eR P Φ):zu P (iu Φ):=by
 intro rd fn F cc t d M ct e t' d' M' ct' h
 rcases vR Φ rd fn F cc (.mk t d M ct)with h1|⟨n,h1⟩
 ·rw[h1]at h;cases h
 ·rw[h1]at h;exact th hm hΦ n rd fn F cc t d M ct e t' d' M' ct' h
structure pA(F0:RO)(M0:Mem)(F:RO)(M:Mem):Prop where
 m:∀b blk,M0.get b=some blk→M.get b=some blk
 f:∀b blk,bv F0 b=some blk→look F M b=some blk
 ap:∀b,(bv F0 b).isSome→M0.get b=none
theorem pA.look{F0:RO}{M0:Mem}{F:RO}{M:Mem}(h:pA F0 M0 F M){b:Nat}{blk:bJ}(hb:look F0 M0 b=some blk):look F M b=some blk:=by
 cases hm:M0.get b with
 |some x=>
  rw[az hm]at hb;obtain rfl:=ae hb;exact az (h.m b _ hm)
 |none=>
  rw[b5 hm]at hb;exact h.f b blk hb
theorem pA.rel{P:Program}{E:cU}{F0 F:RO}{M0 M:Mem}{c:Nat→Prop}{w:World}(h:pA F0 M0 F M)(hr:kO P E F M c w):kO P E F0 M0 c w where
 has:=fun b blk hb=>hr.has b blk (h.look hb)
 inj:=by
  intro b b' h1 h2 e;obtain⟨x,hx⟩:=bL.1 h1;obtain⟨y,hy⟩:=bL.1 h2;exact hr.inj b b' (by rw[h.look hx];rfl) (by rw[h.look hy];rfl) e
 apart:=h.ap
theorem kO.lt{P:Program}{E:cU}{F:RO}{M:Mem}{c:Nat→Prop}{w:World}(h:kO P E F M c w){b:Nat}(hb:(look F M b).isSome):E.ρ b<w.heap.size:=by
 obtain⟨x,hx⟩:=bL.1 hb
 obtain⟨_,_,o',ho',_⟩:=h.has b x hx
 exact(Array.getElem?_eq_some_iff.1 ho').1
theorem li.framed{P:Program}{E E':cU}{F0 F:RO}{M0 M M1 N:Mem}{c c':Nat→Prop}{w w':World}(hsub:pA F0 M0 F M)(hr:kO P E F M c w)(hS:li P F0 E M0 c w E' M1 c' w')
 (hN:∀b blk,N.get b=some blk→M1.get b=some blk∨(M.get b=some blk∧M0.get b=none)):li P F E M c w E' N c' w':=by
 have old:∀b blk,look F M b=some blk→M0.get b=none→c b∧eS c blk∧E'.ρ b=E.ρ b∧ ∃o,w'.heap[E'.ρ b]?=some o∧eg P E' b blk o:=by
  intro b blk hb h0;obtain⟨hcb,hbd,o,ho,hB⟩:=hr.has b blk hb;have e:=hS.ext.ρ b hcb;refine⟨hcb,hbd,e,o,?_,hB.ext hS.ext hcb hbd⟩;rw[e,hS.frame _ (Array.getElem?_eq_some_iff.1 ho).1,ho];intro b0 hb0 e0;obtain⟨x0,hx0⟩:=bL.1 hb0;have:b0=b:=hr.inj b0 b (by rw[az (hsub.m b0 x0 hx0)];rfl) (by rw[hb];rfl) e0;subst this;rw[h0]at hx0;cases hx0
 have new_old:∀b b' blk',(M1.get b).isSome→look F M b'=some blk'→M0.get b'=none→E'.ρ b≠E.ρ b':=by
  intro b b' blk' h1 h2 h0 e;rcases hS.own b h1 with⟨b0,hb0,e0⟩|hge
  ·obtain⟨x0,hx0⟩:=bL.1 hb0;have:b0=b':=hr.inj b0 b' (by rw[az (hsub.m b0 x0 hx0)];rfl) (by rw[h2];rfl) (e0.trans e);subst this;rw[h0]at hx0;cases hx0
  ·have:=hr.lt (b:=b') (by rw[h2];rfl);omega
 have fM0:∀b,(bv F b).isSome→M0.get b=none:=by
  intro b hb;cases h:M0.get b with
  |none=>rfl
  |some x=>have:=hr.apart b hb;rw[hsub.m b x h]at this;cases this
 have fM:∀b blk,bv F b=some blk→look F M b=some blk:=fun b blk hb=>by rw[b5 (hr.apart b (by rw[hb];rfl))];exact hb
 have nocommon:∀b blk',look F M b=some blk'→M0.get b=none→M1.get b=none:=by
  intro b blk' h2 h0;cases h1:M1.get b with
  |none=>rfl
  |some x=>
   exfalso;have:=new_old b b blk' (by rw[h1];rfl) h2 h0;exact this (old b blk' h2 h0).2.2.1
 have lookN:∀b blk,look F N b=some blk→M1.get b=some blk∨(look F M b=some blk∧M0.get b=none):=by
  intro b blk hb;cases h:N.get b with
  |some x=>
   rw[az h]at hb;obtain rfl:=ae hb;rcases hN b _ h with h1|⟨h1,h2⟩
   ·exact .inl h1
   ·exact .inr ⟨az h1,h2⟩
  |none=>
   rw[b5 h]at hb;exact .inr ⟨fM b blk hb,fM0 b (by rw[hb];rfl)⟩
 refine⟨hS.ext,hS.le,⟨?_,?_,?_⟩,?_,?_,hS.size,hS.os,hS.output,hS.tape⟩
 ·intro b blk hb;rcases lookN b blk hb with h1|⟨h1,h2⟩
  ·exact hS.rel.has b blk (az h1)
  ·obtain⟨a1,a2,_,a3⟩:=old b blk h1 h2;exact⟨hS.le b a1,gd hS.le _ a2,a3⟩
 ·intro b b' h1 h2 e;obtain⟨x,hx⟩:=bL.1 h1;obtain⟨y,hy⟩:=bL.1 h2;rcases lookN b x hx with g1|⟨g1,g0⟩
  ·rcases lookN b' y hy with k1|⟨k1,k0⟩
   ·exact hS.rel.inj b b' (nC (by rw[g1];rfl)) (nC (by rw[k1];rfl)) e
   ·exfalso;exact new_old b b' y (by rw[g1];rfl) k1 k0 (e.trans (old b' y k1 k0).2.2.1)
  ·rcases lookN b' y hy with k1|⟨k1,k0⟩
   ·exfalso;exact new_old b' b x (by rw[k1];rfl) g1 g0 (e.symm.trans (old b x g1 g0).2.2.1)
   ·refine hr.inj b b' (by rw[g1];rfl) (by rw[k1];rfl) ?_;rw[←(old b x g1 g0).2.2.1,←(old b' y k1 k0).2.2.1];exact e
 ·intro b hb;obtain⟨x,hx⟩:=bL.1 hb;cases h:N.get b with
  |none=>rfl
  |some y=>
   exfalso;have:=nocommon b x (fM b x hx) (fM0 b hb);rcases hN b y h with h1|⟨h1,h2⟩
   ·rw[this]at h1;cases h1
   ·have:=hr.apart b hb;rw[h1]at this;cases this
 ·intro b hb;obtain⟨x,hx⟩:=bL.1 hb;rcases hN b x hx with h1|⟨h1,h2⟩
  ·rcases hS.own b (by rw[h1];rfl)with⟨b0,hb0,e0⟩|hge
   ·obtain⟨x0,hx0⟩:=bL.1 hb0;exact .inl ⟨b0,by rw[hsub.m b0 x0 hx0];rfl,e0⟩
   ·exact .inr hge
  ·exact .inl ⟨b,by rw[h1];rfl,((old b x (az h1) h2).2.2.1).symm⟩
 ·intro r hr' hn;refine hS.frame r hr' fun b hb=>?_;obtain⟨x,hx⟩:=bL.1 hb;exact hn b (by rw[hsub.m b x hx];rfl)
structure Wf(F:RO)(M:Mem)(ct:Nat)(args:List V):Prop where
 ge:1000≤ct
 args:fZ (· <ct) args
 lt:∀b blk,look F M b=some blk→b<ct
 bd:∀b blk,look F M b=some blk→eS (· <ct) blk
 ap:∀b,(bv F b).isSome→M.get b=none
theorem bP4{P:Program}{E:cU}{F:RO}{M:Mem}{c:Nat→Prop}{w:World}{ct:Nat}{args:List V}(hr:kO P E F M c w)(hbig:∀g,g<1000→c g)(hf:fw c ct)(ha:fZ c args):Wf F M ct args:=by
 have hlt:∀b,c b→b<ct:=fun b hb=>by
  by_cases h:b<ct
  ·exact h
  ·exact absurd hb (hf b (by omega))
 refine⟨?_,jv hlt args ha,fun b blk hb=>hlt b (hr.has b blk hb).1,fun b blk hb=>gd hlt blk (hr.has b blk hb).2.1,hr.apart⟩
 by_cases h:1000≤ct
 ·exact h
 ·exact absurd (hbig ct (by omega)) (hf ct (aj _))
mutual
theorem nQ{p q:Nat→Prop}:∀v,bd p v→bd q v→bd (fun b=>p b∧q b) v
 | .b _,_,_| .i _ _,_,_| .s _ _,_,_| .p0,_,_| .l0,_,_| .m0,_,_| .f0,_,_| .a0,_,_=>trivial
 | .p _ _,h,g=>⟨h,g⟩
 | .l _ _ _ _,h,g=>⟨h,g⟩
 | .u _ _ _ _ _,h,g=>⟨h,g⟩
 | .ue _ _ _,h,g=>⟨h,g⟩
 | .m _,h,g=>⟨h,g⟩
 | .y _,h,g=>⟨h,g⟩
 | .f _ a e,h,g=>⟨oG a h.1 g.1,oG e h.2 g.2⟩
 | .a _ v,h,g=>nQ v h g
 | .g cs,h,g=>oG cs h g
 | .t cs,h,g=>oG cs h g
theorem oG{p q:Nat→Prop}:∀l,fZ p l→fZ q l→fZ (fun b=>p b∧q b) l
 |[],_,_=>trivial
 |v::l,h,g=>⟨nQ v h.1 g.1,oG l h.2 g.2⟩
end
theorem H7{p q:Nat→Prop}(blk:bJ)(h:eS p blk)(g:eS q blk):eS (fun b=>p b∧q b) blk:=by
 cases blk with
 |cells ty n ex fz str d t=>exact fun k v hk=>nQ v (h k v hk) (g k v hk)
 |map es c=>exact fun e he=>⟨nQ _ (h e he).1 (g e he).1,nQ _ (h e he).2 (g e he).2⟩
 |loop s pe fn tm ps a b d=>exact⟨fun p=>nQ _ (h.1 p) (g.1 p),h.2,g.2⟩
 |defs _=>trivial
 |siter _ _ _=>trivial
 |miter m _ _ _=>exact fun b hb=>⟨h b hb,g b hb⟩
theorem aU7{P:Program}(hm:P.follows .mixedOrders=true){Φ:Nat→Option CF}(hΦ:eR P Φ){f:Nat}{g:RO→List V→Mem→Nat→RC}
 (h:∀F args M ct v N ct',g F args M ct= .k v N ct'→Wf F M ct args→ ∃F0 M0 M1 ct1,pA F0 M0 F M∧cT (iu Φ) F0 f args M0 ct (Φ f)= .k v M1 ct1∧ct≤ct'∧bd (· <ct') v∧
  ∀b blk,N.get b=some blk→(M1.get b=some blk∧b<ct'∧eS (· <ct') blk)∨(M.get b=some blk∧M0.get b=none)):dh P f g:=by
 intro F args M ct v N ct' hg E c w hr hglob hbig hf ha
 obtain⟨F0,M0,M1,ct1,hsub,hc,hle,hbv,hN⟩:=h F args M ct v N ct' hg (bP4 hr hbig hf ha)
 obtain⟨fn,h1,h2,h3,hC⟩:=ir (rd:=none) (fn:=0) (F₀:=[]) hΦ (Rc hm hΦ) F0 f args M0 ct v M1 ct1 hc E c w (hsub.rel hr) hglob hbig hf ha
 refine⟨fn,h1,h2,h3,hC.mono ?_⟩
 rintro e w' ⟨E',c',rfl,hS,hb,hG⟩
 have hS':=hS.framed hsub hr (N:=N) fun b blk hb=>(hN b blk hb).imp (fun h=>h.1) id
 have hlt:∀b,c b→b<ct:=fun b hb=>by
  by_cases h:b<ct
  ·exact h
  ·exact absurd hb (hf b (by omega))
 have up:∀b,c b→c' b∧b<ct':=fun b hb=>⟨hS.le b hb,Nat.lt_of_lt_of_le (hlt b hb) hle⟩
 refine⟨E',fun b=>c' b∧b<ct',rfl,⟨hS'.ext,up,⟨?_,hS'.rel.inj,hS'.rel.apart⟩,hS'.own,hS'.frame,hS'.size,hS'.os,hS'.output,hS'.tape⟩,nQ v hb hbv,⟨hle,fun b hb=>?_⟩⟩
 ·intro b blk hb;obtain⟨g1,g2,g3⟩:=hS'.rel.has b blk hb
  have old:look F M b=some blk→(c' b∧b<ct')∧eS (fun b=>c' b∧b<ct') blk:=fun ho=>by
   obtain⟨k1,k2,_⟩:=hr.has b blk ho;exact⟨up b k1,gd up blk k2⟩
  have:(c' b∧b<ct')∧eS (fun b=>c' b∧b<ct') blk:=by
   cases hn:N.get b with
   |some x=>
    rw[az hn]at hb;obtain rfl:=ae hb;rcases hN b _ hn with⟨k1,k2,k3⟩|⟨k1,_⟩
    ·exact⟨⟨g1,k2⟩,H7 _ g2 k3⟩
    ·exact old (az k1)
   |none=>
    rw[b5 hn]at hb;exact old (by rw[b5 (hr.apart b (by rw[hb];rfl))];exact hb)
  exact⟨this.1,this.2,g3⟩
 ·rcases hG.new b hb.1 with h|h
  ·exact .inl h
  ·exact .inr ⟨h.1,hb.2⟩
def aO(h:List V→Option V)(_:RO)(args:List V)(M:Mem)(c:Nat):RC:=match h args with
 |some v=> .k v M c
 |none=> .f
theorem eI{P:Program}(hm:P.follows .mixedOrders=true){Φ:Nat→Option CF}(hΦ:eR P Φ){f:Nat}{h:List V→Option V}
 (hh:∀args v ct,h args=some v→1000≤ct→bd (fun _=>False) v∧ ∃M1 ct1,cT (iu Φ) [] f args .e ct (Φ f)= .k v M1 ct1):dh P f (aO h):=by
 refine aU7 hm hΦ ?_
 intro F args M ct v N ct' hg hW
 unfold aO at hg
 split at hg
 ·rename_i x hx;injection hg with e1 e2 e3
  subst e1 e2 e3;obtain⟨h1,M1,ct1,h2⟩:=hh args x ct hx hW.ge;exact⟨[],.e,M1,ct1,⟨fun b blk hb=>(by cases hb),fun b blk hb=>(by cases hb),fun b hb=>(by cases hb)⟩,h2,aj _,eG (fun b hb=>hb.elim) x h1,fun b blk hb=> .inr ⟨hb,rfl⟩⟩
 ·cases hg
def Bw(Φ:Nat→Option CF)(f:Nat)(cf:CF):Nat→Option CF:=fun k=>if k=f then some cf else Φ k
theorem fT{P:Program}{Φ:Nat→Option CF}(hΦ:eR P Φ){f:Nat}{g:RO→List V→Mem→Nat→RC}(hg:dh P f g):eR P (Bw Φ f (.orc g)):=by
 intro k cf hk
 unfold Bw at hk
 split at hk
 ·rename_i e;subst e;obtain rfl:=ae hk;exact hg
 ·exact hΦ k cf hk
section
variable{Φ:Nat→Option CF}{rd:Option Nat}{fn:Nat}{F:RO}
abbrev K(Φ:Nat→Option CF)(rd:Option Nat)(fn:Nat)(F:RO):Kn:= .mk Φ (iu Φ) rd fn F
def Wp(c:CC)(k:Kn)(s:St)(Q:Ex→St→Prop):Prop:=∃e s',bg c k s= .k e s'∧Q e s'
def oC(ops:List CO)(k:Kn)(s:St)(R:St→Prop):Prop:=∃s',d8 ops k s=some s'∧R s'
def gJ(b:CC)(k:Kn)(Q:Ex→St→Prop):Ex→St→Prop
 | .nrm,s=>Wp b k s Q
 |e,s=>Q e s
def dF(id:Nat)(Q:Ex→St→Prop):Ex→St→Prop
 | .ext id',s=>if id'=id then Q .nrm s else Q (.ext id') s
 |e,s=>Q e s
def Fp(b:CC)(k:Kn)(Q:Ex→St→Prop):Ex→St→Prop
 | .nrm,s=>Wp (.loop b) k s Q
 |e,s=>Q e s
theorem Gx(k:Kn)(s:St)(Q:Ex→St→Prop):Wp .skip k s Q=Q .nrm s:=by
 apply propext;constructor
 ·rintro⟨e,s',h,q⟩;cases h;exact q
 ·exact fun q=>⟨_,_,rfl,q⟩
theorem bm1(k:Kn)(s:St)(Q:Ex→St→Prop):Wp .ret k s Q=Q .ret s:=by
 apply propext;constructor
 ·rintro⟨e,s',h,q⟩;cases h;exact q
 ·exact fun q=>⟨_,_,rfl,q⟩
theorem Y2(id:Nat)(k:Kn)(s:St)(Q:Ex→St→Prop):Wp (.exit id) k s Q=Q (.ext id) s:=by
 apply propext;constructor
 ·rintro⟨e,s',h,q⟩;cases h;exact q
 ·exact fun q=>⟨_,_,rfl,q⟩
theorem bm0(ops:List CO)(k:Kn)(s:St)(Q:Ex→St→Prop):Wp (.reg ops) k s Q=oC ops k s (Q .nrm):=by
 apply propext;constructor
 ·rintro⟨e,s',h,q⟩;have h':p6 (d8 ops k s)= .k e s':=h;cases hs:d8 ops k s with
  |none=>rw[hs]at h';cases h'
  |some s1=>
   rw[hs]at h';have:Rs.k .nrm s1= .k e s':=h';injection this with e1 e2
   subst e1 e2;exact⟨_,hs,q⟩
 ·rintro⟨s',h,q⟩;exact⟨_,_,show p6 (d8 ops k s)=_ by rw[h];rfl,q⟩
theorem EG(a b:CC)(k:Kn)(s:St)(Q:Ex→St→Prop):Wp (.seq a b) k s Q=Wp a k s (gJ b k Q):=by
 apply propext;constructor
 ·rintro⟨e,s',h,q⟩;have h':jK (bg b) k (bg a k s)= .k e s':=h;cases hs:bg a k s with
  |f=>rw[hs]at h';cases h'
  |k e1 s1=>
   rw[hs]at h';refine⟨e1,s1,hs,?_⟩;cases e1 with
   |nrm=>exact⟨e,s',h',q⟩
   |ret=>have h2:Rs.k .ret s1= .k e s':=h';injection h2 with a1 a2;subst a1 a2;exact q
   |ext id=>have h2:Rs.k (.ext id) s1= .k e s':=h';injection h2 with a1 a2;subst a1 a2;exact q
   |gto id=>have h2:Rs.k (.gto id) s1= .k e s':=h';injection h2 with a1 a2;subst a1 a2;exact q
 ·rintro⟨e1,s1,h1,q⟩;cases e1 with
  |nrm=>
   obtain⟨e,s',h2,q⟩:=q;exact⟨e,s',show jK (bg b) k (bg a k s)=_ by rw[h1];exact h2,q⟩
  |ret=>exact⟨_,_,show jK (bg b) k (bg a k s)=_ by rw[h1];rfl,q⟩
  |ext id=>exact⟨_,_,show jK (bg b) k (bg a k s)=_ by rw[h1];rfl,q⟩
  |gto id=>exact⟨_,_,show jK (bg b) k (bg a k s)=_ by rw[h1];rfl,q⟩
theorem AE(b:CC)(k:Kn)(Q:Ex→St→Prop)(s:St):gJ b k Q .nrm s=Wp b k s Q:=rfl
theorem SZ(b:CC)(k:Kn)(Q:Ex→St→Prop)(s:St):gJ b k Q .ret s=Q .ret s:=rfl
theorem SY(b:CC)(k:Kn)(Q:Ex→St→Prop)(s:St)(id:Nat):gJ b k Q (.ext id) s=Q (.ext id) s:=rfl
theorem V2(id:Nat)(b:CC)(k:Kn)(s:St)(Q:Ex→St→Prop):Wp (.block id b) k s Q=Wp b k s (dF id Q):=by
 apply propext;constructor
 ·rintro⟨e,s',h,q⟩;have h':eJ id (bg b k s)= .k e s':=h;cases hs:bg b k s with
  |f=>rw[hs]at h';cases h'
  |k e1 s1=>
   rw[hs]at h';refine⟨e1,s1,hs,?_⟩;cases e1 with
   |nrm=>have h2:Rs.k .nrm s1= .k e s':=h';injection h2 with a1 a2;subst a1 a2;exact q
   |ret=>have h2:Rs.k .ret s1= .k e s':=h';injection h2 with a1 a2;subst a1 a2;exact q
   |gto l=>have h2:Rs.k (.gto l) s1= .k e s':=h';injection h2 with a1 a2;subst a1 a2;exact q
   |ext i=>
    have h2:Bool.rec (motive:=fun _=>Rs) (.k (.ext i) s1) (.k .nrm s1) (Nat.beq i id)= .k e s':=h';rw[bb,bR]at h2;show(if i=id then Q .nrm s1 else Q (.ext i) s1);by_cases hi:i=id
    ·rw[ac (by simpa using hi)]at h2;injection h2 with a1 a2;subst a1 a2
     rw[ac hi];exact q
    ·rw[ab (by simpa using hi)]at h2;injection h2 with a1 a2;subst a1 a2
     rw[ab hi];exact q
 ·rintro⟨e1,s1,h1,q⟩;cases e1 with
  |nrm=>exact⟨_,_,show eJ id (bg b k s)=_ by rw[h1];rfl,q⟩
  |ret=>exact⟨_,_,show eJ id (bg b k s)=_ by rw[h1];rfl,q⟩
  |gto l=>exact⟨_,_,show eJ id (bg b k s)=_ by rw[h1];rfl,q⟩
  |ext i=>
   have h2:eJ id (bg b k s)=Bool.rec (motive:=fun _=>Rs) (.k (.ext i) s1) (.k .nrm s1) (Nat.beq i id):=by rw[h1];rfl
   rw[bb,bR]at h2;replace q:(if i=id then Q .nrm s1 else Q (.ext i) s1):=q;by_cases hi:i=id
   ·rw[ac (by simpa using hi)]at h2;rw[ac hi]at q;exact⟨_,_,h2,q⟩
   ·rw[ab (by simpa using hi)]at h2;rw[ab hi]at q;exact⟨_,_,h2,q⟩
theorem CP(id:Nat)(Q:Ex→St→Prop)(s:St):dF id Q .nrm s=Q .nrm s:=rfl
theorem CQ(id:Nat)(Q:Ex→St→Prop)(s:St):dF id Q .ret s=Q .ret s:=rfl
theorem CM(id i:Nat)(Q:Ex→St→Prop)(s:St):dF id Q (.ext i) s=if i=id then Q .nrm s else Q (.ext i) s:=rfl
theorem jf(b:CC)(s:St)(Q:Ex→St→Prop):Wp (.loop b) (K Φ rd fn F) s Q=Wp b (K Φ rd fn F) s (Fp b (K Φ rd fn F) Q):=by
 apply propext;constructor
 ·rintro⟨e,s',h,q⟩;have h':fO b (K Φ rd fn F) (bg b (K Φ rd fn F) s)= .k e s':=h;cases hs:bg b (K Φ rd fn F) s with
  |f=>rw[hs]at h';cases h'
  |k e1 s1=>
   rw[hs]at h';refine⟨e1,s1,hs,?_⟩;cases e1 with
   |nrm=>
    have h2:iu Φ rd fn F (.loop b) s1= .k e s':=h';rw[xP]at h2;exact⟨e,s',h2,q⟩
   |ret=>have h2:Rs.k .ret s1= .k e s':=h';injection h2 with a1 a2;subst a1 a2;exact q
   |ext id=>have h2:Rs.k (.ext id) s1= .k e s':=h';injection h2 with a1 a2;subst a1 a2;exact q
   |gto id=>have h2:Rs.k (.gto id) s1= .k e s':=h';injection h2 with a1 a2;subst a1 a2;exact q
 ·rintro⟨e1,s1,h1,q⟩;cases e1 with
  |nrm=>
   obtain⟨e,s',h2,q⟩:=q;refine⟨e,s',show fO b (K Φ rd fn F) (bg b (K Φ rd fn F) s)=_ from ?_,q⟩;rw[h1];show iu Φ rd fn F (.loop b) s1=_;rw[xP];exact h2
  |ret=>exact⟨_,_,show fO b (K Φ rd fn F) (bg b (K Φ rd fn F) s)=_ by rw[h1];rfl,q⟩
  |ext id=>exact⟨_,_,show fO b (K Φ rd fn F) (bg b (K Φ rd fn F) s)=_ by rw[h1];rfl,q⟩
  |gto id=>exact⟨_,_,show fO b (K Φ rd fn F) (bg b (K Φ rd fn F) s)=_ by rw[h1];rfl,q⟩
theorem HO(b:CC)(k:Kn)(Q:Ex→St→Prop)(s:St):Fp b k Q .nrm s=Wp (.loop b) k s Q:=rfl
theorem HP(b:CC)(k:Kn)(Q:Ex→St→Prop)(s:St):Fp b k Q .ret s=Q .ret s:=rfl
theorem HN(b:CC)(k:Kn)(Q:Ex→St→Prop)(s:St)(id:Nat):Fp b k Q (.ext id) s=Q (.ext id) s:=rfl
theorem Wp.mono{c:CC}{k:Kn}{s:St}{Q Q':Ex→St→Prop}(h:Wp c k s Q)(hq:∀e s',Q e s'→Q' e s'):Wp c k s Q':=by
 obtain⟨e,s',h1,q⟩:=h
 exact⟨e,s',h1,hq e s' q⟩
theorem II{b:CC}{Q:Ex→St→Prop}(I:Nat→St→Prop)(h:∀n s,I n s→Wp b (K Φ rd fn F) s fun e s'=>match e with| .nrm=>∃m,m<n∧I m s'|e=>Q e s'):∀n s,I n s→Wp (.loop b) (K Φ rd fn F) s Q:=by
 intro n
 induction n using Nat.strongRecOn with
 |_ n ih=>
  intro s hs;rw[jf];refine(h n s hs).mono fun e s' he=>?_;cases e with
  |nrm=>obtain⟨m,hm,hI⟩:=he;exact ih m hm s' hI
  |_=>exact he
theorem Ba{x:X}{a b:CC}{k:Kn}{t:T}{d:List Nat}{M:Mem}{c:Nat}{Q:Ex→St→Prop}(hx:x.ev t= .b true):Wp (.cond x a b) k (.mk t d M c) Q=Wp a k (.mk t d M c) Q:=by
 have he:bg (.cond x a b) k (.mk t d M c)=bg a k (.mk t d M c):=by
  show iH x a b (bg a) (bg b) k (.mk t d M c)=_;unfold iH;show Fw (x.ev t) _ _=_;rw[hx];rfl
 unfold Wp;rw[he]
theorem B9{x:X}{a b:CC}{k:Kn}{t:T}{d:List Nat}{M:Mem}{c:Nat}{Q:Ex→St→Prop}(hx:x.ev t= .b false):Wp (.cond x a b) k (.mk t d M c) Q=Wp b k (.mk t d M c) Q:=by
 have he:bg (.cond x a b) k (.mk t d M c)=bg b k (.mk t d M c):=by
  show iH x a b (bg a) (bg b) k (.mk t d M c)=_;unfold iH;show Fw (x.ev t) _ _=_;rw[hx];rfl
 unfold Wp;rw[he]
theorem bl9(k:Kn)(s:St)(R:St→Prop):oC [] k s R=R s:=by
 apply propext;constructor
 ·rintro⟨s',h,q⟩;cases h;exact q
 ·exact fun q=>⟨_,rfl,q⟩
theorem fX(o:CO)(r:List CO)(k:Kn)(s:St)(R:St→Prop):oC (o::r) k s R↔ ∃s',dQ o k s=some s'∧oC r k s' R:=by
 constructor
 ·rintro⟨s',h,q⟩;have h':kH (d8 r) k (dQ o k s)=some s':=h;cases hs:dQ o k s with
  |none=>rw[hs]at h';cases h'
  |some s1=>rw[hs]at h';exact⟨s1,rfl,s',h',q⟩
 ·rintro⟨s1,h1,s',h2,q⟩;exact⟨s',show kH (d8 r) k (dQ o k s)=some s' by rw[h1];exact h2,q⟩
def QR.to{β:Type}(r:QR)(f:β)(g:V→β):β:=match r with
 | .f=>f
 | .v x=>g x
 | .r x _=>g x
theorem ch0{p:aR}{o:QO}{r:List CO}{k:Kn}{t:T}{d:List Nat}{M:Mem}{c:Nat}{R:St→Prop}{x:V}(h:(cS o k.F M t).val=some x):
 oC (.mk (some p) (.q o) none::r) k (.mk t d M c) R=oC r k (.mk (t.setP p x) d M c) R:=by
 have hs:dQ (.mk (some p) (.q o) none) k (.mk t d M c)=some (.mk (t.setP p x) d M c):=by
  show XJ (some p) t d M c (cS o k.F M t)=_;cases hq:cS o k.F M t with
  |f=>rw[hq]at h;cases h
  |v y=>rw[hq]at h;obtain rfl:=ae h;exact fL _ _ _ _ _ _
  |r y b=>rw[hq]at h;obtain rfl:=ae h;exact fL _ _ _ _ _ _
 apply propext
 rw[fX,hs]
 constructor
 ·rintro⟨s',h,q⟩;obtain rfl:=ae h;exact q
 ·exact fun q=>⟨_,rfl,q⟩
theorem cg9{p:aR}{o:AO}{r:List CO}{k:Kn}{t:T}{d:List Nat}{M:Mem}{c:Nat}{R:St→Prop}{v:V}{blk:bJ}(h:ju o c t=some (v,blk)):
 oC (.mk (some p) (.a o) none::r) k (.mk t d M c) R=oC r k (.mk (t.setP p v) d (M.set c blk) (c+1)) R:=by
 have hs:dQ (.mk (some p) (.a o) none) k (.mk t d M c)=some (.mk (t.setP p v) d (M.set c blk) (c+1)):=by
  show XI (some p) t d M c (ju o c t)=_;rw[h];show SV (some p) t d M c v blk=_;unfold SV;rw[Tr.force_eq,bA,fL];rfl
 apply propext
 rw[fX,hs]
 constructor
 ·rintro⟨s',h,q⟩;obtain rfl:=ae h;exact q
 ·exact fun q=>⟨_,rfl,q⟩
theorem bP5{dst:Option aR}{o:EO}{r:List CO}{k:Kn}{t:T}{d:List Nat}{M M':Mem}{c c':Nat}{R:St→Prop}{v:V}(h:eU o k M c t= .k v M' c'):
 oC (.mk dst (.e o) none::r) k (.mk t d M c) R=oC r k (.mk (setT t dst v) d M' c') R:=by
 have hs:dQ (.mk dst (.e o) none) k (.mk t d M c)=some (.mk (setT t dst v) d M' c'):=by
  show vf dst t d (eU o k M c t)=_;rw[h];exact fL _ _ _ _ _ _
 apply propext
 rw[fX,hs]
 constructor
 ·rintro⟨s',h,q⟩;obtain rfl:=ae h;exact q
 ·exact fun q=>⟨_,rfl,q⟩
theorem bP7{dst:Option aR}{o:OK}{g:aR}{want:Bool}{r:List CO}{k:Kn}{t:T}{d:List Nat}{M:Mem}{c:Nat}{R:St→Prop}(hg:cE t g= .b want):
 oC (.mk dst o (some (g,want))::r) k (.mk t d M c) R=oC (.mk dst o none::r) k (.mk t d M c) R:=by
 have hw:wanted t (some (g,want))=true:=by
  show gD want (cE t g)=_;rw[hg];cases want<;>rfl
 have hs:dQ (.mk dst o (some (g,want))) k (.mk t d M c)=dQ (.mk dst o none) k (.mk t d M c):=by
  show s_w o k dst t d M c (wanted t (some (g,want)))=_;rw[hw];rfl
 apply propext
 rw[fX,fX,hs]
theorem bP6{dst:Option aR}{o:OK}{g:aR}{want:Bool}{r:List CO}{k:Kn}{t:T}{d:List Nat}{M:Mem}{c:Nat}{R:St→Prop}(hg:cE t g= .b (!want)):
 oC (.mk dst o (some (g,want))::r) k (.mk t d M c) R=oC r k (.mk (setT t dst undef) d M c) R:=by
 have hw:wanted t (some (g,want))=false:=by
  show gD want (cE t g)=_;rw[hg];cases want<;>rfl
 have hs:dQ (.mk dst o (some (g,want))) k (.mk t d M c)=some (.mk (setT t dst undef) d M c):=by
  show s_w o k dst t d M c (wanted t (some (g,want)))=_;rw[hw];exact fL _ _ _ _ _ _
 apply propext
 rw[fX,hs]
 constructor
 ·rintro⟨s',h,q⟩;obtain rfl:=ae h;exact q
 ·exact fun q=>⟨_,rfl,q⟩
theorem bP8{dst:Option aR}{o:OK}{g:aR}{want:Bool}{r:List CO}{k:Kn}{t:T}{d:List Nat}{M:Mem}{c:Nat}{R:St→Prop}(hg:cE t g=undef):
 oC (.mk dst o (some (g,want))::r) k (.mk t d M c) R=oC r k (.mk (setT t dst undef) d M c) R:=by
 have hw:wanted t (some (g,want))=false:=by
  show gD want (cE t g)=_;rw[hg];rfl
 have hs:dQ (.mk dst o (some (g,want))) k (.mk t d M c)=some (.mk (setT t dst undef) d M c):=by
  show s_w o k dst t d M c (wanted t (some (g,want)))=_;rw[hw];exact fL _ _ _ _ _ _
 apply propext
 rw[fX,hs]
 constructor
 ·rintro⟨s',h,q⟩;obtain rfl:=ae h;exact q
 ·exact fun q=>⟨_,rfl,q⟩
def Q(n:Nat):aR:=br n
def Ja(o:Option (List V))(M:Mem)(c:Nat)(Post:V→Mem→Nat→Prop):Prop:=match o with
 |none=>False
 |some vs=>Post (rM vs) M c
def aK8(o:Option Mem)(F:RO)(t:T)(res:List RV)(c:Nat)(Post:V→Mem→Nat→Prop):Prop:=match o with
 |none=>False
 |some M=>Ja (dV F M t res) M c Post
def nk(F:RO)(res:List RV)(Post:V→Mem→Nat→Prop):Ex→St→Prop
 | .nrm,.mk t d M c=>aK8 (dI d M) F t res c Post
 | .ret,.mk t d M c=>aK8 (dI d M) F t res c Post
 |_,_=>False
theorem Ro(F:RO)(res:List RV)(Post:V→Mem→Nat→Prop)(t:T)(M:Mem)(c:Nat):nk F res Post .nrm (.mk t [] M c)=Ja (dV F M t res) M c Post:=rfl
theorem Rq(F:RO)(res:List RV)(Post:V→Mem→Nat→Prop)(t:T)(M:Mem)(c:Nat):nk F res Post .ret (.mk t [] M c)=Ja (dV F M t res) M c Post:=rfl
theorem bX5(vs:List V)(M:Mem)(c:Nat)(Post:V→Mem→Nat→Prop):Ja (some vs) M c Post=Post (rM vs) M c:=rfl
def vQ(v:V):Option (List V)→Option (List V)
 |some l=>some (v::l)
 |none=>none
theorem CW(v:V)(l:List V):vQ v (some l)=some (v::l):=rfl
theorem Ii(F:RO)(M:Mem)(t:T):dV F M t []=some []:=rfl
theorem aX0(F:RO)(M:Mem)(t:T)(p:aR)(r:List RV):dV F M t (.t p::r)=vQ (cE t p) (dV F M t r):=by
 show rQ (cE t p) (dV F M t r)=_
 cases dV F M t r<;>rfl
theorem Se(v:V):rM [v]=v:=rfl
theorem Sf(v w:V)(l:List V):rM (v::w::l)= .t (v::w::l):=rfl
theorem vN{f n:Nat}{res:List RV}{body:CC}{args:List V}{M:Mem}{c:Nat}{Post:V→Mem→Nat→Prop}(hf:Φ f=some (.mk n res body))
 (h:Wp body (K Φ none f F) (.mk (bz n args) [] M c) (nk F res Post)):∃v M' c',cT (iu Φ) F f args M c (Φ f)= .k v M' c'∧Post v M' c':=by
 obtain⟨e,s,h1,hq⟩:=h
 obtain⟨t,d,M1,c1⟩:=s
 have hend:Fl e=true∧aK8 (dI d M1) F t res c1 Post:=by
  cases e with
  |nrm=>exact⟨rfl,hq⟩
  |ret=>exact⟨rfl,hq⟩
  |ext id=>exact hq.elim
  |gto l=>exact hq.elim
 have hcall:cT (iu Φ) F f args M c (some (.mk n res body))=Bool.rec (motive:=fun _=>RC) .f (xX res F t c1 (dI d M1)) (Fl e):=by
  show lU res F (iu Φ none f F body (.mk (bz n args) [] M c))=_;rw[xP,h1];rfl
 rw[hf,hcall,hend.1]
 have h2:=hend.2
 cases hd:dI d M1 with
 |none=>rw[hd]at h2;exact h2.elim
 |some M2=>
  rw[hd]at h2;have h3:Ja (dV F M2 t res) M2 c1 Post:=h2;cases hr:dV F M2 t res with
  |none=>rw[hr]at h3;exact h3.elim
  |some vs=>
   rw[hr]at h3;exact⟨rM vs,M2,c1,show xY c1 M2 (dV F M2 t res)=_ by rw[hr];rfl,h3⟩
end
section
variable{Φ:Nat→Option CF}{rd:Option Nat}{fn:Nat}{F:RO}
def bp5(o:Option V)(p:aR)(r:List CO)(k:Kn)(t:T)(d:List Nat)(M:Mem)(c:Nat)(R:St→Prop):Prop:=match o with
 |none=>False
 |some x=>oC r k (.mk (t.setP p x) d M c) R
def bp3(o:Option (V×bJ))(p:aR)(r:List CO)(k:Kn)(t:T)(d:List Nat)(M:Mem)(c:Nat)(R:St→Prop):Prop:=match o with
 |none=>False
 |some x=>oC r k (.mk (t.setP p x.1) d (M.set c x.2) (c+1)) R
def aL2(o:RC)(p:aR)(r:List CO)(k:Kn)(t:T)(d:List Nat)(R:St→Prop):Prop:=match o with
 | .f=>False
 | .k v M c=>oC r k (.mk (t.setP p v) d M c) R
def Yt(o:RC)(r:List CO)(k:Kn)(t:T)(d:List Nat)(R:St→Prop):Prop:=match o with
 | .f=>False
 | .k v M c=>oC r k (.mk t d M c) R
theorem ce0(x:V)(p:aR)(r:List CO)(k:Kn)(t:T)(d:List Nat)(M:Mem)(c:Nat)(R:St→Prop):bp5 (some x) p r k t d M c R=oC r k (.mk (t.setP p x) d M c) R:=rfl
theorem cd8(v:V)(b:bJ)(p:aR)(r:List CO)(k:Kn)(t:T)(d:List Nat)(M:Mem)(c:Nat)(R:St→Prop):bp3 (some (v,b)) p r k t d M c R=oC r k (.mk (t.setP p v) d (M.set c b) (c+1)) R:=rfl
theorem cd9(v:V)(M:Mem)(c:Nat)(p:aR)(r:List CO)(k:Kn)(t:T)(d:List Nat)(R:St→Prop):aL2 (.k v M c) p r k t d R=oC r k (.mk (t.setP p v) d M c) R:=rfl
theorem bE4(v:V)(M:Mem)(c:Nat)(r:List CO)(k:Kn)(t:T)(d:List Nat)(R:St→Prop):Yt (.k v M c) r k t d R=oC r k (.mk t d M c) R:=rfl
theorem ch4(p:aR)(o:QO)(r:List CO)(t:T)(d:List Nat)(M:Mem)(c:Nat)(R:St→Prop):
 oC (.mk (some p) (.q o) none::r) (K Φ rd fn F) (.mk t d M c) R=bp5 (cS o F M t).val p r (K Φ rd fn F) t d M c R:=by
 cases h:(cS o F M t).val with
 |some x=>rw[ch0 (k:=K Φ rd fn F) h];rfl
 |none=>
  apply propext;rw[fX];constructor
  ·rintro⟨s',h1,_⟩;have h1':XJ (some p) t d M c (cS o F M t)=some s':=h1;cases hq:cS o F M t with
   |f=>rw[hq]at h1';cases h1'
   |v y=>rw[hq]at h;cases h
   |r y b=>rw[hq]at h;cases h
  ·exact False.elim
theorem ch2(p:aR)(o:AO)(r:List CO)(t:T)(d:List Nat)(M:Mem)(c:Nat)(R:St→Prop):
 oC (.mk (some p) (.a o) none::r) (K Φ rd fn F) (.mk t d M c) R=bp3 (ju o c t) p r (K Φ rd fn F) t d M c R:=by
 cases h:ju o c t with
 |some x=>rw[cg9 (k:=K Φ rd fn F) (v:=x.1) (blk:=x.2) h];rfl
 |none=>
  apply propext;rw[fX];constructor
  ·rintro⟨s',h1,_⟩;have h1':XI (some p) t d M c (ju o c t)=some s':=h1;rw[h]at h1';cases h1'
  ·exact False.elim
theorem ch3(p:aR)(o:EO)(r:List CO)(t:T)(d:List Nat)(M:Mem)(c:Nat)(R:St→Prop):
 oC (.mk (some p) (.e o) none::r) (K Φ rd fn F) (.mk t d M c) R=aL2 (eU o (K Φ rd fn F) M c t) p r (K Φ rd fn F) t d R:=by
 cases h:eU o (K Φ rd fn F) M c t with
 |k v M' c'=>rw[bP5 h];rfl
 |f=>
  apply propext;rw[fX];constructor
  ·rintro⟨s',h1,_⟩;have h1':vf (some p) t d (eU o (K Φ rd fn F) M c t)=some s':=h1;rw[h]at h1';cases h1'
  ·exact False.elim
theorem bQ8(o:EO)(r:List CO)(t:T)(d:List Nat)(M:Mem)(c:Nat)(R:St→Prop):
 oC (.mk none (.e o) none::r) (K Φ rd fn F) (.mk t d M c) R=Yt (eU o (K Φ rd fn F) M c t) r (K Φ rd fn F) t d R:=by
 cases h:eU o (K Φ rd fn F) M c t with
 |k v M' c'=>rw[bP5 h];rfl
 |f=>
  apply propext;rw[fX];constructor
  ·rintro⟨s',h1,_⟩;have h1':vf none t d (eU o (K Φ rd fn F) M c t)=some s':=h1;rw[h]at h1';cases h1'
  ·exact False.elim
theorem Y9(f:Nat)(as:List X)(M:Mem)(c:Nat)(t:T):eU (.call f as) (K Φ rd fn F) M c t=cT (iu Φ) F f (evs as t) M c (Φ f):=rfl
theorem He(F:RO)(f:Nat)(args:List V)(M:Mem)(c:Nat)(g:RO→List V→Mem→Nat→RC):cT (iu Φ) F f args M c (some (.orc g))=g F args M c:=rfl
theorem aR9(l r:T)(v:V):cE (Tr.n l (some v) r) .h=v:=Eq.trans (rfl:_=v) (Eq.refl v)
theorem aS1(l r:T):cE (Tr.n l none r) .h=undef:=Eq.trans (rfl:_=undef) (Eq.refl undef)
theorem aS0(l r:T)(v:Option V)(p:aR):cE (Tr.n l v r) (.l p)=cE l p:=Eq.trans (rfl:_=cE l p) (Eq.refl _)
theorem aS2(l r:T)(v:Option V)(p:aR):cE (Tr.n l v r) (.r p)=cE r p:=Eq.trans (rfl:_=cE r p) (Eq.refl _)
theorem ev_t(p:aR)(t:T):(X.t p).ev t=cE t p:=rfl
theorem ev_c(v:V)(t:T):(X.c v).ev t=v:=rfl
theorem WC(t:T):evs [] t=[]:=rfl
theorem Rx(x:X)(l:List X)(t:T):evs (x::l) t=x.ev t::evs l t:=rfl
theorem cf7(x:X)(M:Mem)(t:T):(cS (.mv x) F M t).val=some (x.ev t):=rfl
def pkV:V→V→V→Option V
 | .b x,a,b=>some (bif x then a else b)
 |_,_,_=>none
theorem bJ8(c a b:X)(M:Mem)(t:T):(cS (.pk c a b) F M t).val=pkV (c.ev t) (a.ev t) (b.ev t):=by
 show(Ic c a b F M t).val=_
 unfold Ic pkV
 cases c.ev t with
 |b x=>cases x<;>rfl
 |_=>rfl
theorem bE0(a b:V):pkV (.b true) a b=some a:=rfl
theorem bD9(a b:V):pkV (.b false) a b=some b:=rfl
def cz(op:BinOp):V→V→Option V
 | .i k a,.i k' b=>(fp op k a k' b).val
 | .s n a,.s m b=>(QK op n a m b).val
 |_,_=>none
theorem bI7(op:BinOp)(x y:X)(M:Mem)(t:T):(cS (.bi op x y) F M t).val=cz op (x.ev t) (y.ev t):=by
 show(Aq op x y F M t).val=_
 unfold Aq cz
 cases x.ev t with
 |i k a=>
  show(tR (y.ev t) QR.f fun k' b=>fp op k a k' b).val=_;cases y.ev t<;>rfl
 |s n a=>
  show(wh (y.ev t) QR.f fun m b=>QK op n a m b).val=_;cases y.ev t<;>rfl
 |_=>cases y.ev t<;>rfl
theorem aN2(k:IntKind)(a b:Int):cz .add (.i k a) (.i k b)=some (.i k (k.wrap (a+b))):=by
 cases k<;>simp[cz,fp,ec,pK,aA3,gS,tF,fU,jV,EY,QR.val]
theorem xL(k:IntKind)(a b:Int):cz .sub (.i k a) (.i k b)=some (.i k (k.wrap (a-b))):=by
 show _=some (V.i k (k.wrap (Int.sub a b)))
 cases k<;>simp[cz,fp,ec,pK,aB1,gS,tF,fU,jV,QR.val]
theorem aN7(k:IntKind)(a b:Int):cz .lss (.i k a) (.i k b)=some (.b (decide (a<b))):=by
 cases k<;>simp[cz,fp,ec,pK,aA8,gS,tF,mH,fH,QR.val]
theorem aN5(k:IntKind)(a b:Int):cz .gtr (.i k a) (.i k b)=some (.b (decide (b<a))):=by
 cases k<;>simp[cz,fp,ec,pK,aA6,gS,tF,mH,fH,QR.val]
theorem dle(a b:Int):decide (a≤b)= !decide (b<a):=by
 by_cases h:b<a
 ·rw[ah h,ag (by omega)];rfl
 ·rw[ag h,ah (by omega)];rfl
theorem aN6(k:IntKind)(a b:Int):cz .leq (.i k a) (.i k b)=some (.b (decide (a≤b))):=by
 cases k<;>simp[cz,fp,ec,pK,aA7,gS,tF,mH,fH,gy,QR.val,dle,-decide_not,-Int.not_lt]
theorem aN4(k:IntKind)(a b:Int):cz .geq (.i k a) (.i k b)=some (.b (decide (b≤a))):=by
 cases k<;>simp[cz,fp,ec,pK,aA5,gS,tF,mH,fH,gy,QR.val,dle,-decide_not,-Int.not_lt]
theorem aN3(k:IntKind)(a b:Int):cz .eql (.i k a) (.i k b)=some (.b (decide (a=b))):=by
 cases k<;>simp[cz,fp,ec,pK,aA4,gS,tF,mH,da,QR.val]
theorem aN9(k:IntKind)(a b:Int):cz .neq (.i k a) (.i k b)=some (.b (decide (a≠b))):=by
 cases k<;>simp[cz,fp,ec,pK,aB0,gS,tF,mH,da,gy,QR.val]
def unV(op:UnOp)(x:V):Option V:=(cS (.un op (.c x)) [] .e .e).val
theorem bJ9(op:UnOp)(x:X)(M:Mem)(t:T):(cS (.un op x) F M t).val=unV op (x.ev t):=by
 cases op<;>rfl
theorem aZ0(x:Bool):unV .not (.b x)=some (.b (!x)):=by cases x<;>rfl
def lnV(sh:Sh)(F:RO)(M:Mem)(x:V):Option V:=(cS (.ln sh (.c x)) F M .e).val
theorem aZ2(sh:Sh)(x:X)(M:Mem)(t:T):(cS (.ln sh x) F M t).val=lnV sh F M (x.ev t):=by
 cases sh<;>rfl
theorem lnS(n x:Nat)(M:Mem):lnV .str F M (.s n x)=some (.i .i64 (n:Int)):=rfl
def rK(x i:V):Option V:=(cS (.ixS (.c x) (.c i)) [] .e .e).val
theorem aF8(x i:X)(M:Mem)(t:T):(cS (.ixS x i) F M t).val=rK (x.ev t) (i.ev t):=rfl
end
def ul(k:IntKind):List Int→List V
 |[]=>[]
 |z::r=> .i k z::ul k r
def qB(ty:Nat)(k:IntKind)(zs:List Int):bJ:= .cells ty zs.length false zs.length true [] (bP (ul k zs) 0 .e)
abbrev ES:=Nat×IntKind×List Int
def AN:List ES→(Nat→Nat)→RO
 |[],_=>[]
 |(g,k,zs)::r,ty=>(g,qB (ty g) k zs)::AN r ty
def vv(W:World)(t:ES):Prop:=∃ty fr,W.heap[t.1]?=some (.cells (t.2.2.map fun z=>Value.int t.2.1 z).toArray ty fr)
theorem n9(k:IntKind)(zs:List Int):ul k zs=zs.map (V.i k):=by
 induction zs with
 |nil=>rfl
 |cons z r ih=>rw[ul,ih];rfl
theorem aY3{c:Nat→Prop}{ty:Nat}{k:IntKind}{zs:List Int}:eS c (qB ty k zs):=by
 intro j v hv
 rw[cV]at hv
 split at hv
 ·rename_i hj;rw[dt]at hv;have hlen:(ul k zs).length=zs.length:=by rw[n9];simp
  rw[ac (by omega)]at hv;rw[n9]at hv;simp only[Nat.sub_zero,List.getElem?_map]at hv;rw[List.getElem?_eq_getElem hj]at hv;simp only[Option.map_some]at hv;obtain rfl:=ae hv;trivial
 ·cases hv
theorem AP{L:List ES}{ty:Nat→Nat}{b:Nat}{blk:bJ}(h:bv (AN L ty) b=some blk):∃t∈L,t.1=b∧blk=qB (ty b) t.2.1 t.2.2:=by
 induction L with
 |nil=>cases h
 |cons t r ih=>
  obtain⟨g,k,zs⟩:=t;have h':Bool.rec (motive:=fun _=>Option bJ) (bv (AN r ty) b) (some (qB (ty g) k zs)) (Nat.beq g b)=some blk:=h;rw[bb,bR]at h';by_cases e:g=b
  ·rw[ac (by simpa using e)]at h';subst e;exact⟨_,bG ..,rfl,(ae h').symm⟩
  ·rw[ab (by simpa using e)]at h';obtain⟨t,ht,h1,h2⟩:=ih h';exact⟨t,bq _ ht,h1,h2⟩
theorem nI{P:Program}{W:World}{name:String}{k:IntKind}{zs:List Int}{g:Nat}{t e:TypeId}{n:Nat}
 (hg:P.globalNamed name=some g) (hty:(P.globals[g]?).map (·.type)=some t) (ht:P.underlying t=some (.array n e)) (he:P.underlying e=some (.int k)) (hce:P.cellsOf e=1) (hct:P.cellsOf t=n):
 ∀{laid:List (String×DataW Unit)} {ps:List MemPlace},(name,Lib.tabData k zs)∈laid→DataW.LaidVars P W laid ps→vv W (g,k,zs)
 |x::r,ps,hm,h=>by
  obtain⟨g',t',cs,fuel,p,q,hg',ht',hvar,hd,hr,_⟩:=h;rcases bh.1 hm with e1|hm'
  ·subst e1;obtain rfl:=ae (hg.symm.trans hg');obtain rfl:=ae (hty.symm.trans ht');have hcs:=Lib.cells_of_tab ht he hce hct hd;unfold World.var? at hvar;rw[hg]at hvar;simp only[Option.bind_some]at hvar;split at hvar
   ·rename_i cs' ty fr hh;obtain rfl:=ae hvar;refine⟨ty,fr,?_⟩;show W.heap[g]?=_;rw[hh,←hcs]
   ·cases hvar
  ·exact nI hg hty ht he hce hct hm' hr
theorem uk{P:Program}{W:World}{name:String}{k:IntKind}{zs:List Int}{g:Nat}{t e:TypeId}{n:Nat}
 (hg:P.globalNamed name=some g) (hty:(P.globals[g]?).map (·.type)=some t) (ht:P.underlying t=some (.array n e)) (he:P.underlying e=some (.int k)) (hce:P.cellsOf e=1) (hct:P.cellsOf t=n)
 {laid:List (String×DataW Unit)} (hm:(name,Lib.tabData k zs)∈laid) (h:laidMet P laid W):vv W (g,k,zs):=by
 obtain⟨ps,hv,_⟩:=h
 exact nI hg hty ht he hce hct hm hv
def Ef(k:IntKind)(z:Int):V→Bool
 | .i k' z'=>gS k k'&&Ho z z'
 |_=>false
def iU(n:Nat)(d:List V)(c:T)(k:IntKind):List Int→Nat→Bool
 |[],i=>Nat.beq i n
 |z::r,i=>match cell n d c i with
  |some v=>Ef k z v&&iU n d c k r (Nat.succ i)
  |none=>false
def rj(F:RO)(t:ES):Bool:=match bv F t.1 with
 |some (.cells _ n false fz true d c)=>Nat.beq fz n&&iU n d c t.2.1 t.2.2 0
 |_=>false
def fR(F:RO):List ES→Bool
 |[]=>true
 |t::r=>Nat.blt t.1 1000&&(rj F t&&fR F r)
theorem po{n:Nat}{d:List V}{c:T}{k:IntKind}:∀{zs:List Int} {i:Nat},iU n d c k zs i=true→i+zs.length=n∧ ∀j z,zs[j]?=some z→cell n d c (i+j)=some (.i k z)
 |[],i,h=>by
  have:decide (i=n)=true:=by rw[←bR];exact h
  exact⟨by simpa using this,fun j z hz=>by simp at hz⟩
 |z::r,i,h=>by
  unfold iU at h;split at h
  ·rename_i v hv;rw[aC]at h;obtain⟨h1,h2⟩:=h;obtain⟨h3,h4⟩:=po h2;have hve:v= .i k z:=by
    unfold Ef at h1;split at h1
    ·rename_i k' z';rw[aC,eK,da]at h1;have a1:=bT h1.1;have a2:=bT h1.2;rw[a1,a2]
    ·cases h1
   refine⟨by simp only[av];omega,fun j z' hz=>?_⟩;cases j with
   |zero=>simp at hz;subst hz;rw[←hve];exact hv
   |succ j=>
    rw[show i+(j+1)=Nat.succ i+j by omega];exact h4 j z' (by simpa using hz)
  ·cases h
theorem Tv{ty:Nat}{k:IntKind}{zs:List Int}{j:Nat}{v:V}(h:cell zs.length [] (bP (ul k zs) 0 .e) j=some v):∃z,zs[j]?=some z∧v= .i k z:=by
 rw[cV]at h
 split at h
 ·rename_i hj;rw[dt]at h;have hlen:(ul k zs).length=zs.length:=by rw[n9];simp
  rw[ac (by omega)]at h;rw[n9]at h;simp only[Nat.sub_zero,List.getElem?_map]at h;rw[List.getElem?_eq_getElem hj]at h;simp only[Option.map_some]at h;exact⟨zs[j],List.getElem?_eq_getElem hj,(ae h).symm⟩
 ·cases h
theorem Tu{P:Program}{E:cU}{F:RO}{M:Mem}{c:Nat→Prop}{w:World}{t:ES}(hr:kO P E F M c w)(h:rj F t=true):∃ty o,w.heap[E.ρ t.1]?=some o∧eg P E t.1 (qB ty t.2.1 t.2.2) o:=by
 unfold rj at h
 split at h
 ·rename_i ty n fz d cs hF;rw[aC,bR]at h;obtain⟨h0,h⟩:=h;have h0:=bT h0;subst h0;obtain⟨h1,h2⟩:=po h;have hl:look F M t.1=some (.cells ty fz false fz true d cs):=by
   rw[b5 (hr.apart t.1 (by rw[hF];rfl))];exact hF
  obtain⟨_,_,o,ho,arr,fr,rfl,hc⟩:=hr.has _ _ hl;have hn:t.2.2.length=fz:=by omega
  subst hn;refine⟨ty,_,ho,arr,fr,rfl,?_,hc.size,hc.free,hc.plain⟩;intro j v hv;obtain⟨z,hz,rfl⟩:=Tv (ty:=ty) hv;refine hc.cell j _ ?_;have:=h2 j z hz
  rwa [Nat.zero_add]at this
 ·cases h
theorem um{F:RO}:∀{L:List ES},fR F L=true→ ∀t∈L,t.1<1000∧rj F t=true
 |[],_,t,ht=>by cases ht
 |x::r,h,t,ht=>by
  have h':(Nat.blt x.1 1000&&(rj F x&&fR F r))=true:=h;rw[aC,aC,gg]at h';rcases bh.1 ht with e|ht'
  ·subst e;exact⟨bT h'.1,h'.2.1⟩
  ·exact um h'.2.2 t ht'
theorem DW{P:Program}{E:cU}{F:RO}{M:Mem}{c:Nat→Prop}{w:World}{L:List ES}(hr:kO P E F M c w)(hglob:∀g,g<1000→E.ρ g=g∧E.β g=0)(h:fR F L=true):∃ty,kO P E (AN L ty) .e c0 w:=by
 have hall:=um h
 have hty:∃ty:Nat→Nat,∀b,∀t∈L,t.1=b→ ∃o,w.heap[E.ρ b]?=some o∧eg P E b (qB (ty b) t.2.1 t.2.2) o:=by
  refine⟨fun b=>match w.heap[E.ρ b]? with|some (.cells _ ty _)=>ty|_=>0,fun b t ht e=>?_⟩;subst e;obtain⟨ty,o,ho,hB⟩:=Tu hr (hall t ht).2;have hB':=hB;obtain⟨arr,fr,rfl,_⟩:=hB;refine⟨_,ho,?_⟩;simp only[ho];exact hB'
 obtain⟨ty,hty⟩:=hty
 refine⟨ty,⟨?_,?_,fun b hb=>rfl⟩⟩
 ·intro b blk hb;rw[b5 (show(Tr.e:Mem).get b=none from rfl)]at hb;obtain⟨t,ht,e,rfl⟩:=AP hb;subst e;obtain⟨o,ho,hB⟩:=hty _ t ht rfl;exact⟨(hall t ht).1,aY3,o,ho,hB⟩
 ·intro b b' h1 h2 e;have lt:∀x,(look (AN L ty) .e x).isSome→x<1000:=by
   intro x hx;obtain⟨y,hy⟩:=bL.1 hx;rw[b5 (show(Tr.e:Mem).get x=none from rfl)]at hy;obtain⟨t,ht,e,_⟩:=AP hy;subst e;exact(hall t ht).1
  rw[(hglob b (lt b h1)).1,(hglob b' (lt b' h2)).1]at e;exact e
theorem rN{P:Program}(hm:P.follows .mixedOrders=true){Φ:Nat→Option CF}(hΦ:eR P Φ){fuel f:Nat}{L:List ES}(h:∀ty,isT (bF6 Φ fuel (AN L ty) f [])=true):
 dh P f (fun F args M ct=>match args with|[]=>bif fR F L then .k (.b true) M ct else .f|_=> .f):=by
 intro F args M ct v N ct' hg E c w hr hglob hbig hf ha
 cases args with
 |cons a r=>cases hg
 |nil=>
  have hg':(bif fR F L then RC.k (.b true) M ct else .f)= .k v N ct':=hg;cases ht:fR F L with
  |false=>rw[ht]at hg';cases hg'
  |true=>
   rw[ht]at hg';have hg2:RC.k (.b true) M ct= .k v N ct':=hg';injection hg2 with e1 e2 e3
   subst e1 e2 e3;obtain⟨ty,hrel⟩:=DW hr hglob ht;obtain⟨M',ct2,hk⟩:=RP (h ty);obtain⟨fn,h1,h2,h3,hC⟩:=ir (rd:=none) (fn:=0) (F₀:=[]) hΦ (th hm hΦ fuel) (AN L ty) f [] .e 1000 (.b true) M' ct2 hk E c0 w hrel hglob (fun g hg=>hg) (fun b hb hc=>Nat.lt_irrefl _ (Nat.lt_of_lt_of_le hc hb)) trivial;refine⟨fn,h1,h2,h3,hC.mono ?_⟩;rintro e w' ⟨E',c',rfl,hS,hb,hG⟩;have hfr:∀r,r<w.heap.size→w'.heap[r]?=w.heap[r]?:=fun r hr'=>hS.frame r hr' (fun b hb=>by cases hb);have hhas:∀b blk,look F M b=some blk→c b∧eS c blk∧ ∃o,w'.heap[E.ρ b]?=some o∧eg P E b blk o:=by
    intro b blk hb;obtain⟨g1,g2,o,ho,g3⟩:=hr.has b blk hb;exact⟨g1,g2,o,by rw[hfr _ (Array.getElem?_eq_some_iff.1 ho).1];exact ho,g3⟩
   exact⟨E,c,rfl,⟨.refl c E,fun _ h=>h,⟨hhas,hr.inj,hr.apart⟩,fun b hb=> .inl ⟨b,hb,rfl⟩,fun r hr' _=>hfr r hr',hS.size,hS.os,hS.output,hS.tape⟩,trivial,.refl _ _⟩
theorem Tr.setP_same{α:Type}(p:aR)(v w:α):∀t:Tr α,(t.setP p v).setP p w=t.setP p w:=by
 induction p with
 |h=>intro t;cases t<;>rfl
 |l p ih=>
  intro t;cases t with
  |e=>rw[Tr.setP_el,Tr.setP_l,ih,Tr.setP_el]
  |n l x r=>rw[Tr.setP_l,Tr.setP_l,ih,Tr.setP_l]
 |r p ih=>
  intro t;cases t with
  |e=>rw[Tr.setP_er,Tr.setP_r,ih,Tr.setP_er]
  |n l x r=>rw[Tr.setP_r,Tr.setP_r,ih,Tr.setP_r]
theorem qt{α:Type}(v:α):∀(f k:Nat),k+1<2^(f+1)→Tr.single (some v) f k=(Tr.e:Tr α).setP (kw f k) v
 |0,k,h=>by
  have:k=0:=by simp at h;omega
  subst this;rfl
 |f+1,k,h=>by
  have hp:(2:Nat)^(f+1+1)=2*2^(f+1):=by rw[Nat.pow_succ];omega
  rw[Tr.single_succ,r9];by_cases h0:k=0
  ·rw[ac h0,ac h0];rfl
  ·rw[ab h0,ab h0];by_cases h2:k%2=0
   ·rw[ac h2,ac h2,Tr.setP_er,qt v f _ (by omega)]
   ·rw[ab h2,ab h2,Tr.setP_el,qt v f _ (by omega)]
theorem oc{α:Type}(v:α)(t:Tr α):∀k:Nat,t.set k v=t.setP (br k) v:=by
 induction t with
 |e=>
  intro k;show(Tr.e:Tr α).put (some v) k=_;rw[Tr.put_e];refine qt v _ k ?_;have:=Nat.lt_log2_self (n:=k);have hp:(2:Nat)^(k.log2+1+1)=2*2^(k.log2+1):=by rw[Nat.pow_succ];omega
  omega
 |n l x r ihl ihr=>
  intro k;show(Tr.n l x r).put (some v) k=_;rw[Tr.put_n];by_cases h0:k=0
  ·subst h0;rfl
  ·rw[ab h0];by_cases h2:k%2=0
   ·rw[ac h2];have e:br k= .r (br (k/2-1)):=by rw[←tX];congr 1;omega
    rw[e,Tr.setP_r,←ihr];rfl
   ·rw[ab h2];have e:br k= .l (br (k/2)):=by rw[←wq];congr 1;omega
    rw[e,Tr.setP_l,←ihl];rfl
theorem pj{α:Type}(t:Tr α)(k:Nat)(v w:α):(t.set k v).set k w=t.set k w:=by
 rw[oc,oc,oc,Tr.setP_same]
theorem AF{α:Type}(t:Tr α){k j:Nat}(h:k≠j)(v w:α):(t.set k v).set j w=(t.set j w).set k v:=by
 rw[oc,oc,oc,oc,Tr.setP_comm (br k) v (br j) w t (fun e=>h (wp e).symm)]
def il(l:List V):T:=bP l 0 .e
theorem nA(v:V):∀(l:List V) (k i:Nat) (t:T),i<k→bP l k (t.set i v)=(bP l k t).set i v
 |[],k,i,t,h=>rfl
 |x::l,k,i,t,h=>by
  rw[cW,cW,AF _ (show i≠k by omega),nA v l (k+1) i _ (by omega)]
theorem tL(v:V):∀(l:List V) (k i:Nat) (t:T),i<l.length→(bP l k t).set (k+i) v=bP (l.set i v) k t
 |[],k,i,t,h=>by cases h
 |x::l,k,0,t,h=>by
  rw[List.set_cons_zero,cW,cW,aB k,←nA v l (k+1) k _ (by omega),pj]
 |x::l,k,i+1,t,h=>by
  rw[List.set_cons_succ,cW,cW,show k+(i+1)=(k+1)+i by omega,tL v l (k+1) i _ (by simpa using h)]
theorem SQ(v:V)(l:List V)(i:Nat)(h:i<l.length):(il l).set i v=il (l.set i v):=by
 have:=tL v l 0 i .e h
 rwa [Nat.zero_add]at this
def over:List V→Nat→List V→List V
 |l,_,[]=>l
 |l,i,v::r=>over (l.set i v) (i+1) r
theorem r8:∀(vs l:List V) (i:Nat),(over l i vs).length=l.length
 |[],l,i=>rfl
 |v::r,l,i=>by rw[over,r8 r];simp
theorem r7:∀(vs l:List V) (i:Nat),i+vs.length≤l.length→bP vs i (il l)=il (over l i vs)
 |[],l,i,h=>rfl
 |v::r,l,i,h=>by
  simp only[av]at h;rw[cW,SQ _ _ _ (by omega),over,r7 r _ _ (by simp;omega)]
def af(ty:Nat)(l:List V):bJ:= .cells ty l.length true 0 false [] (il l)
theorem sZ(l:List V)(i:Nat):cell l.length [] (il l) i=l[i]?:=by
 rw[cV]
 by_cases h:i<l.length
 ·rw[ac h];unfold il;rw[dt,ac (by omega)];simp only[Nat.sub_zero];rw[List.getElem?_eq_getElem h]
 ·rw[ab h,List.getElem?_eq_none (by omega)]
theorem qS(l:List V):∀(n i:Nat),i+n≤l.length→ea l.length [] (il l) n i=some ((l.drop i).take n)
 |0,i,h=>by rw[oJ];simp
 |n+1,i,h=>by
  rw[ic,sZ,List.getElem?_eq_getElem (by omega)];show(match ea l.length [] (il l) n (i+1)with|none=>none|some r=>some (l[i]::r))=_;rw[qS l n (i+1) (by omega)];simp only;rw[←List.getElem_cons_drop (by omega:i<l.length),List.take_succ_cons]
section
variable{Φ:Nat→Option CF}{rd:Option Nat}{fn:Nat}{F:RO}
theorem nD(M:Mem)(b:Nat)(x:bJ):look F (M.set b x) b=some x:=az (by rw[Tr.get_set,ac rfl])
theorem md(M:Mem){b b':Nat}(x:bJ)(h:b'≠b):look F (M.set b x) b'=look F M b':=cH (by rw[Tr.get_set,ab h])
theorem tM(M:Mem)(b o ty:Nat)(l:List V):load1 F (M.set b (af ty l)) b o=l[o]?:=by
 unfold load1
 rw[nD]
 exact sZ l o
theorem Ah(M:Mem){b b':Nat}(o:Nat)(x:bJ)(h:b'≠b):load1 F (M.set b x) b' o=load1 F M b' o:=by
 unfold load1
 rw[md M x h]
theorem bW(M:Mem)(b o n ty:Nat)(l:List V)(h:o+n≤l.length):loadN F (M.set b (af ty l)) b o n=some ((l.drop o).take n):=by
 unfold loadN
 rw[nD]
 exact qS l n o h
theorem S5(M:Mem){b b':Nat}(o n:Nat)(x:bJ)(h:b'≠b):loadN F (M.set b x) b' o n=loadN F M b' o n:=by
 unfold loadN
 rw[md M x h]
theorem rg(M:Mem)(b o ty:Nat)(l vs:List V)(h:o+vs.length≤l.length)(h1:aL vs=true):bS (M.set b (af ty l)) b o vs=some (M.set b (af ty (over l o vs))):=by
 have hg:(M.set b (af ty l)).get b=some (af ty l):=by rw[Tr.get_set,ac rfl]
 show Option.rec (motive:=fun _=>Option Mem) none (fun blk=>n7 (M.set b (af ty l)) b o vs blk) ((M.set b (af ty l)).get b)=_
 rw[hg]
 show(Bool.rec (motive:=fun _=>Option Mem) none (Bool.rec (motive:=fun _=>Option Mem) none (Bool.rec (motive:=fun _=>Option Mem) none (eE (M.set b (af ty l)) b o vs ty l.length true 0 false [] (il l)) (aL vs)) (Nat.ble 0 o)) (Nat.ble (Nat.add o vs.length) l.length))=_
 rw[bb,bb,bb,cB,cB,ah (show Nat.add o vs.length≤l.length from h),ah (ax o),h1]
 simp only[if_true]
 unfold eE
 rw[Tr.force_eq,Tr.force_eq,r7 _ _ _ h,pj]
 unfold af
 rw[r8]
theorem IA(M:Mem){b b':Nat}(o:Nat)(x:bJ)(vs:List V)(h:b'≠b){M':Mem}(hs:bS M b' o vs=some M'):bS (M.set b x) b' o vs=some (M'.set b x):=by
 obtain⟨ty,n,ex,fz,str,d,cs,hM,h1,h2,h3,rfl⟩:=mC hs
 have hg:(M.set b x).get b'=some (.cells ty n ex fz str d cs):=by rw[Tr.get_set,ab h];exact hM
 show Option.rec (motive:=fun _=>Option Mem) none (fun blk=>n7 (M.set b x) b' o vs blk) ((M.set b x).get b')=_
 rw[hg]
 show(Bool.rec (motive:=fun _=>Option Mem) none (Bool.rec (motive:=fun _=>Option Mem) none (Bool.rec (motive:=fun _=>Option Mem) none (eE (M.set b x) b' o vs ty n ex fz str d cs) (aL vs)) (Nat.ble fz o)) (Nat.ble (Nat.add o vs.length) n))=_
 rw[bb,bb,bb,cB,cB,ah (show Nat.add o vs.length≤n from h1),ah h2,h3]
 simp only[if_true]
 unfold eE
 rw[Tr.force_eq,Tr.force_eq,AF _ (Ne.symm h)]
def bB0(F:RO)(M:Mem)(x:V):Option V:=(cS (.ld1 (.c x)) F M .e).val
def bB5(n:Nat)(F:RO)(M:Mem)(x:V):Option V:=(cS (.ldn n (.c x)) F M .e).val
theorem bJ4(x:X)(M:Mem)(t:T):(cS (.ld1 x) F M t).val=bB0 F M (x.ev t):=rfl
theorem bJ5(n:Nat)(x:X)(M:Mem)(t:T):(cS (.ldn n x) F M t).val=bB5 n F M (x.ev t):=rfl
theorem bB1(M:Mem)(b o:Nat):bB0 F M (.p b o)=load1 F M b o:=by
 show(qrb b (load1 F M b o)).val=_
 cases load1 F M b o<;>rfl
theorem bB6(n:Nat)(M:Mem)(b o:Nat):bB5 n F M (.p b o)=(loadN F M b o n).map .g:=by
 show(qgb b (loadN F M b o n)).val=_
 cases loadN F M b o n<;>rfl
theorem bJ1(off:Nat)(x:X)(M:Mem)(t:T):(cS (.fa off x) F M t).val=match x.ev t with| .p b o=>some (.p b (o+off))|_=>none:=by
 show(rL (x.ev t) .f fun b o=>uL b (Nat.add o off)).val=_
 cases x.ev t with
 |p b o=>
  show(uL b (Nat.add o off)).val=_;unfold uL;rw[bA];rfl
 |_=>rfl
theorem VM(ty:Nat)(cs:List V)(b:Nat)(t:T)(h:aL cs=true):ju (.al ty cs) b t=some (.p b 0,af ty cs):=by
 show(bif aL cs then some (V.p b 0,bJ.cells ty cs.length true 0 false [] (bP cs 0 .e))else none)=_
 rw[h];rfl
theorem VQ(ty sz:Nat)(x:X)(b:Nat)(t:T):ju (.bx ty sz x) b t=if(flatten (x.ev t)).length=sz∧aL (flatten (x.ev t))=true then some (.p b 0,af ty (flatten (x.ev t)))else none:=by
 show(bif Nat.beq (flatten (x.ev t)).length sz&&aL (flatten (x.ev t))then some (V.p b 0,bJ.cells ty sz true 0 false [] (bP (flatten (x.ev t)) 0 .e))else none)=_
 rw[bR]
 by_cases h:(flatten (x.ev t)).length=sz
 ·rw[ah h];cases ha:aL (flatten (x.ev t))with
  |true=>rw[ac ⟨h,rfl⟩,←h];rfl
  |false=>rw[ab (fun hh=>by cases hh.2)];rfl
 ·rw[ag h,ab (fun hh=>h hh.1)];rfl
theorem xR(n:Nat)(x v:X)(M:Mem)(c:Nat)(t:T):eU (.st n x v) (K Φ rd fn F) M c t=match x.ev t with
 | .p b o=>if(flatten (v.ev t)).length=n then er c (bS M b o (flatten (v.ev t)))else .f
 |_=> .f:=by
 show(rL (x.ev t) .f fun b o=>vV n b o (flatten (v.ev t)) M c)=_
 cases x.ev t with
 |p b o=>
  show vV n b o (flatten (v.ev t)) M c=_;unfold vV;rw[bb,bR];simp only[decide_eq_true_eq]
 |_=>rfl
theorem WA(c:Nat)(M:Mem):er c (some M)= .k undef M c:=rfl
end
section
variable{Φ:Nat→Option CF}{rd:Option Nat}{fn:Nat}{F:RO}
def ofO(o:Option V)(M:Mem)(c:Nat):RC:=match o with
 |some v=> .k v M c
 |none=> .f
theorem SB(h:List V→Option V)(F:RO)(args:List V)(M:Mem)(c:Nat):aO h F args M c=ofO (h args) M c:=rfl
theorem Sa(v:V)(M:Mem)(c:Nat):ofO (some v) M c= .k v M c:=rfl
theorem Hs(x:Bool):flatten (.b x)=[.b x]:=rfl
theorem Hv(k:IntKind)(x:Int):flatten (.i k x)=[.i k x]:=rfl
theorem Hz(n x:Nat):flatten (.s n x)=[.s n x]:=rfl
theorem Hy(b o:Nat):flatten (.p b o)=[.p b o]:=rfl
theorem Db:flatten .p0=[.p0]:=rfl
theorem Hw(b o n c:Nat):flatten (.l b o n c)=[.l b o n c]:=rfl
theorem HA(b o n e k:Nat):flatten (.u b o n e k)=[.u b o n e k]:=rfl
theorem D9:flatten .l0=[.l0]:=rfl
theorem Hx(b:Nat):flatten (.m b)=[.m b]:=rfl
theorem Da:flatten .m0=[.m0]:=rfl
theorem Ht(f:Nat)(a b:List V):flatten (.f f a b)=[.f f a b]:=rfl
theorem D8:flatten .f0=[.f0]:=rfl
theorem Hu(l:List V):flatten (.g l)=l:=rfl
theorem bZ:aL []=true:=rfl
theorem aw(v:V)(l:List V):aL (v::l)=(bO v&&aL l):=by
 show Bool.rec (motive:=fun _=>Bool) false (aL l) (bO v)=_
 cases bO v<;>rfl
theorem WN(x:Bool):bO (.b x)=true:=rfl
theorem WP(k:IntKind)(x:Int):bO (.i k x)=true:=rfl
theorem WU(n x:Nat):bO (.s n x)=true:=rfl
theorem WT(b o:Nat):bO (.p b o)=true:=rfl
theorem RN:bO .p0=true:=rfl
theorem WQ(b o n c:Nat):bO (.l b o n c)=true:=rfl
theorem WV(b o n e k:Nat):bO (.u b o n e k)=true:=rfl
theorem RM:bO .l0=true:=rfl
theorem WR(b:Nat):bO (.m b)=true:=rfl
theorem WO(f:Nat)(a b:List V):bO (.f f a b)=true:=rfl
theorem RL:bO .f0=true:=rfl
def qY(cs:List V):List (Nat×Nat×List V)→Option (List V)
 |[]=>some cs
 |(o,n,vs)::r=>if vs.length=n then(match eX cs o vs with|some cs=>qY cs r|none=>none)else none
theorem o7:∀(o:Nat) (l vs:List V),o+vs.length≤l.length→eX l o vs=some (over l o vs)
 |0,l,[],h=>by cases l<;>rfl
 |0,[],v::r,h=>by simp at h
 |0,x::l,v::r,h=>by
  have key:∀(r l:List V) (v:V),over (v::l) 1 r=v::over l 0 r:=by
   have gen:∀(r l:List V) (v:V) (i:Nat),over (v::l) (i+1) r=v::over l i r:=by
    intro r
    induction r with
    |nil=>intro l v i;rfl
    |cons a r ih=>intro l v i;rw[over,over,List.set_cons_succ,ih]
   exact fun r l v=>gen r l v 0
  rw[eX,o7 0 l r (by simp at h;omega),over,List.set_cons_zero,key]
 |o+1,[],vs,h=>by simp at h
 |o+1,x::l,vs,h=>by
  have gen:∀(r l:List V) (v:V) (i:Nat),over (v::l) (i+1) r=v::over l i r:=by
   intro r
   induction r with
   |nil=>intro l v i;rfl
   |cons a r ih=>intro l v i;rw[over,over,List.set_cons_succ,ih]
  rw[eX,o7 o l vs (by simp at h;omega),gen]
def evP(t:T):List (Nat×Nat×X)→List (Nat×Nat×List V)
 |[]=>[]
 |(o,n,x)::r=>(o,n,flatten (x.ev t))::evP t r
theorem WB(t:T):evP t []=[]:=rfl
theorem zZ(t:T)(o n:Nat)(x:X)(r:List (Nat×Nat×X)):evP t ((o,n,x)::r)=(o,n,flatten (x.ev t))::evP t r:=rfl
theorem Hq(cs:List V):qY cs []=some cs:=rfl
theorem ti(cs:List V)(o n:Nat)(vs:List V)(r:List (Nat×Nat×List V)):qY cs ((o,n,vs)::r)=if vs.length=n then(match eX cs o vs with|some cs=>qY cs r|none=>none)else none:=rfl
theorem Sj(l:List V)(i:Nat):over l i []=l:=rfl
theorem HW(l:List V)(i:Nat)(v:V)(r:List V):over l i (v::r)=over (l.set i v) (i+1) r:=rfl
theorem oN(t:T):∀(ps:List (Nat×Nat×X)) (cs:List V),fillParts t cs ps=qY cs (evP t ps)
 |[],cs=>rfl
 |(o,n,x)::ps,cs=>by
  rw[zZ,ti,fillParts,bR];by_cases hc:(flatten (x.ev t)).length=n
  ·rw[ah hc,cond_true,ac hc];cases eX cs o (flatten (x.ev t))with
   |none=>rfl
   |some cs'=>exact oN t ps cs'
  ·rw[ag hc,cond_false,ab hc]
theorem aF6(zero:List V)(ps:List (Nat×Nat×X))(M:Mem)(t:T):(cS (.bld zero ps) F M t).val=(qY zero (evP t ps)).map .g:=by
 show(qg (fillParts t zero ps)).val=_
 rw[oN]
 cases qY zero (evP t ps)<;>rfl
theorem aF7(off:Nat)(x:X)(M:Mem)(t:T):(cS (.fl1 off x) F M t).val=match x.ev t with| .g cs=>cs[off]?|_=>none:=by
 show(DB (x.ev t) .f fun cs=>qr (oT cs off)).val=_
 cases x.ev t with
 |g cs=>
  show(qr (oT cs off)).val=cs[off]?;rw[jl];cases cs[off]?<;>rfl
 |_=>rfl
theorem bJ2(off n:Nat)(x:X)(M:Mem)(t:T):(cS (.fln off n x) F M t).val=match x.ev t with| .g cs=>(mE n (jz off cs)).map .g|_=>none:=by
 show(DB (x.ev t) .f fun cs=>qg (mE n (jz off cs))).val=_
 cases x.ev t with
 |g cs=>
  show(qg (mE n (jz off cs))).val=(mE n (jz off cs)).map .g;cases mE n (jz off cs)<;>rfl
 |_=>rfl
theorem bJ0(i:Nat)(x:X)(M:Mem)(t:T):(cS (.ex i x) F M t).val=match x.ev t with| .t cs=>cs[i]?|_=>none:=by
 show(u1 i x F M t).val=_
 unfold u1
 cases x.ev t with
 |t cs=>
  show(qr (oT cs i)).val=cs[i]?;rw[jl];cases cs[i]?<;>rfl
 |_=>rfl
theorem bI8(k:IntKind)(x:X)(M:Mem)(t:T):(cS (.ci k x) F M t).val=match x.ev t with| .i _ n=>some (.i k (k.wrap n))|_=>none:=by
 show(tR (x.ev t) .f fun _ n=>vI k (wr k n)).val=_
 cases x.ev t with
 |i k' n=>
  show(vI k (wr k n)).val=_;rw[fU,jV];rfl
 |_=>rfl
def aM9:Option Bool→Option Bool→Option Bool
 |some b,r=>if b=true then r else some false
 |none,_=>none
theorem H3(b c:Bool):aM9 (some b) (some c)=some (b&&c):=by cases b<;>rfl
def bx9(F:RO)(M:Mem)(sh:Sh)(x y:Option V):Option Bool:=match x,y with
 |some x,some y=>Br F M sh false x y
 |_,_=>none
theorem Hn(M:Mem)(sh:Sh)(x y:V):bx9 F M sh (some x) (some y)=Br F M sh false x y:=rfl
theorem Hm(M:Mem)(xs ys:List V):kT F M xs ys []=some true:=rfl
theorem nU(M:Mem)(xs ys:List V)(o:Nat)(sh:Sh)(r:List (Nat×Sh)):kT F M xs ys ((o,sh)::r)=aM9 (bx9 F M sh (xs[o]?) (ys[o]?)) (kT F M xs ys r):=by
 rw[kT,jl,jl]
 cases xs[o]? with
 |none=>rfl
 |some x=>
  cases ys[o]? with
  |none=>rfl
  |some y=>
   show(match Br F M sh false x y with|some true=>kT F M xs ys r|r=>r)=aM9 (Br F M sh false x y) _;cases Br F M sh false x y with
   |none=>rfl
   |some b=>cases b<;>rfl
def X9(neg:Bool):Option Bool→Option V
 |some r=>some (.b (bif neg then !r else r))
 |none=>none
theorem aU0(r:Bool):X9 false (some r)=some (.b r):=rfl
theorem aU1(r:Bool):X9 true (some r)=some (.b (!r)):=rfl
theorem bI9(neg:Bool)(sh:Sh)(lit:Bool)(x y:X)(M:Mem)(t:T):(cS (.eq neg sh lit x y) F M t).val=X9 neg (zh F M sh lit (x.ev t) (y.ev t)):=by
 show(ww neg (zh F M sh lit (x.ev t) (y.ev t))).val=_
 cases zh F M sh lit (x.ev t) (y.ev t)with
 |none=>rfl
 |some r=>
  show(vB (bif neg then !r else r)).val=_;rw[mH];rfl
theorem Wx(ks:List (Nat×Sh))(lit:Bool)(M:Mem)(xs ys:List V):zh F M (.agg ks) lit (.g xs) (.g ys)=kT F M xs ys ks:=rfl
theorem Wy(lit:Bool)(M:Mem)(k:IntKind)(a b:Int):zh F M .int lit (.i k a) (.i k b)=some (decide (a=b)):=by
 show Ww (.i k a) (.i k b)=_
 simp[Ww,eK,da]
theorem Wv(lit:Bool)(M:Mem)(k:IntKind)(a b:Int):Br F M .int lit (.i k a) (.i k b)=some (decide (a=b)):=by
 show Ww (.i k a) (.i k b)=_
 simp[Ww,eK,da]
theorem zU(lit:Bool)(M:Mem)(a b:Bool):Br F M .bool lit (.b a) (.b b)=some (decide (a=b)):=by
 show eqB (.b a) (.b b)=_
 cases a<;>cases b<;>rfl
theorem bQ7(x:X)(as:List X)(M:Mem)(c:Nat)(t:T):eU (.cv x as) (K Φ rd fn F) M c t=oI (K Φ rd fn F) (x.ev t) (evs as t) M c:=rfl
theorem Wb(f:Nat)(first caps args:List V)(M:Mem)(c:Nat):oI (K Φ rd fn F) (.f f first caps) args M c=cT (iu Φ) F f (first++(args++caps)) M c (Φ f):=rfl
theorem bJ6(f:Nat)(first caps:List X)(M:Mem)(t:T):(cS (.mkf f first caps) F M t).val=some (.f f (evs first t) (evs caps t)):=rfl
theorem XE(M:Mem)(t:T)(p:aR)(sz:Nat)(r:List RV):dV F M t (.cn p sz::r)=match cE t p with
 | .p b o=>match loadN F M b o sz with|some l=>vQ (.g l) (dV F M t r)|none=>none
 |_=>none:=by
 show Option.rec (motive:=fun _=>Option (List V)) none (fun v=>rQ v (dV F M t r)) (wz F M t (.cn p sz))=_
 show Option.rec (motive:=fun _=>Option (List V)) none (fun v=>rQ v (dV F M t r)) (rL (cE t p) none fun b o=>Option.rec (motive:=fun _=>Option V) none (fun l=>some (.g l)) (loadN F M b o sz))=_
 cases cE t p with
 |p b o=>
  show Option.rec (motive:=fun _=>Option (List V)) none (fun v=>rQ v (dV F M t r)) (Option.rec (motive:=fun _=>Option V) none (fun l=>some (.g l)) (loadN F M b o sz))=_;simp only;cases loadN F M b o sz with
  |none=>rfl
  |some l=>
   show rQ (.g l) (dV F M t r)=vQ (.g l) (dV F M t r);cases dV F M t r<;>rfl
 |_=>rfl
theorem XD(M:Mem)(t:T)(p:aR)(r:List RV):dV F M t (.c1 p::r)=match cE t p with
 | .p b o=>match load1 F M b o with|some v=>vQ v (dV F M t r)|none=>none
 |_=>none:=by
 show Option.rec (motive:=fun _=>Option (List V)) none (fun v=>rQ v (dV F M t r)) (rL (cE t p) none fun b o=>load1 F M b o)=_
 cases cE t p with
 |p b o=>
  show Option.rec (motive:=fun _=>Option (List V)) none (fun v=>rQ v (dV F M t r)) (load1 F M b o)=_;simp only;cases load1 F M b o with
  |none=>rfl
  |some v=>
   show rQ v (dV F M t r)=vQ v (dV F M t r);cases dV F M t r<;>rfl
 |_=>rfl
def r5(len sz:Nat)(x i:V):Option V:=(cS (.ixA1 len sz (.c x) (.c i)) [] .e .e).val
theorem TI(len sz:Nat)(x i:X)(M:Mem)(t:T):(cS (.ixA1 len sz x i) F M t).val=r5 len sz (x.ev t) (i.ev t):=rfl
theorem pU(len:Nat)(cs:List V)(k:IntKind)(n:Int):r5 len 1 (.g cs) (.i k n)=if 0≤n∧n<len then cs[n.toNat]? else none:=by
 show(DB (V.g cs) QR.f fun cs=>oQ len 1 cs (rE (.i k n))).val=_
 show(oQ len 1 cs (rE (.i k n))).val=_
 cases n with
 |ofNat m=>
  show(bif Nat.blt m len then qr (oT cs (Nat.mul m 1))else QR.f).val=_;rw[gg];by_cases h:m<len
  ·rw[ah h,cond_true,ac ⟨Int.natCast_nonneg m,Int.ofNat_lt.2 h⟩];show(qr (oT cs (Nat.mul m 1))).val=_;rw[jl,show Nat.mul m 1=m from Nat.mul_one m];show _=cs[m]?;cases cs[m]?<;>rfl
  ·rw[ag h,cond_false,ab (fun hh=>h (Int.ofNat_lt.1 hh.2))];rfl
 |negSucc m=>
  rw[ab (fun hh=>by have:=hh.1;exact absurd this (by simp))];rfl
theorem getD_some{l:List V}{i:Nat}(h:i<l.length)(d:V):l[i]?=some ((l[i]?).getD d):=by
 rw[List.getElem?_eq_getElem h];rfl
def bC3(b:Nat)(x:bJ):Option Mem→Option Mem
 |some M=>some (M.set b x)
 |none=>none
theorem HQ(b:Nat)(x:bJ)(M:Mem):bC3 b x (some M)=some (M.set b x):=rfl
theorem Ee(M:Mem){b b':Nat}(o:Nat)(x:bJ)(vs:List V)(h:b'≠b):bS (M.set b x) b' o vs=bC3 b x (bS M b' o vs):=by
 cases hs:bS M b' o vs with
 |some M'=>rw[IA M o x vs h hs];rfl
 |none=>
  cases hs2:bS (M.set b x) b' o vs with
  |none=>rfl
  |some M2=>
   exfalso;obtain⟨ty,n,ex,fz,str,d,cs,hM,h1,h2,h3,_⟩:=mC hs2;rw[Tr.get_set,ab h]at hM;have:bS M b' o vs=some (M.set b' (.cells ty n ex fz str d (bP vs o cs))):=by
    show Option.rec (motive:=fun _=>Option Mem) none (fun blk=>n7 M b' o vs blk) (M.get b')=_;rw[hM];show(Bool.rec (motive:=fun _=>Option Mem) none (Bool.rec (motive:=fun _=>Option Mem) none (Bool.rec (motive:=fun _=>Option Mem) none (eE M b' o vs ty n ex fz str d cs) (aL vs)) (Nat.ble fz o)) (Nat.ble (Nat.add o vs.length) n))=_;rw[bb,bb,bb,cB,cB,ah (show Nat.add o vs.length≤n from h1),ah h2,h3];simp only[if_true];unfold eE;rw[Tr.force_eq,Tr.force_eq]
   rw[hs]at this;cases this
theorem X6(c n:Nat):(c≠c+(n+1))=True:=eq_true (by omega)
theorem X7(c n:Nat):(c+(n+1)≠c)=True:=eq_true (by omega)
theorem aT9(c i j:Nat)(h:(i==j)=false):(c+i≠c+j)=True:=eq_true (fun e=>by
 have:i=j:=by omega
 rw[beq_eq_false_iff_ne]at h
 exact h this)
def To(Φ:Nat→Option CF)(f:Nat)(args:List V)(ct:Nat)(v:V):Prop:=∃M1 ct1,cT (iu Φ) [] f args .e ct (Φ f)= .k v M1 ct1
theorem eL{f n:Nat}{res:List RV}{body:CC}{args:List V}{c:Nat}{v:V}(hf:Φ f=some (.mk n res body))
 (h:Wp body (K Φ none f []) (.mk (bz n args) [] .e c) (nk [] res fun v' _ _=>v'=v)):To Φ f args c v:=by
 obtain⟨v',M',c',h1,rfl⟩:=vN hf h
 exact⟨M',c',h1⟩
end
theorem mJ{n:Int}(h1: -9223372036854775808≤n)(h2:n<9223372036854775808):IntKind.i64.wrap n=n:=by
 rw[uA .i64 n 18446744073709551616 9223372036854775808 rfl rfl rfl]
 split<;>omega
theorem aN8(k:IntKind)(a b:Int):cz .mul (.i k a) (.i k b)=some (.i k (k.wrap (a*b))):=by
 show _=some (V.i k (k.wrap (Int.mul a b)))
 cases k<;>simp[cz,fp,ec,pK,aA9,gS,tF,fU,jV,QR.val]
theorem aX(a b:Int)(h1: -9223372036854775808≤a+b)(h2:a+b<9223372036854775808):cz .add (.i .i64 a) (.i .i64 b)=some (.i .i64 (a+b)):=by
 rw[aN2,mJ h1 h2]
theorem Fj(a b:Int)(h1: -9223372036854775808≤a*b)(h2:a*b<9223372036854775808):cz .mul (.i .i64 a) (.i .i64 b)=some (.i .i64 (a*b)):=by
 rw[aN8,mJ h1 h2]
section
variable{Φ:Nat→Option CF}{rd:Option Nat}{fn:Nat}{F:RO}
def ly(base:Nat)(ops:List (Nat×Nat×CO))(k:Kn)(s:DS)(R:DS→Prop):Prop:=∃s',ie k base ops s=some s'∧R s'
def az7(d:List Nat)(Q:Ex→St→Prop):DS→Prop
 | .mk t M c pend _=>Q .nrm (.mk t d (d9 pend M) c)
theorem Y1(n:Nat)(ops:List (Nat×Nat×CO))(k:Kn)(t:T)(d:List Nat)(M:Mem)(c:Nat)(Q:Ex→St→Prop):
 Wp (.dreg n ops) k (.mk t d M c) Q=ly c ops k (.mk t M (c+n) [] []) (az7 d Q):=by
 have he:bg (.dreg n ops) k (.mk t d M c)=t8 d (ie k c ops (.mk t M (c+n) [] [])):=by
  show(fN (Nat.add c n) fun c'=>t8 d (ie k c ops (.mk t M c' [] [])))=_;rw[bA];rfl
 apply propext;constructor
 ·rintro⟨e,s',h,q⟩;rw[he]at h;cases hs:ie k c ops (.mk t M (c+n) [] [])with
  |none=>rw[hs]at h;cases h
  |some s1=>
   rw[hs]at h;obtain⟨t1,M1,c1,p1,r1⟩:=s1;have h2:((d9 p1 M1).force fun M=>Rs.k .nrm (.mk t1 d M c1))= .k e s':=h;rw[Tr.force_eq]at h2;injection h2 with a1 a2
   subst a1 a2;exact⟨_,hs,q⟩
 ·rintro⟨s1,hs,q⟩;obtain⟨t1,M1,c1,p1,r1⟩:=s1;refine⟨_,_,?_,q⟩;rw[he,hs];show((d9 p1 M1).force fun M=>Rs.k .nrm (.mk t1 d M c1))=_;rw[Tr.force_eq]
theorem Ri(d:List Nat)(Q:Ex→St→Prop)(t:T)(M:Mem)(c:Nat)(pend:List (Nat×Nat×bJ))(reads:List (Nat×Nat)):az7 d Q (.mk t M c pend reads)=Q .nrm (.mk t d (d9 pend M) c):=Eq.trans rfl (Eq.refl _)
theorem ii(M:Mem):d9 [] M=M:=Eq.trans rfl (Eq.refl _)
theorem bl6(base:Nat)(k:Kn)(s:DS)(R:DS→Prop):ly base [] k s R=R s:=by
 apply propext;constructor
 ·rintro⟨s',h,q⟩;cases h;exact q
 ·exact fun q=>⟨_,rfl,q⟩
theorem eM(base:Nat)(o:Nat×Nat×CO)(r:List (Nat×Nat×CO))(k:Kn)(s:DS)(R:DS→Prop):ly base (o::r) k s R↔ ∃s',rG k base o s=some s'∧ly base r k s' R:=by
 constructor
 ·rintro⟨s',h,q⟩;rw[ie]at h;cases hs:rG k base o s with
  |none=>rw[hs]at h;cases h
  |some s1=>rw[hs]at h;exact⟨s1,rfl,s',h,q⟩
 ·rintro⟨s1,h1,s',h2,q⟩;exact⟨s',by rw[ie,h1];exact h2,q⟩
def lq(o:QO)(F:RO)(M:Mem)(t:T):QR:=Hi o F M t (cS o F M t)
def aL1(q:QR)(base i:Nat)(p:aR)(r:List (Nat×Nat×CO))(k:Kn)(t:T)(M:Mem)(c:Nat)(pend:List (Nat×Nat×bJ))(reads:List (Nat×Nat))(R:DS→Prop):Prop:=match q with
 | .f=>False
 | .v x=>ly base r k (.mk (t.setP p x) M c pend reads) R
 | .r x b=>ly base r k (.mk (t.setP p x) M c pend ((i,b)::reads)) R
theorem aV9(x:V)(base i:Nat)(p:aR)(r:List (Nat×Nat×CO))(k:Kn)(t:T)(M:Mem)(c:Nat)(pend:List (Nat×Nat×bJ))(reads:List (Nat×Nat))(R:DS→Prop):
 aL1 (.v x) base i p r k t M c pend reads R=ly base r k (.mk (t.setP p x) M c pend reads) R:=Eq.trans rfl (Eq.refl _)
theorem aV8(x:V)(b base i:Nat)(p:aR)(r:List (Nat×Nat×CO))(k:Kn)(t:T)(M:Mem)(c:Nat)(pend:List (Nat×Nat×bJ))(reads:List (Nat×Nat))(R:DS→Prop):
 aL1 (.r x b) base i p r k t M c pend reads R=ly base r k (.mk (t.setP p x) M c pend ((i,b)::reads)) R:=Eq.trans rfl (Eq.refl _)
theorem cg8(base i mask:Nat)(p:aR)(o:QO)(r:List (Nat×Nat×CO))(t:T)(M:Mem)(c:Nat)(pend:List (Nat×Nat×bJ))(reads:List (Nat×Nat))(R:DS→Prop):
 ly base ((i,mask,.mk (some p) (.q o) none)::r) (K Φ rd fn F) (.mk t M c pend reads) R=aL1 (lq o F M t) base i p r (K Φ rd fn F) t M c pend reads R:=by
 have he:rG (K Φ rd fn F) base (i,mask,.mk (some p) (.q o) none) (.mk t M c pend reads)=rH i (some p) t M c pend reads (lq o F M t):=rfl
 apply propext
 rw[eM,he]
 cases lq o F M t with
 |f=>exact⟨fun⟨s',h,_⟩=>(by cases h),False.elim⟩
 |v x=>
  have:rH i (some p) t M c pend reads (.v x)=some (.mk (t.setP p x) M c pend reads):=by
   show((setT t (some p) x).force fun t=>some (DS.mk t M c pend reads))=_;rw[Tr.force_eq];rfl
  rw[this];constructor
  ·rintro⟨s',h,q⟩;obtain rfl:=ae h;exact q
  ·exact fun q=>⟨_,rfl,q⟩
 |r x b=>
  have:rH i (some p) t M c pend reads (.r x b)=some (.mk (t.setP p x) M c pend ((i,b)::reads)):=by
   show((setT t (some p) x).force fun t=>some (DS.mk t M c pend ((i,b)::reads)))=_;rw[Tr.force_eq];rfl
  rw[this];constructor
  ·rintro⟨s',h,q⟩;obtain rfl:=ae h;exact q
  ·exact fun q=>⟨_,rfl,q⟩
def oV:Option V→QR
 |none=> .f
 |some x=> .v x
theorem Xd(x:V):oV (some x)= .v x:=Eq.trans rfl (Eq.refl _)
theorem fE{o:QO}{M:Mem}{t:T}(h:∀F' M',cS o F' M' t=oV (cS o [] .e t).val):lq o F M t=oV (cS o F M t).val:=by
 have h1:=h F M
 have h0:=h [] .e
 unfold lq
 rw[h1]
 cases hv:(cS o [] .e t).val with
 |none=>rfl
 |some x=>
  show cS o [] .e t= .v x;rw[h0,hv];rfl
theorem bI6(k:IntKind)(n:Int):vI k n=oV (vI k n).val:=by rw[fU];rfl
theorem bx2(x:X)(M:Mem)(t:T):lq (.mv x) F M t= .v (x.ev t):=Eq.trans rfl (Eq.refl _)
theorem bw8(k:IntKind)(x:X)(M:Mem)(t:T):lq (.ci k x) F M t=oV (match x.ev t with| .i _ n=>some (.i k (k.wrap n))|_=>none):=by
 refine(fE ?_).trans (congrArg oV (bI8 (F:=F) k x M t))
 intro F' M'
 show(tR (x.ev t) QR.f fun _ n=>vI k (wr k n))=oV (tR (x.ev t) QR.f fun _ n=>vI k (wr k n)).val
 cases x.ev t with
 |i k' n=>exact bI6 _ _
 |_=>rfl
theorem jJ{q:QR}(h:q= .f∨ ∃x,q= .v x):q=oV q.val:=by
 rcases h with rfl|⟨x,rfl⟩<;>rfl
theorem aO1(op:BinOp)(k:IntKind)(a:Int)(k':IntKind)(b:Int):fp op k a k' b= .f∨ ∃x,fp op k a k' b= .v x:=by
 have hb:∀(c:Bool) (q:QR),(q= .f∨ ∃x,q= .v x)→(Bool.rec (motive:=fun _=>QR) .f q c= .f∨ ∃x,(Bool.rec (motive:=fun _=>QR) .f q c:QR)= .v x):=by
  intro c q h;cases c
  ·exact .inl rfl
  ·exact h
 have vi:∀k n,vI k n= .f∨ ∃x,vI k n= .v x:=fun k n=> .inr ⟨_,fU k n⟩
 have vb:∀b,vB b= .f∨ ∃x,vB b= .v x:=fun b=> .inr ⟨_,mH b⟩
 cases op with
 |add=>exact hb _ _ (vi _ _)
 |sub=>exact hb _ _ (vi _ _)
 |mul=>exact hb _ _ (vi _ _)
 |quo=>
  refine hb _ _ ?_;have e:qN k a b= .f∨ ∃x,qN k a b= .v x:=by
   unfold qN;cases Ho b 0
   ·exact vi _ _
   ·exact .inl rfl
  exact e
 |rem=>
  refine hb _ _ ?_;have e:vK k a b= .f∨ ∃x,vK k a b= .v x:=by
   unfold vK;cases Ho b 0
   ·exact vi _ _
   ·exact .inl rfl
  exact e
 |and=>exact hb _ _ (vi _ _)
 |or=>exact hb _ _ (vi _ _)
 |xor=>exact hb _ _ (vi _ _)
 |andNot=>exact hb _ _ (vi _ _)
 |eql=>exact hb _ _ (vb _)
 |neq=>exact hb _ _ (vb _)
 |lss=>exact hb _ _ (vb _)
 |leq=>exact hb _ _ (vb _)
 |gtr=>exact hb _ _ (vb _)
 |geq=>exact hb _ _ (vb _)
 |shl=>
  show aX4 k a b= .f∨ ∃x,aX4 k a b= .v x;cases b with
  |ofNat n=>exact vi _ _
  |negSucc n=>exact .inl rfl
 |shr=>
  show aX5 k a b= .f∨ ∃x,aX5 k a b= .v x;cases b with
  |ofNat n=>exact vi _ _
  |negSucc n=>exact .inl rfl
theorem bw7(op:BinOp)(x y:X)(M:Mem)(t:T){k k':IntKind}{a b:Int}(hx:x.ev t= .i k a)(hy:y.ev t= .i k' b):lq (.bi op x y) F M t=oV (cz op (x.ev t) (y.ev t)):=by
 rw[←bI7 (F:=F) op x y M t]
 refine fE ?_
 intro F' M'
 have e:∀F' M',cS (.bi op x y) F' M' t=fp op k a k' b:=by
  intro F' M';show Aq op x y F' M' t=_;unfold Aq;rw[hx];show(tR (y.ev t) QR.f fun k' b=>fp op k a k' b)=_;rw[hy];rfl
 rw[e,e]
 exact jJ (aO1 op k a k' b)
theorem bx0(i:Nat)(x:X)(M:Mem)(t:T):lq (.ex i x) F M t=oV (match x.ev t with| .t cs=>cs[i]?|_=>none):=by
 refine(fE ?_).trans (congrArg oV (bJ0 (F:=F) i x M t))
 intro F' M'
 show u1 i x F' M' t=oV (u1 i x [] .e t).val
 unfold u1
 cases x.ev t with
 |t cs=>
  show qr (oT cs i)=oV (qr (oT cs i)).val;cases oT cs i<;>rfl
 |_=>rfl
theorem aQ5(x:X)(M:Mem)(t:T){b o:Nat}{v:V}(hx:x.ev t= .p b o)(h:load1 F M b o=some v):lq (.ld1 x) F M t= .r v b:=by
 have hq:∀F' M',cS (.ld1 x) F' M' t=qrb b (load1 F' M' b o):=by
  intro F' M';show(rL (x.ev t) QR.f fun b o=>qrb b (load1 F' M' b o))=_;rw[hx];rfl
 unfold lq
 rw[hq,h]
 show R9 (.ld1 x) t b (look F M b)=_
 unfold load1 at h
 cases hl:look F M b with
 |none=>rw[hl]at h;cases h
 |some blk=>
  rw[hl]at h;show Av b (cS (.ld1 x) [(b,blk)] .e t)=_;rw[hq];have h2:load1 [(b,blk)] .e b o=some v:=by
   unfold load1;have:look [(b,blk)] (.e:Mem) b=some blk:=by
    rw[b5 (show(Tr.e:Mem).get b=none from rfl)];show Bool.rec (motive:=fun _=>Option bJ) _ (some blk) (Nat.beq b b)=_;rw[bb,bR];simp
   rw[this];exact h
  rw[h2];rfl
theorem DY(M:Mem):bQ M []=true:=Eq.trans rfl (Eq.refl _)
theorem yp(mask i b:Nat)(r:List (Nat×Nat))(h:testBit mask i=true)(F:RO)(M:Mem)(s:List (Nat×bJ)):bN mask ((i,b)::r) F M s=bN mask r F M s:=by
 rw[bN,h];rfl
def zI(mask:Nat):List (Nat×Nat)→Bool
 |[]=>true
 |(i,_)::r=>(mask/2^i%2==1)&&zI mask r
theorem QI(mask:Nat):zI mask []=true:=Eq.trans rfl (Eq.refl _)
theorem vL(mask i b:Nat)(r:List (Nat×Nat)):zI mask ((i,b)::r)=((mask/2^i%2==1)&&zI mask r):=Eq.trans rfl (Eq.refl _)
theorem ib{mask:Nat}:∀{reads:List (Nat×Nat)},zI mask reads=true→ ∀F M s,bN mask reads F M s=Pr.mk F M s
 |[],_,F,M,s=>rfl
 |(i,b)::r,h,F,M,s=>by
  rw[vL,aC]at h;rw[yp mask i b r (by show Nat.beq (Nat.mod (Nat.div mask (Nat.pow 2 i)) 2) 1=true;rw[bR];exact ah (show mask/2^i%2=1 by simpa using h.1))];exact ib h.2 F M s
def ER(o:RC)(F:RO)(p:Option aR)(base:Nat)(r:List (Nat×Nat×CO))(k:Kn)(t:T)(reads:List (Nat×Nat))(R:DS→Prop):Prop:=match o with
 | .f=>False
 | .k v M c=>bQ M F=true∧ly base r k (.mk (setT t p v) M c [] reads) R
theorem aC2(v:V)(M:Mem)(c:Nat)(F:RO)(p:Option aR)(base:Nat)(r:List (Nat×Nat×CO))(k:Kn)(t:T)(reads:List (Nat×Nat))(R:DS→Prop):
 ER (.k v M c) F p base r k t reads R=(bQ M F=true∧ly base r k (.mk (setT t p v) M c [] reads) R):=Eq.trans rfl (Eq.refl _)
theorem fW(base i mask:Nat)(dst:Option aR)(o:EO)(r:List (Nat×Nat×CO))(t:T)(M:Mem)(c:Nat)(reads:List (Nat×Nat))(R:DS→Prop)(hb:zI mask reads=true):
 ly base ((i,mask,.mk dst (.e o) none)::r) (K Φ rd fn F) (.mk t M c [] reads) R=ER (eU o (K Φ rd fn F) M c t) F dst base r (K Φ rd fn F) t reads R:=by
 have hp:=ib hb
 have he:rG (K Φ rd fn F) base (i,mask,.mk dst (.e o) none) (.mk t M c [] reads)=nj F dst t [] reads [] (eU o (K Φ rd fn F) M c t):=by
  show pO o (K Φ rd fn F) dst t c [] reads (bN mask reads F M [])=_;rw[hp];rfl
 apply propext
 rw[eM,he]
 cases hd:eU o (K Φ rd fn F) M c t with
 |f=>exact⟨fun⟨s',h,_⟩=>(by cases h),False.elim⟩
 |k v M' c'=>
  have h2:nj F dst t [] reads [] (.k v M' c')=if bQ M' F=true then some (DS.mk (setT t dst v) M' c' [] reads)else none:=by
   show(bif bQ M' F&&cq F M' []then(b8 [] M').force fun M=>(setT t dst v).force fun t=>some (DS.mk t M c' [] reads)else none)=_;cases bQ M' F with
   |false=>rfl
   |true=>
    show((b8 [] M').force fun M=>(setT t dst v).force fun t=>some (DS.mk t M c' [] reads))=_;rw[Tr.force_eq,Tr.force_eq];rfl
  rw[h2,aC2];constructor
  ·rintro⟨s',h,q⟩;split at h
   ·rename_i hr;obtain rfl:=ae h;exact⟨hr,q⟩
   ·cases h
  ·rintro⟨hr,q⟩;exact⟨_,ac hr,q⟩
theorem dP(M:Mem)(b:Nat)(x:bJ)(F:RO):bQ M ((b,x)::F)=((M.get b).isNone&&bQ M F):=by
 show(bif (M.get b).isNone then bQ M F else false)=_
 cases(M.get b).isNone<;>rfl
theorem ak(M:Mem){b b':Nat}(x:bJ)(h:b'≠b):(M.set b x).get b'=M.get b':=by rw[Tr.get_set,ab h]
theorem yd:(none:Option bJ).isNone=true:=Eq.trans rfl (Eq.refl _)
def biQ(op:BinOp)(X Y:V)(F:RO)(M:Mem):QR:=lq (.bi op (.c X) (.c Y)) F M .e
theorem aQ1(op:BinOp)(x y:X)(M:Mem)(t:T):lq (.bi op x y) F M t=biQ op (x.ev t) (y.ev t) F M:=Eq.trans rfl (Eq.refl _)
theorem bu0(op:BinOp)(k k':IntKind)(a b:Int)(M:Mem):biQ op (.i k a) (.i k' b) F M=oV (cz op (.i k a) (.i k' b)):=bw7 op _ _ M .e rfl rfl
def ldQ(X:V)(F:RO)(M:Mem):QR:=lq (.ld1 (.c X)) F M .e
def ldR(b:Nat):Option V→QR
 |some v=> .r v b
 |none=> .f
theorem S0(b:Nat)(v:V):ldR b (some v)= .r v b:=Eq.trans rfl (Eq.refl _)
theorem aQ4(x:X)(M:Mem)(t:T):lq (.ld1 x) F M t=ldQ (x.ev t) F M:=Eq.trans rfl (Eq.refl _)
theorem bB2(b o:Nat)(M:Mem):ldQ (.p b o) F M=ldR b (load1 F M b o):=by
 cases h:load1 F M b o with
 |some v=>exact aQ5 _ M .e rfl h
 |none=>
  show Hi (.ld1 (.c (.p b o))) F M .e (qrb b (load1 F M b o))=_;rw[h];rfl
theorem aQ2(sz:Nat)(x i:X)(M:Mem)(t:T):lq (.iaS sz x i) F M t=oV ((cS (.iaS sz x i) F M t).val):=by
 refine fE fun F' M'=>?_
 show p4 sz x i F' M' t=oV (p4 sz x i [] .e t).val
 have key:∀(b o n:Nat) (y:V),qf sz b o n y=oV (qf sz b o n y).val:=by
  intro b o n y;unfold qf;cases y with
  |i k m=>
   show yt sz b o n m=oV (yt sz b o n m).val;cases m with
   |ofNat m=>
    show(Bool.rec (motive:=fun _=>QR) .f (uL b (Nat.add o (Nat.mul m sz))) (Nat.blt m n))=oV (Bool.rec (motive:=fun _=>QR) .f (uL b (Nat.add o (Nat.mul m sz))) (Nat.blt m n):QR).val;cases Nat.blt m n with
    |true=>
     show uL b (Nat.add o (Nat.mul m sz))=oV (uL b (Nat.add o (Nat.mul m sz))).val;unfold uL;rw[bA];rfl
    |false=>rfl
   |negSucc m=>rfl
  |_=>rfl
 unfold p4
 cases x.ev t with
 |l b o n c=>exact key b o n _
 |u b o n e k=>exact key b o n _
 |_=>rfl
def uK(x:V):Option V:=(cS (.ln .slice (.c x)) [] .e .e).val
theorem bB8(M:Mem)(x:V):lnV .slice F M x=uK x:=Eq.trans rfl (Eq.refl _)
theorem aB7(b o n c:Nat):uK (.l b o n c)=some (.i .i64 (n:Int)):=Eq.trans rfl (Eq.refl _)
theorem S2(b o n e k:Nat):uK (.u b o n e k)=some (.i .i64 (n:Int)):=Eq.trans rfl (Eq.refl _)
theorem Dv:uK .l0=some (.i .i64 0):=Eq.trans rfl (Eq.refl _)
theorem S3(b o n:Nat):uK (.ue b o n)=some (.i .i64 0):=Eq.trans rfl (Eq.refl _)
def fF(sz:Nat)(x i:V):Option V:=(cS (.iaS sz (.c x) (.c i)) [] .e .e).val
theorem bJ3(sz:Nat)(x i:X)(M:Mem)(t:T):(cS (.iaS sz x i) F M t).val=fF sz (x.ev t) (i.ev t):=Eq.trans rfl (Eq.refl _)
theorem bA6(sz b o n c i:Nat)(k:IntKind)(h:i<n):fF sz (.l b o n c) (.i k (i:Int))=some (.p b (o+i*sz)):=by
 show(yt sz b o n (Int.ofNat i)).val=_
 show(Bool.rec (motive:=fun _=>QR) .f (uL b (Nat.add o (Nat.mul i sz))) (Nat.blt i n)).val=_
 rw[bb,gg,ah h,ac rfl]
 unfold uL;rw[bA];rfl
theorem bA7(sz b o n e kn i:Nat)(k:IntKind)(h:i<n):fF sz (.u b o n e kn) (.i k (i:Int))=some (.p b (o+i*sz)):=by
 show(yt sz b o n (Int.ofNat i)).val=_
 show(Bool.rec (motive:=fun _=>QR) .f (uL b (Nat.add o (Nat.mul i sz))) (Nat.blt i n)).val=_
 rw[bb,gg,ah h,ac rfl]
 unfold uL;rw[bA];rfl
end
section
variable{Φ:Nat→Option CF}{rd:Option Nat}{fn:Nat}{F:RO}
def sV(l:List UInt8):V:= .s l.length (ce l)
def bV(c:UInt8):V:= .i .u8 (c.toNat:Int)
theorem Tj:ce []=0:=rfl
theorem n8(c:UInt8)(l:List UInt8):ce (c::l)=c.toNat+256*ce l:=rfl
theorem yI:∀l:List UInt8,ce l<256^l.length
 |[]=>by decide
 |c::l=>by
  have:=yI l;have hc:=UInt8.toNat_lt c;rw[n8,av,Nat.pow_succ];omega
theorem ri(a b:List UInt8):ce (a++b)=ce a+256^a.length*ce b:=by
 induction a with
 |nil=>simp[Tj]
 |cons c a ih=>
  rw[List.cons_append,n8,n8,ih,av,Nat.pow_succ,Nat.mul_add,←Nat.mul_assoc,Nat.mul_comm 256 (256^a.length)];omega
theorem XS(l:List UInt8)(n x:Nat)(h:bl n x=l):x%256^n=ce l:=by
 have hn:l.length=n:=by rw[←h];exact iq n x
 have e:bl n x=bl n (ce l):=by rw[h];have:=kI l;rw[hn]at this;exact this.symm
 have:=QN n x (ce l) e
 rw[this]
 exact Nat.mod_eq_of_lt (by have:=yI l;rwa [hn]at this)
theorem wE(l:List UInt8)(n:Nat)(h:n≤l.length):ce (l.take n)=ce l%256^n:=by
 symm
 refine XS _ n _ ?_
 rw[←xM n l.length (ce l) h,kI]
theorem wD(l:List UInt8)(n:Nat)(h:n≤l.length):ce (l.drop n)=ce l/256^n:=by
 have e:=ri (l.take n) (l.drop n)
 rw[List.take_append_drop,wE l n h,List.length_take,Nat.min_eq_left h]at e
 have h0:0<256^n:=Nat.pow_pos (by decide)
 rw[e,Nat.add_mul_div_left _ _ h0,Nat.div_eq_of_lt (Nat.mod_lt _ h0),Nat.zero_add]
theorem Ti(l:List UInt8)(i:Nat)(h:i<l.length):ce l/256^i%256=(l[i]).toNat:=by
 rw[←wD l i (by omega),bX h,n8]
 have:=UInt8.toNat_lt l[i]
 omega
theorem aT5(l:List UInt8)(M:Mem):lnV .str F M (sV l)=some (.i .i64 (l.length:Int)):=rfl
theorem ye(l:List UInt8)(k:IntKind)(i:Nat)(h:i<l.length):rK (sV l) (.i k (i:Int))=some (bV l[i]):=by
 show(o6 l.length (ce l) i).val=_
 show(Bool.rec (motive:=fun _=>QR) QR.f (fN (Nat.mod (Nat.div (ce l) (mf i)) 256) fun c=>QR.v (.i .u8 (.ofNat c))) (Nat.blt i l.length)).val=_
 rw[bb,gg,ac (by simpa using h),bA]
 show some (V.i .u8 (((ce l/256^i%256:Nat)):Int))=_
 rw[Ti l i h];rfl
theorem su(a b:List UInt8):kW a.length (ce a) b.length (ce b)=decide (a=b):=by
 rw[ix,kI,kI]
theorem cG(a b:List UInt8):cz .eql (sV a) (sV b)=some (.b (decide (a=b))):=by
 show(vB (kW a.length (ce a) b.length (ce b))).val=_
 rw[su]
 cases decide (a=b)<;>rfl
theorem nR(a b:List UInt8):cz .neq (sV a) (sV b)=some (.b (!decide (a=b))):=by
 show(vB (!kW a.length (ce a) b.length (ce b))).val=_
 rw[su]
 cases decide (a=b)<;>rfl
theorem Fg(lit:Bool)(M:Mem)(a b:List UInt8):Br F M .str lit (sV a) (sV b)=some (decide (a=b)):=by
 show some (kW a.length (ce a) b.length (ce b))=_
 rw[su]
theorem Wz(lit:Bool)(M:Mem)(a b:List UInt8):zh F M .str lit (sV a) (sV b)=some (decide (a=b)):=Fg (F:=F) lit M a b
theorem gw(a b:List UInt8)(h:a.length+b.length≤1099511627776):cz .add (sV a) (sV b)=some (sV (a++b)):=by
 show(qy a.length (ce a) b.length (ce b)).val=_
 have e:qy a.length (ce a) b.length (ce b)=QR.v (sV (a++b)):=by
  unfold qy;rw[cB,show decide (Nat.add a.length b.length≤1099511627776)=true from ah h,cond_true];show(fN (a.length+b.length) fun n=>fN (ce a%256^a.length+256^a.length*ce b) fun x=>QR.v (.s n x))=_;rw[bA,bA,Nat.mod_eq_of_lt (yI a),←ri,←aG];rfl
 rw[e];rfl
def yH(x:V)(lo hi:Option V):Option V:=(cS (.slS (.c x) (lo.map .c) (hi.map .c)) [] .e .e).val
theorem An(tm:T)(d:Nat)(o:Option X):optN .e d ((o.map fun x=>x.ev tm).map .c)=optN tm d o:=by cases o<;>rfl
theorem aG0(x:X)(lo hi:Option X)(M:Mem)(t:T):(cS (.slS x lo hi) F M t).val=yH (x.ev t) (lo.map fun x=>x.ev t) (hi.map fun x=>x.ev t):=by
 show(u3 x lo hi F M t).val=(u3 (.c (x.ev t)) _ _ [] .e .e).val
 unfold u3
 rw[An]
 show _=(wh (x.ev t) .f fun n s=>jn n s (optN t 0 lo) (optN .e n ((hi.map fun x=>x.ev t).map .c))).val
 congr 2
 funext n s
 rw[An]
theorem aX7(l:List UInt8)(i j:Nat)(hi:i≤j)(hj:j≤l.length):(jn l.length (ce l) (some i) (some j)).val=some (sV ((l.take j).drop i)):=by
 have e:jn l.length (ce l) (some i) (some j)=QR.v (sV ((l.take j).drop i)):=by
  show(Bool.rec (motive:=fun _=>QR) .f (Bool.rec (motive:=fun _=>QR) .f (vS (j-i) (ce l/256^i%256^(j-i))) (Nat.ble j l.length)) (Nat.ble i j))=_;rw[bb,bb,cB,cB,ac (by simpa using hi),ac (by simpa using hj)];show(fN (j-i) fun n=>fN (ce l/256^i%256^(j-i)) fun x=>QR.v (.s n x))=_;rw[bA,bA];have e1:(l.take j).drop i=(l.drop i).take (j-i):=by rw[List.drop_take]
  rw[e1];unfold sV;rw[wE _ _ (by simp;omega),wD _ _ (by omega),List.length_take,bC,Nat.min_eq_left (by omega)]
 rw[e];rfl
theorem Ta(l:List UInt8)(k:IntKind)(i:Nat)(hi:i≤l.length):yH (sV l) (some (.i k (i:Int))) none=some (sV (l.drop i)):=by
 have:=aX7 l i l.length hi (by omega)
 rw[List.take_length]at this
 exact this
theorem Tb(l:List UInt8)(k:IntKind)(j:Nat)(hj:j≤l.length):yH (sV l) none (some (.i k (j:Int)))=some (sV (l.take j)):=by
 have:=aX7 l 0 j (by omega) hj
 rw[List.drop_zero]at this
 exact this
theorem aC9(l:List UInt8)(k k':IntKind)(i j:Nat)(hi:i≤j)(hj:j≤l.length):yH (sV l) (some (.i k (i:Int))) (some (.i k' (j:Int)))=some (sV ((l.take j).drop i)):=aX7 l i j hi hj
theorem qP:∀l:List UInt8,dG l.length (ce l)=l.map bV
 |[]=>rfl
 |c::l=>by
  have hc:=UInt8.toNat_lt c;show(fN ((c.toNat+256*ce l)%256) fun d=>V.i .u8 (.ofNat d)::dG l.length ((c.toNat+256*ce l)/256))=_;rw[bA,show(c.toNat+256*ce l)%256=c.toNat by omega,show(c.toNat+256*ce l)/256=ce l by omega,qP l];rfl
theorem sX:∀l:List UInt8,gh (l.map bV)=some (l.length,ce l)
 |[]=>rfl
 |c::l=>by
  have hc:=UInt8.toNat_lt c;rw[List.map_cons];show(match gh (l.map bV)with|some (n,x)=>some (Nat.succ n,Nat.add (Nat.mod c.toNat 256) (Nat.mul 256 x))|none=>none)=_;rw[sX l];show some (l.length+1,c.toNat%256+256*ce l)=_;rw[Nat.mod_eq_of_lt (by omega)];rfl
theorem gW:∀l:List UInt8,aL (l.map bV)=true
 |[]=>rfl
 |c::l=>by rw[List.map_cons,aw,gW l];rfl
end
section
variable{Φ:Nat→Option CF}{rd:Option Nat}{fn:Nat}{F:RO}
def lw(o:RC)(P:V→Mem→Nat→Prop):Prop:=∃v M' c',o= .k v M' c'∧P v M' c'
theorem lw.mono{o:RC}{P P':V→Mem→Nat→Prop}(h:lw o P)(hp:∀v M' c',P v M' c'→P' v M' c'):lw o P':=by
 obtain⟨v,M',c',e,h⟩:=h
 exact⟨v,M',c',e,hp v M' c' h⟩
abbrev Calls(Φ:Nat→Option CF)(F:RO)(f:Nat)(args:List V)(M:Mem)(c:Nat)(P:V→Mem→Nat→Prop):Prop:=lw (cT (iu Φ) F f args M c (Φ f)) P
theorem aN{f n:Nat}{res:List RV}{body:CC}{args:List V}{M:Mem}{c:Nat}{P:V→Mem→Nat→Prop}(hf:Φ f=some (.mk n res body))
 (h:Wp body (K Φ none f F) (.mk (bz n args) [] M c) (nk F res P)):Calls Φ F f args M c P:=vN hf h
theorem aD{o:RC}{p:aR}{r:List CO}{k:Kn}{t:T}{d:List Nat}{R:St→Prop}(h:lw o fun v M' c'=>oC r k (.mk (t.setP p v) d M' c') R):aL2 o p r k t d R:=by
 obtain⟨v,M',c',e,h⟩:=h
 rw[e];exact h
theorem du{o:RC}{p:Option aR}{base:Nat}{r:List (Nat×Nat×CO)}{k:Kn}{t:T}{reads:List (Nat×Nat)}{R:DS→Prop}
 (h:lw o fun v M' c'=>bQ M' F=true∧ly base r k (.mk (setT t p v) M' c' [] reads) R):ER o F p base r k t reads R:=by
 obtain⟨v,M',c',e,h⟩:=h
 rw[e];exact h
structure cK(F:RO)(M:Mem)(c:Nat):Prop where
 hiM:∀b,c≤b→M.get b=none
 hiF:∀b,c≤b→bv F b=none
 ap:∀b,(bv F b).isSome→M.get b=none
 ge:1000≤c
structure Gr(c:Nat)(M:Mem)(c':Nat)(M':Mem):Prop where
 le:c≤c'
 old:∀b,b<c→M'.get b=M.get b
 new:∀b,c'≤b→M'.get b=none
theorem ql(M:Mem):∀F:RO,(∀b,(bv F b).isSome→M.get b=none)→bQ M F=true
 |[],_=>rfl
 |(b,x)::F,h=>by
  rw[dP,h b (by
   show(Bool.rec (motive:=fun _=>Option bJ) (bv F b) (some x) (Nat.beq b b)).isSome=true;rw[Nat.beq_refl];rfl)]
  rw[ql M F fun b' hb'=>h b' (by
   show(Bool.rec (motive:=fun _=>Option bJ) (bv F b') (some x) (Nat.beq b b')).isSome=true;cases Nat.beq b b' with
   |true=>rfl
   |false=>exact hb')]
  rfl
theorem cK.free{M:Mem}{c:Nat}(h:cK F M c):bQ M F=true:=ql M F h.ap
theorem cK.look{M:Mem}{c:Nat}(h:cK F M c){b:Nat}(hb:c≤b):look F M b=none:=by
 rw[b5 (h.hiM b hb),h.hiF b hb]
theorem Gr.refl{M:Mem}{c:Nat}(h:cK F M c):Gr c M c M:=⟨aj _,fun _ _=>rfl,h.hiM⟩
theorem Gr.trans{M M1 M2:Mem}{c c1 c2:Nat}(h:Gr c M c1 M1)(h2:Gr c1 M1 c2 M2):Gr c M c2 M2:=
 ⟨bc h.le h2.le,fun b hb=>(h2.old b (Nat.lt_of_lt_of_le hb h.le)).trans (h.old b hb),h2.new⟩
theorem Gr.ok{M M1:Mem}{c c1:Nat}(h:Gr c M c1 M1)(ho:cK F M c):cK F M1 c1:=by
 refine⟨h.new,fun b hb=>ho.hiF b (bc h.le hb),fun b hb=>?_,bc ho.ge h.le⟩
 have:b<c:=by
  by_cases hc:b<c
  ·exact hc
  ·rw[ho.hiF b (by omega)]at hb;cases hb
 rw[h.old b this];exact ho.ap b hb
theorem Gr.set{M M1:Mem}{c c1 c2:Nat}(h:Gr c M c1 M1)(b:Nat)(x:bJ)(h1:c≤b)(h2:b<c2)(h3:c1≤c2):Gr c M c2 (M1.set b x):=by
 refine⟨bc h.le h3,fun b' hb'=>?_,fun b' hb'=>?_⟩
 ·rw[ak _ _ (by omega)];exact h.old b' hb'
 ·rw[ak _ _ (by omega)];exact h.new b' (by omega)
theorem Gr.del{M M1:Mem}{c c1:Nat}(h:Gr c M c1 M1)(b:Nat)(h1:c≤b):Gr c M c1 (M1.del b):=by
 refine⟨h.le,fun b' hb'=>?_,fun b' hb'=>?_⟩
 ·rw[Tr.get_del,ab (by omega)];exact h.old b' hb'
 ·rw[Tr.get_del];split
  ·rfl
  ·exact h.new b' hb'
theorem Gr.up{M M1:Mem}{c c1 c2:Nat}(h:Gr c M c1 M1)(h3:c1≤c2):Gr c M c2 M1:=
 ⟨bc h.le h3,h.old,fun b hb=>h.new b (by omega)⟩
theorem Gr.look{M M1:Mem}{c c1:Nat}(h:Gr c M c1 M1){b:Nat}(hb:b<c):look F M1 b=look F M b:=cH (h.old b hb)
theorem Gr.load1{M M1:Mem}{c c1:Nat}(h:Gr c M c1 M1){b:Nat}(hb:b<c)(o:Nat):load1 F M1 b o=load1 F M b o:=by
 unfold Ev.load1;rw[h.look hb]
theorem Gr.loadN{M M1:Mem}{c c1:Nat}(h:Gr c M c1 M1){b:Nat}(hb:b<c)(o n:Nat):loadN F M1 b o n=loadN F M b o n:=by
 unfold Ev.loadN;rw[h.look hb]
theorem tZ{α:Type}(v:α):∀(t:Tr α) (k:Nat),t.get k=some v→t.put (some v) k=t
 | .e,k,h=>by cases h
 | .n l x r,k,h=>by
   rw[Tr.put_n];rw[Tr.get_n]at h;by_cases h0:k=0
   ·rw[ac h0]at h⊢;rw[h]
   ·rw[ab h0]at h⊢;by_cases h2:k%2=0
    ·rw[ac h2]at h⊢;rw[tZ v r _ h]
    ·rw[ab h2]at h⊢;rw[tZ v l _ h]
theorem cO{M:Mem}{b:Nat}{x:bJ}(h:M.get b=some x):M=M.set b x:=(tZ x M b h).symm
def iG(F:RO)(M:Mem)(b:Nat)(row:List V):Prop:=∃ty ex fz str d c,look F M b=some (.cells ty row.length ex fz str d c)∧ ∀i,i<row.length→cell row.length d c i=row[i]?
theorem iG.load1{M:Mem}{b:Nat}{row:List V}(h:iG F M b row)(o:Nat):load1 F M b o=row[o]?:=by
 obtain⟨ty,ex,fz,str,d,c,hl,hc⟩:=h
 unfold Ev.load1
 rw[hl]
 show cell row.length d c o=_
 by_cases ho:o<row.length
 ·exact hc o ho
 ·rw[cV,ab ho,List.getElem?_eq_none (by omega)]
theorem t3{d:List V}{c:T}{row:List V}(hc:∀i,i<row.length→cell row.length d c i=row[i]?):∀(n i:Nat),i+n≤row.length→ea row.length d c n i=some ((row.drop i).take n)
 |0,i,h=>by rw[oJ];simp
 |n+1,i,h=>by
  rw[ic,hc i (by omega),List.getElem?_eq_getElem (by omega)];show(match ea row.length d c n (i+1)with|none=>none|some r=>some (row[i]::r))=_;rw[t3 hc n (i+1) (by omega)];simp only;rw[←List.getElem_cons_drop (by omega:i<row.length),List.take_succ_cons]
theorem iG.loadN{M:Mem}{b:Nat}{row:List V}(h:iG F M b row)(o n:Nat)(hn:o+n≤row.length):loadN F M b o n=some ((row.drop o).take n):=by
 obtain⟨ty,ex,fz,str,d,c,hl,hc⟩:=h
 unfold Ev.loadN
 rw[hl]
 exact t3 hc n o hn
theorem iG.grow{M M':Mem}{b c c':Nat}{row:List V}(h:iG F M b row)(hg:Gr c M c' M')(hb:b<c):iG F M' b row:=by
 obtain⟨ty,ex,fz,str,d,cs,hl,hc⟩:=h
 exact⟨ty,ex,fz,str,d,cs,by rw[hg.look hb];exact hl,hc⟩
theorem iG.ne{M:Mem}{b b':Nat}{x:bJ}{row:List V}(h:iG F M b row)(hb:b≠b'):iG F (M.set b' x) b row:=by
 obtain⟨ty,ex,fz,str,d,cs,hl,hc⟩:=h
 exact⟨ty,ex,fz,str,d,cs,by rw[md M x hb];exact hl,hc⟩
theorem AB{M:Mem}{b ty fz:Nat}{ex str:Bool}{row:List V}(h:M.get b=some (.cells ty row.length ex fz str [] (il row))):iG F M b row:=
 ⟨ty,ex,fz,str,[],il row,az h,fun i hi=>sZ row i⟩
def cZ(F:RO)(M:Mem)(b o:Nat)(row:List V):Prop:=∀k,k<row.length→load1 F M b (o+k)=row[k]?
theorem iG.cells{M:Mem}{b:Nat}{row:List V}(h:iG F M b row):cZ F M b 0 row:=fun k _=>by rw[Nat.zero_add];exact h.load1 k
theorem cZ.grow{M M':Mem}{b o c c':Nat}{row:List V}(h:cZ F M b o row)(hg:Gr c M c' M')(hb:b<c):cZ F M' b o row:=fun k hk=>by rw[hg.load1 hb];exact h k hk
theorem cZ.sub{M:Mem}{b o:Nat}{row:List V}(h:cZ F M b o row)(i n:Nat)(hn:i+n≤row.length):cZ F M b (o+i) ((row.drop i).take n):=fun k hk=>by
 simp only[List.length_take,bC]at hk
 rw[Nat.add_assoc,h (i+k) (by omega),List.getElem?_take,ac (by omega),List.getElem?_drop]
theorem Dw{M:Mem}{b o:Nat}{v:V}(h:Ev.load1 F M b o=some v):∃ty n ex fz str d c,look F M b=some (.cells ty n ex fz str d c)∧cell n d c o=some v:=by
 unfold Ev.load1 at h
 cases hl:look F M b with
 |none=>rw[hl]at h;cases h
 |some x=>
  rw[hl]at h;cases x with
  |cells ty n ex fz str d c=>exact⟨ty,n,ex,fz,str,d,c,rfl,h⟩
  |_=>cases h
theorem cZ.load{M:Mem}{b o:Nat}{row:List V}(h:cZ F M b o row)(hr:row≠[]):loadN F M b o row.length=some row:=by
 cases row with
 |nil=>exact absurd rfl hr
 |cons v r=>
  have h0:=h 0 (by simp);simp only[aB,List.getElem?_cons_zero]at h0;obtain⟨ty,n,ex,fz,str,d,c,hl,_⟩:=Dw h0;have key:∀(l:List V) (o:Nat),(∀k,k<l.length→Ev.load1 F M b (o+k)=l[k]?)→ea n d c l.length o=some l:=by
   intro l
   induction l with
   |nil=>intro o _;rfl
   |cons x l ih=>
    intro o hx;have e0:=hx 0 (by simp);simp only[aB,List.getElem?_cons_zero]at e0;unfold Ev.load1 at e0;rw[hl]at e0;have e0':cell n d c o=some x:=e0;rw[av,ic,e0'];show(match ea n d c l.length (o+1)with|none=>none|some r=>some (x::r))=_
    rw[ih (o+1) fun k hk=>by
     have:=hx (k+1) (by simpa using hk);rw[List.getElem?_cons_succ]at this;rw[←this];congr 1;omega]
  unfold Ev.loadN;rw[hl];exact key (v::r) o h
theorem cZ.loadN{M:Mem}{b o:Nat}{row:List V}(h:cZ F M b o row)(i n:Nat)(hn:i+n≤row.length)(h0:0<n):loadN F M b (o+i) n=some ((row.drop i).take n):=by
 have hs:=h.sub i n hn
 have hl:((row.drop i).take n).length=n:=by simp;omega
 have:=hs.load (by intro e;rw[e]at hl;simp at hl;omega)
 rwa [hl]at this
theorem eV:∀{es:List (List V)} {sz:Nat},(∀e∈es,e.length=sz)→es.flatten.length=es.length*sz
 |[],sz,_=>by simp
 |e::es,sz,h=>by
  rw[List.flatten_cons,aG,eV fun x hx=>h x (bq _ hx),h e (bG ..),av,Nat.add_mul];omega
theorem A9:∀{es:List (List V)} {sz:Nat},(∀e∈es,e.length=sz)→ ∀(i:Nat) (h:i<es.length),(es.flatten.drop (i*sz)).take sz=es[i]
 |[],sz,_,i,h=>by cases h
 |e::es,sz,h,0,_=>by
  rw[List.flatten_cons,Nat.zero_mul,List.drop_zero,List.take_append_of_le_length (by rw[h e (bG ..)];exact aj _),List.getElem_cons_zero,←h e (bG ..),List.take_length]
 |e::es,sz,h,i+1,hi=>by
  have he:=h e (bG ..);rw[List.flatten_cons,List.getElem_cons_succ,Nat.add_mul,Nat.one_mul,Nat.add_comm,List.drop_append,he,List.drop_eq_nil_of_le (by omega),List.nil_append,Nat.add_sub_cancel_left];exact A9 (fun x hx=>h x (bq _ hx)) i (by simpa using hi)
def cA(F:RO)(M:Mem)(c sz:Nat)(v:V)(es:List (List V)):Prop:=
 (∀e∈es,e.length=sz)∧((es=[]∧(v= .l0∨ ∃b o0 o,v= .ue b o0 o))∨
  ∃b o,((∃cap,es.length≤cap∧v= .l b o es.length cap)∨(∃el kn,el+es.length≤kn∧v= .u b o es.length el kn))∧b<c∧cZ F M b o es.flatten)
theorem cA.len{M:Mem}{c sz:Nat}{v:V}{es:List (List V)}(h:cA F M c sz v es):uK v=some (.i .i64 (es.length:Int)):=by
 rcases h with⟨_,⟨rfl,h|⟨b,o0,o,h⟩⟩|⟨b,o,⟨cap,_,h⟩|⟨el,kn,_,h⟩,_⟩⟩
 ·rw[h];exact Dv
 ·rw[h];exact S3 _ _ _
 ·rw[h];exact aB7 _ _ _ _
 ·rw[h];exact S2 _ _ _ _ _
theorem cA.grow{M M':Mem}{c c' sz:Nat}{v:V}{es:List (List V)}(h:cA F M c sz v es)(hg:Gr c M c' M'):cA F M' c' sz v es:=by
 rcases h with⟨h0,h|⟨b,o,hv,hb,hr⟩⟩
 ·exact⟨h0,.inl h⟩
 ·exact⟨h0,.inr ⟨b,o,hv,Nat.lt_of_lt_of_le hb hg.le,hr.grow hg hb⟩⟩
theorem cA.at{M:Mem}{c sz:Nat}{v:V}{es:List (List V)}(h:cA F M c sz v es)(i:Nat)(hi:i<es.length):
 ∃b o,b<c∧(∀k,fF sz v (.i k (i:Int))=some (.p b o))∧cZ F M b o es[i]:=by
 rcases h with⟨h0,⟨rfl,_⟩|⟨b,o,hv,hb,hr⟩⟩
 ·cases hi
 ·have hle:i*sz+sz≤es.flatten.length:=by
   have:(i+1)*sz≤es.length*sz:=Nat.mul_le_mul_right _ hi;rw[Nat.add_mul,Nat.one_mul]at this;rw[eV h0];exact this
  refine⟨b,o+i*sz,hb,fun k=>?_,?_⟩
  ·rcases hv with⟨cap,_,rfl⟩|⟨el,kn,_,rfl⟩
   ·exact bA6 _ _ _ _ _ _ _ hi
   ·exact bA7 _ _ _ _ _ _ _ _ hi
  ·have:=hr.sub (i*sz) sz hle
   rwa [A9 h0 i hi]at this
theorem cA.one{M:Mem}{c:Nat}{v:V}{es:List (List V)}(h:cA F M c 1 v es)(i:Nat)(hi:i<es.length){x:V}(hx:es[i]=[x]):
 ∃b o,b<c∧(∀k,fF 1 v (.i k (i:Int))=some (.p b o))∧load1 F M b o=some x:=by
 obtain⟨b,o,h1,h2,h3⟩:=h.at i hi
 refine⟨b,o,h1,h2,?_⟩
 have:=h3 0 (by rw[hx];simp)
 rw[aB,hx]at this
 exact this
theorem cK.set{M:Mem}{c c':Nat}(h:cK F M c)(b:Nat)(x:bJ)(h1:c≤b)(h2:b<c'):cK F (M.set b x) c':=by
 refine⟨fun b' hb'=>?_,fun b' hb'=>h.hiF b' (by omega),fun b' hb'=>?_,by have:=h.ge;omega⟩
 ·rw[ak _ _ (by omega)];exact h.hiM b' (by omega)
 ·have:b'≠b:=by
   intro e;subst e;rw[h.hiF b' h1]at hb';cases hb'
  rw[ak _ _ this];exact h.ap b' hb'
abbrev SlB(F:RO)(M:Mem)(c:Nat)(v:V)(l:List UInt8):Prop:=cA F M c 1 v (l.map fun x=>[bV x])
theorem SlB.get{M:Mem}{c:Nat}{v:V}{l:List UInt8}(h:SlB F M c v l)(i:Nat)(hi:i<l.length):
 ∃b o,b<c∧(∀k,fF 1 v (.i k (i:Int))=some (.p b o))∧load1 F M b o=some (.i .u8 (l[i].toNat:Int)):=
 cA.one h i (by simpa using hi) (by simp[bV])
theorem SlB.len{M:Mem}{c:Nat}{v:V}{l:List UInt8}(h:SlB F M c v l):uK v=some (.i .i64 (l.length:Int)):=by
 have:=cA.len h
 rwa [List.length_map]at this
theorem am(M:Mem)(b:Nat)(x:bJ):(M.set b x).get b=some x:=by rw[Tr.get_set,ac rfl]
end
section
variable{Φ:Nat→Option CF}{rd:Option Nat}{fn:Nat}{F:RO}
theorem Fm{M:Mem}{c sz:Nat}{v:V}{es:List (List V)}(h:cA F M c sz v es):oR v=some es.length:=by
 rcases h with⟨_,⟨rfl,rfl|⟨b,o0,o,rfl⟩⟩|⟨b,o,⟨cap,_,rfl⟩|⟨el,kn,_,rfl⟩,_⟩⟩<;>rfl
theorem mq{M:Mem}{sz b o:Nat}{es:List (List V)}(hsz:0<sz)(h0:∀e∈es,e.length=sz)(h:cZ F M b o es.flatten):∃r,readB F M sz es.length b o=some (es.flatten,r):=by
 unfold readB
 rw[bR]
 cases es with
 |nil=>exact⟨none,rfl⟩
 |cons e es=>
  have hl:=eV h0;have hne:(e::es).flatten≠[]:=by
   intro h;rw[h]at hl;simp only[aM,av,Nat.add_mul]at hl;omega
  have:=h.load hne;rw[hl]at this;rw[ag (by simp),cond_false];show∃r,(match loadN F M b o ((e::es).length*sz)with|some vs=>some (vs,some b)|none=>none)=_;rw[this];exact⟨some b,rfl⟩
theorem Ay{M:Mem}{c sz:Nat}{v:V}{es:List (List V)}(hsz:0<sz)(h:cA F M c sz v es):∃r,readL F M sz es.length v=some (es.flatten,r):=by
 rcases h with⟨h0,⟨rfl,rfl|⟨b,o0,o,rfl⟩⟩|⟨b,o,⟨cap,_,rfl⟩|⟨el,kn,_,rfl⟩,_,hc⟩⟩
 ·exact⟨none,rfl⟩
 ·exact⟨none,rfl⟩
 ·exact mq hsz h0 hc
 ·exact mq hsz h0 hc
theorem AK{M:Mem}{c sz:Nat}{v:V}{es:List (List V)}(hsz:0<sz)(h:cA F M c sz v es):eY F M sz v=some (es.length,es.flatten):=by
 have hl:=Fm h
 obtain⟨r,hr⟩:=Ay hsz h
 have hs:∀n x,v≠ .s n x:=by
  intro n x e;rcases h with⟨_,⟨rfl,h|⟨b,o0,o,h⟩⟩|⟨b,o,⟨cap,_,h⟩|⟨el,kn,_,h⟩,_⟩⟩<;>(rw[e]at h;cases h)
 have e:eY F M sz v=match oR v with|some n=>XO n (readL F M sz n v)|none=>none:=by
  cases v<;>first|rfl|exact absurd rfl (hs _ _)
 rw[e,hl]
 show XO es.length (readL F M sz es.length v)=_
 rw[hr];rfl
theorem Gd{M:Mem}(l:List UInt8):eY F M 1 (sV l)=some (l.length,l.map bV):=by
 show(bif Nat.beq 1 1 then some (l.length,dG l.length (ce l))else none)=_
 rw[qP];rfl
def qo(ty:Nat)(row:List V):bJ:= .cells ty row.length false 0 false [] (il row)
def bm(M:Mem)(c0 c b ty sz:Nat)(v:V)(es:List (List V)):Prop:=
 (∀e∈es,e.length=sz)∧((es=[]∧v= .l0)∨(c0≤b∧b<c∧v= .u b 0 es.length 0 es.length∧M.get b=some (qo ty es.flatten)))
theorem bm.nil{M:Mem}{c0 c b ty sz:Nat}:bm M c0 c b ty sz .l0 []:=⟨fun e he=>(by cases he),.inl ⟨rfl,rfl⟩⟩
theorem FX{M:Mem}{b ty:Nat}{row:List V}(h:M.get b=some (qo ty row)):iG F M b row:=AB h
theorem bm.sl{M:Mem}{c0 c b ty sz:Nat}{v:V}{es:List (List V)}(h:bm M c0 c b ty sz v es):cA F M c sz v es:=by
 rcases h with⟨h0,⟨rfl,rfl⟩|⟨h1,h2,rfl,h3⟩⟩
 ·exact⟨h0,.inl ⟨rfl,.inl rfl⟩⟩
 ·exact⟨h0,.inr ⟨b,0,.inr ⟨0,es.length,by omega,rfl⟩,h2,(FX h3).cells⟩⟩
theorem bm.up{M M':Mem}{c0 c c' b ty sz:Nat}{v:V}{es:List (List V)}(h:bm M c0 c b ty sz v es)(hc:c≤c')(hb:b<c→M'.get b=M.get b):bm M' c0 c' b ty sz v es:=by
 rcases h with⟨h0,h|⟨h1,h2,rfl,h3⟩⟩
 ·exact⟨h0,.inl h⟩
 ·exact⟨h0,.inr ⟨h1,by omega,rfl,by rw[hb h2];exact h3⟩⟩
theorem bm.gr{M M':Mem}{c0 c c' b ty sz:Nat}{v:V}{es:List (List V)}(h:bm M c0 c b ty sz v es)(hg:Gr c M c' M'):bm M' c0 c' b ty sz v es:=h.up hg.le fun hb=>hg.old b hb
theorem fP{n bytes:Nat}(h:(3*n+2000)*bytes≤281474976710656)(h1:n≤1099511627776):mA n bytes=true:=by
 unfold mA
 rw[cB,cB]
 have a:decide (Nat.mul (Nat.add (Nat.mul 3 n) 2000) bytes≤281474976710656)=true:=ah h
 rw[a,ah h1];rfl
theorem oP(M:Mem)(c ty bytes len:Nat)(vs:List V)(h:mA len bytes=true):gO M c ty bytes len 0 false vs= .k (.u c 0 len 0 len) (M.set c (qo ty vs)) (c+1):=by
 unfold gO
 rw[h]
 show(M.set c (.cells ty vs.length false 0 false [] (bP vs 0 .e))).force (fun M=>fN (Nat.succ c) fun c'=>fN len fun len=>RC.k (.u c 0 len 0 len) M c')=_
 rw[Tr.force_eq,bA,bA];rfl
theorem F2{M:Mem}{c ty sz bytes n:Nat}{new:List V}(h:n≠0):app F M c ty sz bytes .l0 n new=gO M c ty bytes n 0 false new:=by
 unfold app
 rw[bR,ag h,cond_false]
theorem BQ{M:Mem}{c ty sz bytes b o len el kn n:Nat}{new:List V}(h:n≠0):app F M c ty sz bytes (.u b o len el kn) n new=nr F M c ty sz bytes b o len el kn n new:=by
 unfold app
 rw[bR,ag h,cond_false]
theorem Jz{M0 M:Mem}{c0 c b ty sz bytes:Nat}{v:V}{es ns:List (List V)}(h:bm M c0 c b ty sz v es)(hg:Gr c0 M0 c M)(hsz:0<sz)(hn:∀e∈ns,e.length=sz)(h1:aL ns.flatten=true)(hr:mA (es.length+ns.length) bytes=true):
 lw (nT F M c ty sz bytes v (some (ns.length,ns.flatten))) fun v' M' c'=>∃b',bm M' c0 c' b' ty sz v' (es++ns)∧Gr c0 M0 c' M'∧c≤c'∧(∀x,x<c→x≠b→M'.get x=M.get x)∧(b'=b∨c≤b'):=by
 have hnl:=eV hn
 have e1:nT F M c ty sz bytes v (some (ns.length,ns.flatten))=app F M c ty sz bytes v ns.length ns.flatten:=by
  show(bif aL ns.flatten&&Nat.beq ns.flatten.length (Nat.mul ns.length sz)then _ else _)=_;rw[h1,bR,ah (show ns.flatten.length=Nat.mul ns.length sz from hnl)];rfl
 rw[e1]
 have hall:∀e∈es++ns,e.length=sz:=by
  intro e he;rcases List.mem_append.1 he with he|he
  ·exact h.1 e he
  ·exact hn e he
 by_cases hz:ns=[]
 ·subst hz;have e2:app F M c ty sz bytes v 0 []= .k v M c:=by
   show(bif Nat.beq 0 0 then(bif wb v then RC.k v M c else .f)else _)=_;have:wb v=true:=by
    rcases h with⟨_,⟨_,rfl⟩|⟨_,_,rfl,_⟩⟩
    ·rfl
    ·show Nat.ble es.length (Nat.sub es.length 0)=true;rw[cB];exact ah (aj _)
   rw[this];rfl
  exact⟨v,M,c,e2,b,by rw[bF];exact h,hg,aj _,fun _ _ _=>rfl,.inl rfl⟩
 ·have hn0:ns.length≠0:=fun e=>hz (List.length_eq_zero_iff.1 e);rcases h with⟨h0,⟨rfl,rfl⟩|⟨ha,hb,rfl,hM⟩⟩
  ·rw[aM,Nat.zero_add]at hr;refine⟨_,_,_,(F2 hn0).trans (oP M c ty bytes ns.length ns.flatten hr),c,⟨hall,.inr ⟨hg.le,by omega,rfl,?_⟩⟩,hg.set c _ hg.le (by omega) (by omega),by omega,fun x hx _=>ak _ _ (by omega),.inr (aj _)⟩;rw[Tr.get_set,ac rfl];rfl
  ·have hel:=eV h0;obtain⟨r,hrd⟩:=mq hsz h0 (FX (F:=F) hM).cells;have hmw:fJ M b ty (Nat.add 0 (Nat.mul es.length sz)) (Nat.add 0 (Nat.mul (Nat.sub es.length 0) sz))=some (0,false):=by
    unfold fJ;rw[hM];show(bif Nat.beq ty ty&&Nat.beq es.flatten.length (0+(es.length-0)*sz)&&Nat.ble 0 (0+es.length*sz)&&Nat.ble (0+es.length*sz) (0+(es.length-0)*sz)then some (0,false)else none)=_;rw[bR,bR,cB,cB,ah (show ty=ty from rfl),ah (show es.flatten.length=0+(es.length-0)*sz by rw[hel];simp),ah (ax _),ah (show 0+es.length*sz≤0+(es.length-0)*sz by simp)];rfl
   have e3:nr F M c ty sz bytes b 0 es.length 0 es.length ns.length ns.flatten=gO (M.del b) c ty bytes (es.length+ns.length) 0 false (es.flatten++ns.flatten):=by
    unfold nr;rw[cB,ag (show¬Nat.add (Nat.add 0 es.length) ns.length≤es.length by show¬0+es.length+ns.length≤es.length;omega),cond_false,hmw];show pT (M.del b) c ty bytes (es.length+ns.length) 0 false ns.flatten (readB F M sz es.length b 0)=_;rw[hrd];rfl
   refine⟨_,_,_,((BQ hn0).trans e3).trans (oP _ c ty bytes _ _ hr),c,⟨hall,.inr ⟨by omega,by omega,by rw[aG],?_⟩⟩,(hg.del b ha).set c _ (by omega) (by omega) (by omega),by omega,fun x hx hxb=>?_,.inr (aj _)⟩
   ·rw[Tr.get_set,ac rfl,List.flatten_append]
   ·rw[ak _ _ (by omega),Tr.get_del,ab hxb]
def vh(sz:Nat)(x:V)(lo hi mx:Option V):Option V:=(cS (.slL sz (.c x) (lo.map .c) (hi.map .c) (mx.map .c)) [] .e .e).val
theorem pZ(tm:T)(o:Option X):optNN .e ((o.map fun x=>x.ev tm).map .c)=optNN tm o:=by cases o<;>rfl
theorem aF9(sz:Nat)(x:X)(lo hi mx:Option X)(M:Mem)(t:T):(cS (.slL sz x lo hi mx) F M t).val=vh sz (x.ev t) (lo.map fun x=>x.ev t) (hi.map fun x=>x.ev t) (mx.map fun x=>x.ev t):=by
 show(qh sz (x.ev t) (optNN t lo) (optNN t hi) (optNN t mx)).val=(qh sz (x.ev t) (optNN .e _) (optNN .e _) (optNN .e _)).val
 rw[pZ,pZ,pZ]
theorem S7(b o n c:Nat):mkL b o n c= .v (.l b o n c):=by unfold mkL;rw[bA,bA,bA]
theorem yi(b o n el kn:Nat):mkU b o n el kn= .v (.u b o n el kn):=by unfold mkU;rw[bA,bA,bA]
theorem RB{es:List (List V)}{sz lo hi:Nat}(h0:∀e∈es,e.length=sz)(h1:lo≤hi)(h2:hi≤es.length):((es.take hi).drop lo).flatten=(es.flatten.drop (lo*sz)).take ((hi-lo)*sz):=by
 have key:∀(es:List (List V)) (k:Nat),(∀e∈es,e.length=sz)→(es.take k).flatten=es.flatten.take (k*sz)∧(es.drop k).flatten=es.flatten.drop (k*sz):=by
  intro es
  induction es with
  |nil=>intro k _;simp
  |cons e es ih=>
   intro k h;cases k with
   |zero=>simp
   |succ k=>
    obtain⟨a,b⟩:=ih k fun x hx=>h x (bq _ hx);have he:=h e (bG ..);constructor
    ·rw[List.take_succ_cons,List.flatten_cons,List.flatten_cons,a,show(k+1)*sz=e.length+k*sz by rw[Nat.add_mul,he];omega,List.take_length_add_append]
    ·rw[List.drop_succ_cons,List.flatten_cons,b,show(k+1)*sz=e.length+k*sz by rw[Nat.add_mul,he];omega,List.drop_length_add_append]
 have ht:∀e∈es.take hi,e.length=sz:=fun e he=>h0 e (List.mem_of_mem_take he)
 rw[(key (es.take hi) lo ht).2,(key es hi h0).1,List.drop_take,Nat.sub_mul]
theorem T8{M:Mem}{c sz:Nat}{v:V}{es:List (List V)}{lo hi:Nat}(h:cA F M c sz v es)(h1:lo≤hi)(h2:hi≤es.length):
 ∃v',(rR sz v (some lo) (some hi) none= .v v'∧(lo=0→rR sz v none (some hi) none= .v v')∧(hi=es.length→rR sz v (some lo) none none= .v v')∧(lo=0→hi=es.length→rR sz v none none none= .v v'))∧cA F M c sz v' ((es.take hi).drop lo):=by
 have hs:∀e∈(es.take hi).drop lo,e.length=sz:=fun e he=>h.1 e (List.mem_of_mem_take (List.mem_of_mem_drop he))
 have hl:((es.take hi).drop lo).length=hi-lo:=by simp;omega
 rcases h with⟨h0,⟨rfl,rfl|⟨b,o0,o,rfl⟩⟩|⟨b,o,hv,hb,hc⟩⟩
 ·obtain rfl:hi=0:=by simpa using h2
  obtain rfl:lo=0:=by omega
  exact⟨.l0,⟨rfl,fun _=>rfl,fun _=>rfl,fun _ _=>rfl⟩,hs,.inl ⟨rfl,.inl rfl⟩⟩
 ·obtain rfl:hi=0:=by simpa using h2
  obtain rfl:lo=0:=by omega
  exact⟨.ue b o0 o,⟨rfl,fun _=>rfl,fun _=>rfl,fun _ _=>rfl⟩,hs,.inl ⟨rfl,.inr ⟨b,o0,o,rfl⟩⟩⟩
 ·have hfl:=eV h0;have hcs:cZ F M b (o+lo*sz) ((es.take hi).drop lo).flatten:=by
   rw[RB h0 h1 h2];refine hc.sub _ _ ?_;rw[hfl,←Nat.add_mul];exact Nat.mul_le_mul_right _ (by omega)
  rcases hv with⟨cap,hcap,rfl⟩|⟨el,kn,hkn,rfl⟩
  ·have e:wB sz b o cap lo hi cap= .v (.l b (if cap=lo then o else o+lo*sz) (hi-lo) (cap-lo)):=by
    unfold wB;rw[cB,cB,cB,bR,ah (aj cap),ah (show hi≤cap by omega),ah h1];show mkL b (bif decide (cap=lo)then o else o+lo*sz) (hi-lo) (cap-lo)=_;rw[S7];by_cases hh:cap=lo
    ·rw[ah hh,ac hh];rfl
    ·rw[ag hh,ab hh];rfl
   refine⟨_,⟨e,fun hh=>?_,fun hh=>?_,fun hh hh2=>?_⟩,hs,.inr ⟨b,if cap=lo then o else o+lo*sz,.inl ⟨cap-lo,by rw[hl];omega,by rw[hl]⟩,hb,?_⟩⟩
   ·subst hh;exact e
   ·subst hh;exact e
   ·subst hh hh2;exact e
   ·by_cases hh:cap=lo
    ·rw[ac hh];have:(es.take hi).drop lo=[]:=List.eq_nil_of_length_eq_zero (by omega);rw[this];intro k hk;simp at hk
    ·rw[ab hh];exact hcs
  ·by_cases hz:lo=0
   ·subst hz;have e:nG sz b o el kn 0 hi= .v (.u b o hi el kn):=by
     unfold nG;rw[cB,cB,ah (show Nat.add el hi≤kn by show el+hi≤kn;omega),ah (ax hi)];exact yi _ _ _ _ _
    refine⟨_,⟨e,fun _=>e,fun hh=>?_,fun _ hh=>?_⟩,hs,.inr ⟨b,o,.inr ⟨el,kn,by rw[hl];omega,by rw[hl];rfl⟩,hb,by simpa using hcs⟩⟩
    ·subst hh;exact e
    ·subst hh;exact e
   ·by_cases hh:el+lo<kn
    ·have e:nG sz b o el kn lo hi= .v (.u b (o+lo*sz) (hi-lo) (el+lo) kn):=by
      unfold nG;rw[cB,cB,bR,gg,ah (show Nat.add el hi≤kn by show el+hi≤kn;omega),ah h1,ag hz,ah (show Nat.add el lo<kn from hh)];exact yi _ _ _ _ _
     refine⟨_,⟨e,fun h=>absurd h hz,fun hh=>?_,fun h _=>absurd h hz⟩,hs,.inr ⟨b,o+lo*sz,.inr ⟨el+lo,kn,by rw[hl];omega,by rw[hl]⟩,hb,hcs⟩⟩;subst hh;exact e
    ·have e:nG sz b o el kn lo hi= .v (.ue b o (o+lo*sz)):=by
      unfold nG;rw[cB,cB,bR,gg,ah (show Nat.add el hi≤kn by show el+hi≤kn;omega),ah h1,ag hz,ag (show¬Nat.add el lo<kn from hh)];show fN (o+lo*sz) (fun o'=>QR.v (.ue b o o'))=_;rw[bA]
     have hnil:(es.take hi).drop lo=[]:=List.eq_nil_of_length_eq_zero (by omega);refine⟨_,⟨e,fun h=>absurd h hz,fun hh=>?_,fun h _=>absurd h hz⟩,hs,.inl ⟨hnil,.inr ⟨b,o,_,rfl⟩⟩⟩;subst hh;exact e
theorem XM{M:Mem}{c sz:Nat}{v:V}{es:List (List V)}{lo hi:Nat}(h:cA F M c sz v es)(h1:lo≤hi)(h2:hi≤es.length):
 ∃v',(∀k k',vh sz v (some (.i k (lo:Int))) (some (.i k' (hi:Int))) none=some v')∧(lo=0→ ∀k',vh sz v none (some (.i k' (hi:Int))) none=some v')∧(hi=es.length→ ∀k,vh sz v (some (.i k (lo:Int))) none none=some v')∧(lo=0→hi=es.length→vh sz v none none none=some v')∧cA F M c sz v' ((es.take hi).drop lo):=by
 obtain⟨v',⟨e1,e2,e3,e4⟩,hs⟩:=T8 h h1 h2
 refine⟨v',fun k k'=>?_,fun h0 k'=>?_,fun h0 k=>?_,fun h0 h0'=>?_,hs⟩
 ·show(rR sz v (some lo) (some hi) none).val=_;rw[e1];rfl
 ·show(rR sz v none (some hi) none).val=_;rw[e2 h0];rfl
 ·show(rR sz v (some lo) none none).val=_;rw[e3 h0];rfl
 ·show(rR sz v none none none).val=_;rw[e4 h0 h0'];rfl
def rB(F:RO)(M:Mem)(c ty sz bytes:Nat)(x y:V):RC:=nT F M c ty sz bytes x (eY F M sz y)
theorem V7(ty sz bytes:Nat)(x y:X)(M:Mem)(c:Nat)(t:T):eU (.app ty sz bytes x y) (K Φ rd fn F) M c t=rB F M c ty sz bytes (x.ev t) (y.ev t):=rfl
theorem hJ{M0 M:Mem}{c0 c b ty sz bytes:Nat}{v y:V}{es ns:List (List V)}(h:bm M c0 c b ty sz v es)(hg:Gr c0 M0 c M)(hsz:0<sz)(hy:cA F M c sz y ns)(h1:aL ns.flatten=true)(hr:mA (es.length+ns.length) bytes=true):
 lw (rB F M c ty sz bytes v y) fun v' M' c'=>∃b',bm M' c0 c' b' ty sz v' (es++ns)∧Gr c0 M0 c' M'∧c≤c'∧(∀x,x<c→x≠b→M'.get x=M.get x)∧(b'=b∨c≤b'):=by
 unfold rB
 rw[AK hsz hy]
 exact Jz h hg hsz hy.1 h1 hr
theorem iK(l:List UInt8):(l.map fun x=>[bV x]).flatten=l.map bV:=by
 induction l with
 |nil=>rfl
 |cons a l ih=>rw[List.map_cons,List.flatten_cons,ih];rfl
theorem H2(l:List UInt8):aL (l.map fun x=>[bV x]).flatten=true:=by rw[iK];exact gW l
theorem Jy{M0 M:Mem}{c0 c b ty bytes:Nat}{v:V}{l:List UInt8}{es:List (List V)}(h:bm M c0 c b ty 1 v es)(hg:Gr c0 M0 c M)(hr:mA (es.length+l.length) bytes=true):
 lw (rB F M c ty 1 bytes v (sV l)) fun v' M' c'=>∃b',bm M' c0 c' b' ty 1 v' (es++l.map fun x=>[bV x])∧Gr c0 M0 c' M'∧c≤c'∧(∀x,x<c→x≠b→M'.get x=M.get x)∧(b'=b∨c≤b'):=by
 unfold rB
 rw[Gd]
 have:=Jz (F:=F) (bytes:=bytes) (ns:=l.map fun x=>[bV x]) h hg Nat.one_pos (by intro e he;obtain⟨x,_,rfl⟩:=List.mem_map.1 he;rfl)
  (H2 l) (by rw[List.length_map];exact hr)
 rw[List.length_map,iK]at this
 exact this
def bsV(F:RO)(M:Mem)(x:V):Option V:=(cS (.bs (.c x)) F M .e).val
theorem cf4(x:X)(M:Mem)(t:T):(cS (.bs x) F M t).val=bsV F M (x.ev t):=Eq.trans rfl (Eq.refl _)
theorem ay7{M:Mem}{c:Nat}{v:V}{l:List UInt8}(h:SlB F M c v l):bsV F M v=some (sV l):=by
 have hl:=Fm h
 obtain⟨r,hr⟩:=Ay Nat.one_pos h
 rw[List.length_map]at hl hr
 rw[iK]at hr
 have e:cS (.bs (.c v)) F M .e=FC F M v (oR v):=by
  show(match v with| .s _ _=>QR.f|v=>FC F M v (oR v))=_;rcases h with⟨_,⟨_,rfl|⟨b,o0,o,rfl⟩⟩|⟨b,o,⟨cap,_,rfl⟩|⟨el,kn,_,rfl⟩,_⟩⟩<;>rfl
 unfold bsV
 rw[e,hl]
 show(match readL F M 1 l.length v with|some (vs,b)=>FD b (gh vs)|none=>QR.f).val=_
 rw[hr]
 show(FD r (gh (l.map bV))).val=_
 rw[sX]
 show(fN l.length fun n=>fN (ce l) fun s=>match r with|some b=>QR.r (.s n s) b|none=> .v (.s n s)).val=_
 rw[bA,bA]
 cases r<;>rfl
def d7(d:List V)(ty:Nat)(row:List V):bJ:= .cells ty row.length true 0 false d (il row)
theorem Hf(d l:List V)(i:Nat)(h:i<l.length):cell l.length d (il l) i=l[i]?:=by
 rw[cV,ac h]
 unfold il
 rw[dt,ac (by omega)]
 simp only[Nat.sub_zero]
 rw[List.getElem?_eq_getElem h]
theorem XG{M:Mem}{b ty:Nat}{d row:List V}(h:M.get b=some (d7 d ty row)):iG F M b row:=
 ⟨ty,true,0,false,d,il row,az h,fun i hi=>Hf d row i hi⟩
theorem J0{M:Mem}{b c ty sz n:Nat}{d:List V}{es:List (List V)}(h:M.get b=some (d7 d ty es.flatten))(hb:b<c)(h0:∀e∈es,e.length=sz)(hn:es.length=n):cA F M c sz (.l b 0 n n) es:=by
 subst hn
 exact⟨h0,.inr ⟨b,0,.inl ⟨_,aj _,rfl⟩,hb,(XG h).cells⟩⟩
def xV(t:T):List (Nat×X)→List (Nat×List V)
 |[]=>[]
 |(o,x)::r=>(o,flatten (x.ev t))::xV t r
theorem Rw(t:T):xV t []=[]:=rfl
theorem pQ(t:T)(o:Nat)(x:X)(r:List (Nat×X)):xV t ((o,x)::r)=(o,flatten (x.ev t))::xV t r:=rfl
def kq(sz:Nat):Nat→List (Nat×List V)→Option (List V)
 |_,[]=>some []
 |o,(k,vs)::r=>if k=o∧vs.length=sz∧aL vs=true then(kq sz (o+sz) r).map (vs++ ·)else none
theorem DD(sz o:Nat):kq sz o []=some []:=rfl
theorem mg(sz o k:Nat)(vs:List V)(r:List (Nat×List V)):kq sz o ((k,vs)::r)=if k=o∧vs.length=sz∧aL vs=true then(kq sz (o+sz) r).map (vs++ ·)else none:=rfl
theorem m8:∀(a b:List V) (k:Nat) (t:T),bP b (k+a.length) (bP a k t)=bP (a++b) k t
 |[],b,k,t=>rfl
 |x::a,b,k,t=>by
  rw[List.cons_append,cW,cW,av,show k+(a.length+1)=(k+1)+a.length by omega,m8 a b]
theorem A8{sz m:Nat}{t:T}:∀{parts:List (Nat×X)} {pre row:List V},kq sz pre.length (xV t parts)=some row→pre.length+row.length≤m→fillP sz m t parts (bP pre 0 .e)=some (bP (pre++row) 0 .e)
 |[],pre,row,h,hm=>by
  obtain rfl:[]=row:=ae h;rw[bF];rfl
 |(o,x)::r,pre,row,h,hm=>by
  rw[pQ,mg]at h;split at h
  ·rename_i hc;obtain⟨rfl,h1,h2⟩:=hc;rw[bn]at h;obtain⟨row',h3,rfl⟩:=h;rw[aG]at hm;show(bif Nat.beq (flatten (x.ev t)).length sz&&Nat.ble (Nat.add pre.length sz) m&&aL (flatten (x.ev t))then(bP (flatten (x.ev t)) pre.length (bP pre 0 .e)).force fun t'=>fillP sz m t r t' else none)=_;rw[bR,cB,h2,ah h1,ah (show Nat.add pre.length sz≤m by show pre.length+sz≤m;omega)];show(bP (flatten (x.ev t)) pre.length (bP pre 0 .e)).force (fun t'=>fillP sz m t r t')=_;rw[Tr.force_eq];have hs:=m8 pre (flatten (x.ev t)) 0 .e;rw[Nat.zero_add]at hs;rw[hs];have:=A8 (m:=m) (parts:=r) (pre:=pre++flatten (x.ev t)) (row:=row') (by rw[aG,h1];exact h3) (by rw[aG];omega);rw[this,aQ]
  ·cases h
theorem tT{sz:Nat}:∀{ps:List (Nat×List V)} {o:Nat} {row:List V},kq sz o ps=some row→row.length=ps.length*sz∧aL row=true
 |[],o,row,h=>by
  obtain rfl:[]=row:=ae h;simp;rfl
 |(k,vs)::r,o,row,h=>by
  rw[mg]at h;split at h
  ·rename_i hc;rw[bn]at h;obtain⟨row',h3,rfl⟩:=h;obtain⟨h4,h5⟩:=tT h3;refine⟨by rw[aG,h4,hc.2.1,av,Nat.add_mul];omega,?_⟩;have key:∀(a b:List V),aL a=true→aL b=true→aL (a++b)=true:=by
    intro a
    induction a with
    |nil=>intro b _ h;exact h
    |cons x a ih=>
     intro b ha hb;rw[aw,aC]at ha;rw[List.cons_append,aw,ha.1,ih b ha.2 hb];rfl
   exact key _ _ hc.2.2 h5
  ·cases h
def bu2(ty n:Nat)(zero:List V)(b:Nat):Option (List V)→Option (V×bJ)
 |some row=>some (.l b 0 n n,d7 zero ty row)
 |none=>none
def bW8(ty n sz:Nat)(zero:List V)(parts:List (Nat×X))(b:Nat)(t:T):Option (V×bJ):=ju (.bsl ty n sz zero parts) b t
theorem A6(t:T):∀ps:List (Nat×X),(xV t ps).length=ps.length
 |[]=>rfl
 |(o,x)::r=>by rw[pQ,av,av,A6 t r]
theorem Jt(ty n sz:Nat)(zero:List V)(parts:List (Nat×X))(b:Nat)(t:T)(hn:parts.length=n){row:List V}(h:kq sz 0 (xV t parts)=some row):
 ju (.bsl ty n sz zero parts) b t=some (.l b 0 n n,d7 zero ty row):=by
 subst hn
 have hl:=(tT h).1
 rw[A6]at hl
 have:=A8 (m:=parts.length*sz) (pre:=[]) h (by simp[hl])
 rw[List.nil_append]at this
 show(match fillP sz (parts.length*sz) t parts .e with|some c=>fN (parts.length*sz) fun m=>some (V.l b 0 parts.length parts.length,bJ.cells ty m true 0 false zero c)|none=>none)=_
 rw[show fillP sz (parts.length*sz) t parts .e=some (bP row 0 .e)from this]
 show fN (parts.length*sz) (fun m=>some (V.l b 0 parts.length parts.length,bJ.cells ty m true 0 false zero (bP row 0 .e)))=_
 rw[bA,←hl];rfl
theorem VP(ty n sz:Nat)(zero:List V)(parts:List (Nat×X))(b:Nat)(t:T):ju (.bsl ty n sz zero parts) b t=if parts.length=n∧(kq sz 0 (xV t parts)).isSome=true then bu2 ty n zero b (kq sz 0 (xV t parts))else bW8 ty n sz zero parts b t:=by
 split
 ·rename_i h;obtain⟨row,hr⟩:=bL.1 h.2;rw[hr];exact Jt ty n sz zero parts b t h.1 hr
 ·rfl
theorem Ha(ty n:Nat)(zero:List V)(b:Nat)(row:List V):bu2 ty n zero b (some row)=some (.l b 0 n n,d7 zero ty row):=rfl
def yf(L:List ES):RO→List V→Mem→Nat→RC:=fun F args M ct=>match args with|[]=>bif fR F L then .k (.b true) M ct else .f|_=> .f
theorem Do{L:List ES}(h:fR F L=true)(M:Mem)(c:Nat):yf L F [] M c= .k (.b true) M c:=by
 show(bif fR F L then RC.k (.b true) M c else .f)=_
 rw[h];rfl
end
def AX(C:Nat):Value→Option V
 | .bool x=>some (.b x)
 | .int k n=>some (.i k n)
 | .string s=>some (sV s.data.toList)
 | .pointer none=>some .p0
 | .slice none 0 0=>some .l0
 | .slice (some a) n c=>if a.spot=none∧a.block<C then some (.l a.block a.off n c)else if n=0∧c=0∧zA a<C then some (.ue (zA a) 1 0)else none
 | .iface t (.pointer (some ⟨r,o,none⟩))=>if r<C then some (.a t (.p r o))else none
 |_=>none
theorem Wj(E:cU)(s:ByteArray):conc E (sV s.data.toList)= .string s:=by
 show Value.string (ba s.data.toList.length (ce s.data.toList))=_
 unfold ba
 rw[kI]
theorem ur{C:Nat}{x:Value}{v:V}(h:AX C x=some v):conc E0 v=x∧bd (· <C) v:=by
 unfold AX at h
 split at h
 ·obtain rfl:=ae h;exact⟨rfl,trivial⟩
 ·obtain rfl:=ae h;exact⟨rfl,trivial⟩
 ·obtain rfl:=ae h;exact⟨Wj _ _,trivial⟩
 ·obtain rfl:=ae h;exact⟨rfl,trivial⟩
 ·obtain rfl:=ae h;exact⟨rfl,trivial⟩
 ·rename_i a n c;split at h
  ·rename_i hr;obtain⟨b,o,sp⟩:=a;obtain⟨h1,hr⟩:=hr;have h1:sp=none:=h1;subst h1;obtain rfl:=ae h;refine⟨?_,hr⟩;show Value.slice (some ⟨b,0+o,none⟩) n c=_;rw[Nat.zero_add]
  ·split at h
   ·rename_i hr;obtain⟨rfl,rfl,hr⟩:=hr;obtain rfl:=ae h;refine⟨?_,hr⟩;show Value.slice (some (if(0:Nat)=0 then(if(0:Nat)<1 then adD (zA a)else _)else _)) 0 0=_;rw[ac rfl,ac (by decide),bs7]
   ·cases h
 ·rename_i t r o;split at h
  ·rename_i hr;obtain rfl:=ae h;refine⟨?_,hr⟩;show Value.iface t (.pointer (some ⟨r,0+o,none⟩))=_;rw[Nat.zero_add]
  ·cases h
 ·cases h
def oW:List (Option V)→Nat→T→T
 |[],_,t=>t
 |none::r,k,t=>oW r (k+1) t
 |some v::r,k,t=>oW r (k+1) (t.set k v)
theorem qa:∀(l:List (Option V)) (k:Nat) (t:T) (j:Nat),(oW l k t).get j=if k≤j∧j<k+l.length then(match l[j-k]? with|some (some v)=>some v|_=>t.get j)else t.get j
 |[],k,t,j=>by
  rw[ab (by simp;try omega)];rfl
 |none::r,k,t,j=>by
  show(oW r (k+1) t).get j=_;rw[qa r (k+1) t j];simp only[av];by_cases h0:j=k
  ·subst h0;rw[ab (by omega),ac (by omega)];simp
  ·by_cases h1:k≤j∧j<k+(r.length+1)
   ·rw[ac (by omega),ac h1,show j-k=(j-(k+1))+1 by omega,List.getElem?_cons_succ]
   ·rw[ab (by omega),ab h1]
 |some v::r,k,t,j=>by
  show(oW r (k+1) (t.set k v)).get j=_;rw[qa r (k+1) (t.set k v) j,Tr.get_set];simp only[av];by_cases h0:j=k
  ·subst h0;rw[ab (by omega),ac rfl,ac (by omega)];simp
  ·rw[ab h0];by_cases h1:k≤j∧j<k+(r.length+1)
   ·rw[ac (by omega),ac h1,show j-k=(j-(k+1))+1 by omega,List.getElem?_cons_succ]
   ·rw[ab (by omega),ab h1]
def qO(C:Nat):Obj→Option bJ
 | .cells arr ty _=>some (.cells ty arr.size false arr.size true [] (oW (arr.toList.map (AX C)) 0 .e))
 |_=>none
def ny(C:Nat):List Obj→Nat→RO
 |[],_=>[]
 |o::r,k=>match qO C o with
  |some x=>(k,x)::ny C r (k+1)
  |none=>ny C r (k+1)
theorem w7(C:Nat):∀(l:List Obj) (k j:Nat),bv (ny C l k) j=if k≤j then(l[j-k]?).bind (qO C)else none
 |[],k,j=>by
  show none=_;split<;>simp
 |o::r,k,j=>by
  have ih:=w7 C r (k+1) j;unfold ny;by_cases h0:j=k
  ·subst h0;rw[ab (by omega)]at ih;rw[ac (aj _),Nat.sub_self,List.getElem?_cons_zero];show _=qO C o;cases hb:qO C o with
   |none=>exact ih
   |some x=>
    show bv ((j,x)::ny C r (j+1)) j=some x;rw[cI,ac rfl]
  ·have e:bv (match qO C o with|some x=>(k,x)::ny C r (k+1)|none=>ny C r (k+1)) j=bv (ny C r (k+1)) j:=by
    cases qO C o with
    |none=>rfl
    |some x=>
     show bv ((k,x)::ny C r (k+1)) j=_;rw[cI,ab (fun e=>h0 e.symm)]
   rw[e,ih];by_cases h1:k≤j
   ·rw[ac (by omega),ac h1,show j-k=(j-(k+1))+1 by omega,List.getElem?_cons_succ]
   ·rw[ab (by omega),ab h1]
def eB(W:World)(C:Nat):RO:=ny C W.heap.toList 0
theorem mU(W:World)(C j:Nat):bv (eB W C) j=(W.heap[j]?).bind (qO C):=by
 unfold eB
 rw[w7,ac (ax _),Nat.sub_zero,Array.getElem?_toList]
theorem mV{C ty:Nat}{arr:Array Value}{k:Nat}{v:V}:cell arr.size [] (oW (arr.toList.map (AX C)) 0 .e) k=some v↔ ∃x,arr[k]?=some x∧AX C x=some v:=by
 rw[cV]
 by_cases h:k<arr.size
 ·rw[ac h,qa,ac (by simpa using h)];simp only[Nat.sub_zero,List.getElem?_map,Array.getElem?_toList,Array.getElem?_eq_getElem h,Option.map_some];show(match (match some (AX C arr[k])with|some (some v)=>some v|_=>(Tr.e:T).get k)with|some v=>some v|none=>([]:List V)[k%([]:List V).length]?)=some v↔_;constructor
  ·intro hv;refine⟨arr[k],rfl,?_⟩;cases hx:AX C arr[k]with
   |none=>rw[hx]at hv;simp[Tr.get_e]at hv
   |some y=>rw[hx]at hv;simpa using hv
  ·rintro⟨x,hx,hv⟩;obtain rfl:=ae hx;rw[hv]
 ·rw[ab h];constructor
  ·intro hh;cases hh
  ·rintro⟨x,hx,_⟩;rw[Array.getElem?_eq_none (by omega)]at hx;cases hx
theorem RH{P:Program}{W:World}{C:Nat}(hC:W.heap.size≤C):kO P E0 (eB W C) .e (· <C) W:=by
 refine⟨?_,fun b b' _ _ e=>e,fun b _=>rfl⟩
 intro b blk hb
 rw[b5 (show(Tr.e:Mem).get b=none from rfl),mU]at hb
 cases ho:W.heap[b]? with
 |none=>rw[ho]at hb;cases hb
 |some o=>
  rw[ho]at hb;have hb':qO C o=some blk:=hb;have hlt:b<C:=Nat.lt_of_lt_of_le (Array.getElem?_eq_some_iff.1 ho).1 hC;cases o with
  |cells arr ty fr=>
   obtain rfl:=ae hb';refine⟨hlt,?_,_,ho,arr,fr,rfl,?_,?_,?_,?_⟩
   ·intro k v hk;obtain⟨x,_,hv⟩:=(mV (ty:=ty)).1 hk;exact(ur hv).2
   ·intro k v hk;obtain⟨x,hx,hv⟩:=(mV (ty:=ty)).1 hk;show arr[0+k]?=_;rw[Nat.zero_add,hx,(ur hv).1]
   ·show arr.size=0+arr.size+0*_;simp
   ·intro o h1 h2;have h1':0+arr.size≤o:=h1;omega
   ·intro h;cases h
  |_=>cases hb'
theorem HE{W:World}{C r o:Nat}{x:Value}{v:V}(h:W.cell? ⟨r,o,none⟩=some x)(hv:AX C x=some v):load1 (eB W C) .e r o=some v:=by
 unfold World.cell? at h
 split at h
 ·rename_i cs ty fr hh;have h':cs[o]?=some x:=h;unfold Ev.load1;rw[b5 (show(Tr.e:Mem).get r=none from rfl),mU];have hh':W.heap[r]?=some (.cells cs ty fr):=hh;rw[hh'];exact(mV (ty:=ty)).2 ⟨x,h',hv⟩
 ·cases h
theorem w8{W:World}{C:Nat}:∀{L:List ES},(∀t∈L,t.1<1000∧vv W t)→fR (eB W C) L=true
 |[],_=>rfl
 |t::r,h=>by
  show(Nat.blt t.1 1000&&(rj (eB W C) t&&fR (eB W C) r))=true;rw[w8 fun t ht=>h t (bq _ ht),gg,ah (h t (bG ..)).1];obtain⟨_,ty,fr,hh⟩:=h t (bG ..);have hi:rj (eB W C) t=true:=by
   unfold rj;rw[mU,hh];show(Nat.beq (t.2.2.map fun z=>Value.int t.2.1 z).toArray.size (t.2.2.map fun z=>Value.int t.2.1 z).toArray.size&&iU _ [] _ t.2.1 t.2.2 0)=true;rw[Nat.beq_refl,Bool.true_and]
   have key:∀(zs:List Int) (i:Nat),i+zs.length=t.2.2.length→(∀j,zs[j]?=t.2.2[i+j]?)→
    iU (t.2.2.map fun z=>Value.int t.2.1 z).toArray.size [] (oW ((t.2.2.map fun z=>Value.int t.2.1 z).toArray.toList.map (AX C)) 0 .e) t.2.1 zs i=true:=by
    intro zs
    induction zs with
    |nil=>
     intro i hi _;show Nat.beq i _=true;simp only[aM]at hi;rw[bR];simp;omega
    |cons z zs ih=>
     intro i hi hz;have h0:=hz 0;simp only[List.getElem?_cons_zero,aB]at h0
     have hc:cell (t.2.2.map fun z=>Value.int t.2.1 z).toArray.size [] (oW ((t.2.2.map fun z=>Value.int t.2.1 z).toArray.toList.map (AX C)) 0 .e) i=some (.i t.2.1 z):=
      (mV (ty:=ty)).2 ⟨.int t.2.1 z,by simp[←h0],rfl⟩
     unfold iU;rw[hc];show(Ef t.2.1 z (.i t.2.1 z)&&_)=true;rw[ih (i+1) (by simp at hi;omega) fun j=>by have:=hz (j+1);rw[List.getElem?_cons_succ]at this;rw[this];congr 1;omega];show(gS t.2.1 t.2.1&&Ho z z&&true)=true;rw[eK,da];simp
   exact key t.2.2 0 (by omega) (fun j=>by rw[Nat.zero_add])
  rw[hi];rfl
theorem aT1{P:Program}(hm:P.follows .mixedOrders=true){Φ:Nat→Option CF}(hΦ:eR P Φ){f:Nat}{W:World}{C:Nat}{args:List V}(hC:W.heap.size≤C)(hk:1000≤C)(ha:fZ (· <C) args)
 (h:Ev.Calls Φ (eB W C) f args .e C fun v _ _=>v= .b true):Go.Calls P f (aI E0 args).toArray W fun e W'=>e= .returned (.bool true)∧(∀may,W.keptBut W' may)∧ ∀i,i<W.heap.size→W'.heap[i]?=W.heap[i]?:=by
 obtain⟨v,M',c',hc,rfl⟩:=h
 obtain⟨fn,h1,h2,h3,hC⟩:=ir (rd:=none) (fn:=0) (F₀:=[]) hΦ (Rc hm hΦ) (eB W C) f args .e C (.b true) M' c' hc E0 (· <C) W (RH hC) (fun g _=>⟨rfl,rfl⟩) (fun g hg=>Nat.lt_of_lt_of_le hg hk) (fun b hb hc=>Nat.lt_irrefl _ (Nat.lt_of_lt_of_le hc hb)) ha
 refine hC.mono ?_
 rintro e W' ⟨E',c',rfl,hS,_,_⟩
 exact⟨rfl,fun may=>X0 hS may,fun i hi=>hS.frame i hi (fun b hb=>by cases hb)⟩
end
end Go.Proofs.YtmbpllipombieaaDoor.Ev
