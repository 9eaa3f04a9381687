/- What is proved here: pieces of the evaluator's soundness: if the evaluator comes to a value, the model's run comes to it, for every world and tape; no conditions beyond the hypotheses of each theorem. -/
import Derived.Test.YtmbpllipombieaaDoorEv2
import Derived.Lib.LaidTab
import GoSem.ClaimJoined
set_option linter.unusedSimpArgs false
set_option linter.unusedVariables false
set_option linter.defProp false
namespace Go.Proofs.YtmbpllipombieaaDoor.Ev
open Go
noncomputable section
def LR(a b:Rs):Prop:=a= .f∨a=b
def LC(a b:RC):Prop:=a= .f∨a=b
def LO{α:Type}(a b:Option α):Prop:=a=none∨a=b
def j4(ex ex':uR):Prop:=∀rd fn F c s,LR (ex rd fn F c s) (ex' rd fn F c s)
section
variable{Φ:Nat→Option CF}{ex ex':uR}{rd:Option Nat}{fn:Nat}{F:RO}
theorem RN(h:j4 ex ex')(F:RO)(f:Nat)(args:List V)(M:Mem)(c:Nat)(o:Option CF):LC (dt ex F f args M c o) (dt ex' F f args M c o):=by
 cases o with
 |none=>exact .inl rfl
 |some cf=>
  cases cf with
  |orc g=>exact .inr rfl
  |mk n res body=>
   show LC (lS res F (ex none f F body (.mk (bz n args) [] M c))) (lS res F (ex' none f F body (.mk (bz n args) [] M c)));rcases h none f F body (.mk (bz n args) [] M c)with e|e
   ·rw[e];exact .inl rfl
   ·rw[e];exact .inr rfl
theorem tA(h:j4 ex ex')(f:Nat)(args:List V)(M:Mem)(c:Nat):LC (kU (.mk Φ ex rd fn F) f args M c) (kU (.mk Φ ex' rd fn F) f args M c):=RN h F f args M c _
theorem IV(h:j4 ex ex')(l fn':Nat)(body:CC)(t:T)(M:Mem)(c:Nat)(lp:Lp):LC (qQ (.mk Φ ex rd fn F) l fn' body t M c lp) (qQ (.mk Φ ex' rd fn F) l fn' body t M c lp):=by
 cases lp with
 |f=>exact .inl rfl
 |k s pe fn2 tm ps a b d=>
  cases s with
  |ready=>
   show LC ((M.set l (.loop .busy pe fn2 tm ps a b d)).force fun M=>mG l (ex (some l) fn' F body (.mk t [] M c))) ((M.set l (.loop .busy pe fn2 tm ps a b d)).force fun M=>mG l (ex' (some l) fn' F body (.mk t [] M c)));rw[Tr.force_eq,Tr.force_eq];rcases h (some l) fn' F body (.mk t [] (M.set l (.loop .busy pe fn2 tm ps a b d)) c)with e|e
   ·rw[e];exact .inl rfl
   ·rw[e];exact .inr rfl
  |_=>exact .inl rfl
theorem Vr(h:j4 ex ex')(l fn':Nat)(body:CC)(r:Rs):LC (mF (.mk Φ ex rd fn F) l fn' body r) (mF (.mk Φ ex' rd fn F) l fn' body r):=by
 cases r with
 |f=>exact .inl rfl
 |k e s=>
  cases e with
  |nrm=>
   obtain⟨t,d,M,c⟩:=s;cases d with
   |nil=>exact IV (Φ:=Φ) (rd:=rd) (fn:=fn) h l fn' body t M c _
   |cons _ _=>exact .inl rfl
  |_=>exact .inl rfl
theorem YA(h:j4 ex ex')(l fn':Nat)(asg body:CC)(M:Mem)(c:Nat)(o:Option T):LC (ER (.mk Φ ex rd fn F) l fn' asg body M c o) (ER (.mk Φ ex' rd fn F) l fn' asg body M c o):=by
 cases o with
 |none=>exact .inl rfl
 |some t=>
  show LC (mF (.mk Φ ex rd fn F) l fn' body (ex (some l) fn' F asg (.mk t [] M c))) (mF (.mk Φ ex' rd fn F) l fn' body (ex' (some l) fn' F asg (.mk t [] M c)));rcases h (some l) fn' F asg (.mk t [] M c)with e|e
  ·rw[e];exact .inl rfl
  ·rw[e];exact Vr h l fn' body _
theorem RT(h:j4 ex ex')(l:Nat)(args:List V)(M:Mem)(c:Nat)(lp:Lp):LC (r9 (.mk Φ ex rd fn F) l args M c lp) (r9 (.mk Φ ex' rd fn F) l args M c lp):=by
 cases lp with
 |f=>exact .inl rfl
 |k s pe fn2 tm ps a b d=>
  cases s with
  |ready=>exact YA h l fn2 a b M c _
  |_=>exact .inl rfl
theorem RQ(h:j4 ex ex')(v:V)(args:List V)(M:Mem)(c:Nat):LC (oS (.mk Φ ex rd fn F) v args M c) (oS (.mk Φ ex' rd fn F) v args M c):=by
 cases v with
 |f g a b=>exact tA (Φ:=Φ) (rd:=rd) (fn:=fn) h g _ M c
 |y l=>exact RT h l args M c _
 |_=>exact .inl rfl
theorem RP(h:j4 ex ex')(v:V)(args:List V)(M:Mem)(c:Nat):LC (lM (.mk Φ ex rd fn F) v args M c) (lM (.mk Φ ex' rd fn F) v args M c):=by
 cases v with
 |f g a b=>exact tA (Φ:=Φ) (rd:=rd) (fn:=fn) h g _ M c
 |_=>exact .inl rfl
theorem S5(h:j4 ex ex')(o:EO)(M:Mem)(c:Nat)(t:T):LC (fc o (.mk Φ ex rd fn F) M c t) (fc o (.mk Φ ex' rd fn F) M c t):=by
 cases o with
 |call f as=>exact tA (Φ:=Φ) (rd:=rd) (fn:=fn) h f _ M c
 |cv f as=>exact RQ h _ _ M c
 |_=>exact .inr rfl
theorem TP(h:j4 ex ex')(o:OK)(dst:Option aQ)(t:T)(d:List Nat)(M:Mem)(c:Nat):LO (Ye o (.mk Φ ex rd fn F) dst t d M c) (Ye o (.mk Φ ex' rd fn F) dst t d M c):=by
 cases o with
 |q o=>exact .inr rfl
 |a o=>exact .inr rfl
 |e o=>
  show LO (vt dst t d (fc o (.mk Φ ex rd fn F) M c t)) (vt dst t d (fc o (.mk Φ ex' rd fn F) M c t));rcases S5 (Φ:=Φ) (rd:=rd) (fn:=fn) (F:=F) h o M c t with e|e
  ·rw[e];exact .inl rfl
  ·rw[e];exact .inr rfl
theorem TA(h:j4 ex ex')(o:CO)(s:St):LO (dX o (.mk Φ ex rd fn F) s) (dX o (.mk Φ ex' rd fn F) s):=by
 obtain⟨dst,op,g⟩:=o
 obtain⟨t,d,M,c⟩:=s
 cases g with
 |none=>exact TP h op dst t d M c
 |some g=>
  show LO (s_w op (.mk Φ ex rd fn F) dst t d M c (wanted t (some g))) (s_w op (.mk Φ ex' rd fn F) dst t d M c (wanted t (some g)));cases wanted t (some g)with
  |false=>exact .inr rfl
  |true=>exact TP h op dst t d M c
theorem wM(h:j4 ex ex'):∀(ops:List CO) (s:St),LO (dq ops (.mk Φ ex rd fn F) s) (dq ops (.mk Φ ex' rd fn F) s)
 |[],s=> .inr rfl
 |o::r,s=>by
  show LO (kH (dq r) (.mk Φ ex rd fn F) (dX o (.mk Φ ex rd fn F) s)) (kH (dq r) (.mk Φ ex' rd fn F) (dX o (.mk Φ ex' rd fn F) s));rcases TA (Φ:=Φ) (rd:=rd) (fn:=fn) (F:=F) h o s with e|e
  ·rw[e];exact .inl rfl
  ·rw[e];cases dX o (.mk Φ ex' rd fn F) s with
   |none=>exact .inl rfl
   |some s1=>exact wM h r s1
theorem WO(h:j4 ex ex')(e:EO)(dst:Option aQ)(t:T)(c:Nat)(pend:List (Nat×Nat×bK))(reads:List (Nat×Nat))(p:Pr):
 LO (qa e (.mk Φ ex rd fn F) dst t c pend reads p) (qa e (.mk Φ ex' rd fn F) dst t c pend reads p):=by
 obtain⟨F',M,saved⟩:=p
 show LO (bif cC F' M pend then nk F' dst t pend reads saved (fc e (.mk Φ ex rd fn F') M c t)else none) (bif cC F' M pend then nk F' dst t pend reads saved (fc e (.mk Φ ex' rd fn F') M c t)else none)
 cases cC F' M pend with
 |false=>exact .inl rfl
 |true=>
  rcases S5 (Φ:=Φ) (rd:=rd) (fn:=fn) (F:=F') h e M c t with e|e
  ·rw[e];exact .inl rfl
  ·rw[e];exact .inr rfl
theorem aR7(h:j4 ex ex')(base:Nat)(x:Nat×Nat×CO)(s:DS):LO (rZ (.mk Φ ex rd fn F) base x s) (rZ (.mk Φ ex' rd fn F) base x s):=by
 obtain⟨i,mask,dst,op,g⟩:=x
 obtain⟨t,M,c,pend,reads⟩:=s
 show LO (bif wanted t g then S0 (.mk Φ ex rd fn F) base i mask dst op t M c pend reads else _) (bif wanted t g then S0 (.mk Φ ex' rd fn F) base i mask dst op t M c pend reads else _)
 cases wanted t g with
 |false=>exact .inr rfl
 |true=>
  cases op with
  |q o=>exact .inr rfl
  |a o=>exact .inr rfl
  |e o=>
   show LO (vk o (.mk Φ ex rd fn F) mask dst t c reads (en mask pend M)) (vk o (.mk Φ ex' rd fn F) mask dst t c reads (en mask pend M));obtain⟨M1,p1⟩:=en mask pend M;exact WO h o dst t c p1 reads _
theorem Ff(h:j4 ex ex')(base:Nat):∀(ops:List (Nat×Nat×CO)) (s:DS),LO (iq (.mk Φ ex rd fn F) base ops s) (iq (.mk Φ ex' rd fn F) base ops s)
 |[],s=> .inr rfl
 |o::r,s=>by
  rw[iq,iq];rcases aR7 (Φ:=Φ) (rd:=rd) (fn:=fn) (F:=F) h base o s with e|e
  ·rw[e];exact .inl rfl
  ·rw[e];cases rZ (.mk Φ ex' rd fn F) base o s with
   |none=>exact .inl rfl
   |some s1=>exact Ff h base r s1
theorem zE(h:j4 ex ex')(c:CC)(s:St):LR (oP (.mk Φ ex rd fn F) c s) (oP (.mk Φ ex' rd fn F) c s):=h rd fn F c s
theorem FZ(h:j4 ex ex')(f:X)(ps:List aQ)(asg body:CC)(t:T)(d:List Nat)(M:Mem)(l dn:Nat):LR (oq f ps asg body (.mk Φ ex rd fn F) t d M l dn) (oq f ps asg body (.mk Φ ex' rd fn F) t d M l dn):=by
 show LR ((M.set l (.loop .ready .none fn t ps asg body dn)).force fun M=>fN (Nat.succ l) fun c=>mm t d l (lM (.mk Φ ex rd fn F) (f.ev t) [.y l] M c)) ((M.set l (.loop .ready .none fn t ps asg body dn)).force fun M=>fN (Nat.succ l) fun c=>mm t d l (lM (.mk Φ ex' rd fn F) (f.ev t) [.y l] M c))
 rw[Tr.force_eq,Tr.force_eq,bG,bG]
 rcases RP (Φ:=Φ) (rd:=rd) (fn:=fn) (F:=F) h (f.ev t) [.y l] (M.set l (.loop .ready .none fn t ps asg body dn)) (Nat.succ l)with e|e
 ·rw[e];exact .inl rfl
 ·rw[e];exact .inr rfl
theorem Y2(h:j4 ex ex')(f:X)(ps:List aQ)(asg body:CC)(t:T)(d:List Nat)(M:Mem)(l:Nat)(lp:Lp):LR (It f ps asg body (.mk Φ ex rd fn F) t d M l lp) (It f ps asg body (.mk Φ ex' rd fn F) t d M l lp):=by
 cases lp with
 |f=>exact .inl rfl
 |k s pe fn2 tm ps' a b dn=>exact FZ h f ps asg body t d M l dn
theorem A7(h:j4 ex ex'):∀(c:CC) (s:St),LR (bn c (.mk Φ ex rd fn F) s) (bn c (.mk Φ ex' rd fn F) s):=by
 intro c
 induction c with
 |skip=>exact fun s=> .inr rfl
 |reg ops=>
  intro s;show LR (pu (dq ops (.mk Φ ex rd fn F) s)) (pu (dq ops (.mk Φ ex' rd fn F) s));rcases wM (Φ:=Φ) (rd:=rd) (fn:=fn) (F:=F) h ops s with e|e
  ·rw[e];exact .inl rfl
  ·rw[e];exact .inr rfl
 |dreg n ops=>
  intro s;obtain⟨t,d,M,c⟩:=s;show LR (fN (Nat.add c n) fun c'=>tG d (iq (.mk Φ ex rd fn F) c ops (.mk t M c' [] []))) (fN (Nat.add c n) fun c'=>tG d (iq (.mk Φ ex' rd fn F) c ops (.mk t M c' [] [])));rw[bG,bG];rcases Ff (Φ:=Φ) (rd:=rd) (fn:=fn) (F:=F) h c ops (.mk t M (Nat.add c n) [] [])with e|e
  ·rw[e];exact .inl rfl
  ·rw[e];exact .inr rfl
 |seq a b iha ihb=>
  intro s;show LR (jS (bn b) (.mk Φ ex rd fn F) (bn a (.mk Φ ex rd fn F) s)) (jS (bn b) (.mk Φ ex' rd fn F) (bn a (.mk Φ ex' rd fn F) s));rcases iha s with e|e
  ·rw[e];exact .inl rfl
  ·rw[e];cases bn a (.mk Φ ex' rd fn F) s with
   |f=>exact .inl rfl
   |k e s1=>
    cases e with
    |nrm=>exact ihb s1
    |_=>exact .inr rfl
 |cond x a b iha ihb=>
  intro s;show LR (iM x a b (bn a) (bn b) (.mk Φ ex rd fn F) s) (iM x a b (bn a) (bn b) (.mk Φ ex' rd fn F) s);unfold iM;cases x.ev (stT s)with
  |b v=>
   cases v with
   |true=>exact iha s
   |false=>exact ihb s
  |_=>exact .inl rfl
 |block id b ih=>
  intro s;show LR (eO id (bn b (.mk Φ ex rd fn F) s)) (eO id (bn b (.mk Φ ex' rd fn F) s));rcases ih s with e|e
  ·rw[e];exact .inl rfl
  ·rw[e];exact .inr rfl
 |loop b ih=>
  intro s;show LR (fX b (.mk Φ ex rd fn F) (bn b (.mk Φ ex rd fn F) s)) (fX b (.mk Φ ex' rd fn F) (bn b (.mk Φ ex' rd fn F) s));rcases ih s with e|e
  ·rw[e];exact .inl rfl
  ·rw[e];cases bn b (.mk Φ ex' rd fn F) s with
   |f=>exact .inl rfl
   |k e s1=>
    cases e with
    |nrm=>exact zE (Φ:=Φ) h _ s1
    |_=>exact .inr rfl
 |rf f ps a b _ _=>
  intro s;obtain⟨t,d,M,c⟩:=s;cases rd with
  |some l=>exact Y2 h f ps a b t d M c _
  |none=>
   show LR ((M.set c (.defs false)).force fun M=>fN (Nat.succ c) fun c'=>oq f ps a b (.mk Φ ex none fn F) t (c::d) M c' c) ((M.set c (.defs false)).force fun M=>fN (Nat.succ c) fun c'=>oq f ps a b (.mk Φ ex' none fn F) t (c::d) M c' c);rw[Tr.force_eq,Tr.force_eq,bG,bG];exact FZ h f ps a b t (c::d) _ _ c
 |exit id=>exact fun s=> .inr rfl
 |scope b tbl ihb _=>
  intro s;show LR (gG tbl (.mk Φ ex rd fn F) (bn b (.mk Φ ex rd fn F) s)) (gG tbl (.mk Φ ex' rd fn F) (bn b (.mk Φ ex' rd fn F) s));rcases ihb s with e|e
  ·rw[e];exact .inl rfl
  ·rw[e];cases bn b (.mk Φ ex' rd fn F) s with
   |f=>exact .inl rfl
   |k e s1=>
    cases e with
    |gto l=>
     show LR (ot tbl (.mk Φ ex rd fn F) s1 (i6 l tbl)) (ot tbl (.mk Φ ex' rd fn F) s1 (i6 l tbl));cases i6 l tbl with
     |none=>exact .inl rfl
     |some c=>exact zE (Φ:=Φ) h _ s1
    |_=>exact .inr rfl
 |tab l c r _ _=>exact fun s=> .inr rfl
 |goto l=>exact fun s=> .inr rfl
 |ret=>exact fun s=> .inr rfl
 |bad=>exact fun s=> .inr rfl
end
theorem Fo(Φ:Nat→Option CF):∀(n:Nat),j4 (exec Φ n) (exec Φ (n+1))
 |0=>fun rd fn F c s=> .inl rfl
 |n+1=>fun rd fn F c s=>A7 (Fo Φ n) c s
theorem qd(Φ:Nat→Option CF){n:Nat}(m:Nat):j4 (exec Φ n) (exec Φ (n+m)):=by
 induction m with
 |zero=>exact fun rd fn F c s=> .inr rfl
 |succ m ih=>
  intro rd fn F c s;rcases ih rd fn F c s with h|h
  ·exact .inl h
  ·rcases Fo Φ (n+m) rd fn F c s with h2|h2
   ·exact .inl (h.trans h2)
   ·exact .inr (h.trans h2)
def VR(a:Nat→Rs)(b:Rs):Prop:=b= .f∨ ∃n,∀m,n≤m→a m=b
def VC(a:Nat→RC)(b:RC):Prop:=b= .f∨ ∃n,∀m,n≤m→a m=b
def VO{α:Type}(a:Nat→Option α)(b:Option α):Prop:=b=none∨ ∃n,∀m,n≤m→a m=b
def vK(ex:Nat→uR)(ex':uR):Prop:=∀rd fn F c s,VR (fun m=>ex m rd fn F c s) (ex' rd fn F c s)
section
variable{Φ:Nat→Option CF}{ex:Nat→uR}{ex':uR}{rd:Option Nat}{fn:Nat}{F:RO}
theorem WA(h:vK ex ex')(F:RO)(f:Nat)(args:List V)(M:Mem)(c:Nat)(o:Option CF):VC (fun m=>dt (ex m) F f args M c o) (dt ex' F f args M c o):=by
 cases o with
 |none=>exact .inl rfl
 |some cf=>
  cases cf with
  |orc g=>exact .inr ⟨0,fun m hm=>rfl⟩
  |mk n res body=>
   show VC (fun m=>lS res F (ex m none f F body (.mk (bz n args) [] M c))) (lS res F (ex' none f F body (.mk (bz n args) [] M c)));rcases h none f F body (.mk (bz n args) [] M c)with e|⟨n,e⟩
   ·rw[e];exact .inl rfl
   ·exact .inr ⟨n,fun m hm=>congrArg (lS res F) (e m hm)⟩
theorem ya(h:vK ex ex')(f:Nat)(args:List V)(M:Mem)(c:Nat):VC (fun m=>kU (.mk Φ (ex m) rd fn F) f args M c) (kU (.mk Φ ex' rd fn F) f args M c):=WA h F f args M c _
theorem Vs(h:vK ex ex')(l fn':Nat)(body:CC)(t:T)(M:Mem)(c:Nat)(lp:Lp):VC (fun m=>qQ (.mk Φ (ex m) rd fn F) l fn' body t M c lp) (qQ (.mk Φ ex' rd fn F) l fn' body t M c lp):=by
 cases lp with
 |f=>exact .inl rfl
 |k s pe fn2 tm ps a b d=>
  cases s with
  |ready=>
   show VC (fun m=>(M.set l (.loop .busy pe fn2 tm ps a b d)).force fun M=>mG l (ex m (some l) fn' F body (.mk t [] M c))) ((M.set l (.loop .busy pe fn2 tm ps a b d)).force fun M=>mG l (ex' (some l) fn' F body (.mk t [] M c)));simp only[Tr.force_eq];rcases h (some l) fn' F body (.mk t [] (M.set l (.loop .busy pe fn2 tm ps a b d)) c)with e|⟨n,e⟩
   ·rw[e];exact .inl rfl
   ·exact .inr ⟨n,fun m hm=>congrArg (mG l) (e m hm)⟩
  |_=>exact .inl rfl
theorem Yz(h:vK ex ex')(l fn':Nat)(body:CC)(r:Rs):VC (fun m=>mF (.mk Φ (ex m) rd fn F) l fn' body r) (mF (.mk Φ ex' rd fn F) l fn' body r):=by
 cases r with
 |f=>exact .inl rfl
 |k e s=>
  cases e with
  |nrm=>
   obtain⟨t,d,M,c⟩:=s;cases d with
   |nil=>exact Vs (Φ:=Φ) (rd:=rd) (fn:=fn) h l fn' body t M c _
   |cons _ _=>exact .inl rfl
  |_=>exact .inl rfl
theorem bs5(h:vK ex ex')(l fn':Nat)(asg body:CC)(M:Mem)(c:Nat)(o:Option T):VC (fun m=>ER (.mk Φ (ex m) rd fn F) l fn' asg body M c o) (ER (.mk Φ ex' rd fn F) l fn' asg body M c o):=by
 cases o with
 |none=>exact .inl rfl
 |some t=>
  show VC (fun m=>mF (.mk Φ (ex m) rd fn F) l fn' body (ex m (some l) fn' F asg (.mk t [] M c))) (mF (.mk Φ ex' rd fn F) l fn' body (ex' (some l) fn' F asg (.mk t [] M c)));rcases h (some l) fn' F asg (.mk t [] M c)with e|⟨n,e⟩
  ·rw[e];exact .inl rfl
  ·rcases Yz (Φ:=Φ) (rd:=rd) (fn:=fn) (F:=F) h l fn' body (ex' (some l) fn' F asg (.mk t [] M c))with e2|⟨n2,e2⟩
   ·exact .inl e2
   ·exact .inr ⟨max n n2,fun m hm=>by
     have h1:=e m (bm (Nat.le_max_left _ _) hm);have h2:=e2 m (bm (Nat.le_max_right _ _) hm);simp only at h1 h2⊢;rw[h1,h2]⟩
theorem WE(h:vK ex ex')(l:Nat)(args:List V)(M:Mem)(c:Nat)(lp:Lp):VC (fun m=>r9 (.mk Φ (ex m) rd fn F) l args M c lp) (r9 (.mk Φ ex' rd fn F) l args M c lp):=by
 cases lp with
 |f=>exact .inl rfl
 |k s pe fn2 tm ps a b d=>
  cases s with
  |ready=>exact bs5 h l fn2 a b M c _
  |_=>exact .inl rfl
theorem WD(h:vK ex ex')(v:V)(args:List V)(M:Mem)(c:Nat):VC (fun m=>oS (.mk Φ (ex m) rd fn F) v args M c) (oS (.mk Φ ex' rd fn F) v args M c):=by
 cases v with
 |f g a b=>exact ya (Φ:=Φ) (rd:=rd) (fn:=fn) h g _ M c
 |y l=>exact WE h l args M c _
 |_=>exact .inl rfl
theorem WB(h:vK ex ex')(v:V)(args:List V)(M:Mem)(c:Nat):VC (fun m=>lM (.mk Φ (ex m) rd fn F) v args M c) (lM (.mk Φ ex' rd fn F) v args M c):=by
 cases v with
 |f g a b=>exact ya (Φ:=Φ) (rd:=rd) (fn:=fn) h g _ M c
 |_=>exact .inl rfl
theorem aE0(h:vK ex ex')(o:EO)(M:Mem)(c:Nat)(t:T):VC (fun m=>fc o (.mk Φ (ex m) rd fn F) M c t) (fc o (.mk Φ ex' rd fn F) M c t):=by
 cases o with
 |call f as=>exact ya (Φ:=Φ) (rd:=rd) (fn:=fn) h f _ M c
 |cv f as=>exact WD h _ _ M c
 |_=>exact .inr ⟨0,fun m hm=>rfl⟩
theorem aG9(h:vK ex ex')(o:OK)(dst:Option aQ)(t:T)(d:List Nat)(M:Mem)(c:Nat):VO (fun m=>Ye o (.mk Φ (ex m) rd fn F) dst t d M c) (Ye o (.mk Φ ex' rd fn F) dst t d M c):=by
 cases o with
 |q o=>exact .inr ⟨0,fun m hm=>rfl⟩
 |a o=>exact .inr ⟨0,fun m hm=>rfl⟩
 |e o=>
  show VO (fun m=>vt dst t d (fc o (.mk Φ (ex m) rd fn F) M c t)) (vt dst t d (fc o (.mk Φ ex' rd fn F) M c t));rcases aE0 (Φ:=Φ) (rd:=rd) (fn:=fn) (F:=F) h o M c t with e|⟨n,e⟩
  ·rw[e];exact .inl rfl
  ·exact .inr ⟨n,fun m hm=>congrArg (vt dst t d) (e m hm)⟩
theorem Y8(h:vK ex ex')(o:CO)(s:St):VO (fun m=>dX o (.mk Φ (ex m) rd fn F) s) (dX o (.mk Φ ex' rd fn F) s):=by
 obtain⟨dst,op,g⟩:=o
 obtain⟨t,d,M,c⟩:=s
 cases g with
 |none=>exact aG9 h op dst t d M c
 |some g=>
  show VO (fun m=>s_w op (.mk Φ (ex m) rd fn F) dst t d M c (wanted t (some g))) (s_w op (.mk Φ ex' rd fn F) dst t d M c (wanted t (some g)));cases wanted t (some g)with
  |false=>exact .inr ⟨0,fun m hm=>rfl⟩
  |true=>exact aG9 h op dst t d M c
theorem AG(h:vK ex ex'):∀(ops:List CO) (s:St),VO (fun m=>dq ops (.mk Φ (ex m) rd fn F) s) (dq ops (.mk Φ ex' rd fn F) s)
 |[],s=> .inr ⟨0,fun m hm=>rfl⟩
 |o::r,s=>by
  show VO (fun m=>kH (dq r) (.mk Φ (ex m) rd fn F) (dX o (.mk Φ (ex m) rd fn F) s)) (kH (dq r) (.mk Φ ex' rd fn F) (dX o (.mk Φ ex' rd fn F) s));rcases Y8 (Φ:=Φ) (rd:=rd) (fn:=fn) (F:=F) h o s with e|⟨n,e⟩
  ·rw[e];exact .inl rfl
  ·cases hs:dX o (.mk Φ ex' rd fn F) s with
   |none=>exact .inl rfl
   |some s1=>
    rw[hs]at e;rcases AG h r s1 with e2|⟨n2,e2⟩
    ·exact .inl e2
    ·exact .inr ⟨max n n2,fun m hm=>by
      have h1:=e m (bm (Nat.le_max_left _ _) hm);have h2:=e2 m (bm (Nat.le_max_right _ _) hm);simp only at h1 h2⊢;rw[h1];exact h2⟩
theorem aR8(h:vK ex ex')(e:EO)(dst:Option aQ)(t:T)(c:Nat)(pend:List (Nat×Nat×bK))(reads:List (Nat×Nat))(p:Pr):
 VO (fun m=>qa e (.mk Φ (ex m) rd fn F) dst t c pend reads p) (qa e (.mk Φ ex' rd fn F) dst t c pend reads p):=by
 obtain⟨F',M,saved⟩:=p
 show VO (fun m=>bif cC F' M pend then nk F' dst t pend reads saved (fc e (.mk Φ (ex m) rd fn F') M c t)else none) (bif cC F' M pend then nk F' dst t pend reads saved (fc e (.mk Φ ex' rd fn F') M c t)else none)
 cases cC F' M pend with
 |false=>exact .inl rfl
 |true=>
  rcases aE0 (Φ:=Φ) (rd:=rd) (fn:=fn) (F:=F') h e M c t with e|⟨n,e⟩
  ·rw[e];exact .inl rfl
  ·exact .inr ⟨n,fun m hm=>congrArg (nk F' dst t pend reads saved) (e m hm)⟩
theorem bE7(h:vK ex ex')(base:Nat)(x:Nat×Nat×CO)(s:DS):VO (fun m=>rZ (.mk Φ (ex m) rd fn F) base x s) (rZ (.mk Φ ex' rd fn F) base x s):=by
 obtain⟨i,mask,dst,op,g⟩:=x
 obtain⟨t,M,c,pend,reads⟩:=s
 show VO (fun m=>bif wanted t g then S0 (.mk Φ (ex m) rd fn F) base i mask dst op t M c pend reads else _) (bif wanted t g then S0 (.mk Φ ex' rd fn F) base i mask dst op t M c pend reads else _)
 cases wanted t g with
 |false=>exact .inr ⟨0,fun m hm=>rfl⟩
 |true=>
  cases op with
  |q o=>exact .inr ⟨0,fun m hm=>rfl⟩
  |a o=>exact .inr ⟨0,fun m hm=>rfl⟩
  |e o=>
   show VO (fun m=>vk o (.mk Φ (ex m) rd fn F) mask dst t c reads (en mask pend M)) (vk o (.mk Φ ex' rd fn F) mask dst t c reads (en mask pend M));obtain⟨M1,p1⟩:=en mask pend M;exact aR8 h o dst t c p1 reads _
theorem RZ(h:vK ex ex')(base:Nat):∀(ops:List (Nat×Nat×CO)) (s:DS),VO (fun m=>iq (.mk Φ (ex m) rd fn F) base ops s) (iq (.mk Φ ex' rd fn F) base ops s)
 |[],s=> .inr ⟨0,fun m hm=>rfl⟩
 |o::r,s=>by
  simp only[iq];rcases bE7 (Φ:=Φ) (rd:=rd) (fn:=fn) (F:=F) h base o s with e|⟨n,e⟩
  ·rw[e];exact .inl rfl
  ·cases hs:rZ (.mk Φ ex' rd fn F) base o s with
   |none=>exact .inl rfl
   |some s1=>
    rw[hs]at e;rcases RZ h base r s1 with e2|⟨n2,e2⟩
    ·exact .inl e2
    ·exact .inr ⟨max n n2,fun m hm=>by
      have h1:=e m (bm (Nat.le_max_left _ _) hm);have h2:=e2 m (bm (Nat.le_max_right _ _) hm);simp only at h1 h2⊢;rw[h1];exact h2⟩
theorem F6(h:vK ex ex')(c:CC)(s:St):VR (fun m=>oP (.mk Φ (ex m) rd fn F) c s) (oP (.mk Φ ex' rd fn F) c s):=h rd fn F c s
theorem Ts(h:vK ex ex')(f:X)(ps:List aQ)(asg body:CC)(t:T)(d:List Nat)(M:Mem)(l dn:Nat):VR (fun m=>oq f ps asg body (.mk Φ (ex m) rd fn F) t d M l dn) (oq f ps asg body (.mk Φ ex' rd fn F) t d M l dn):=by
 show VR (fun m=>(M.set l (.loop .ready .none fn t ps asg body dn)).force fun M=>fN (Nat.succ l) fun c=>mm t d l (lM (.mk Φ (ex m) rd fn F) (f.ev t) [.y l] M c)) ((M.set l (.loop .ready .none fn t ps asg body dn)).force fun M=>fN (Nat.succ l) fun c=>mm t d l (lM (.mk Φ ex' rd fn F) (f.ev t) [.y l] M c))
 simp only[Tr.force_eq,bG]
 rcases WB (Φ:=Φ) (rd:=rd) (fn:=fn) (F:=F) h (f.ev t) [.y l] (M.set l (.loop .ready .none fn t ps asg body dn)) (Nat.succ l)with e|⟨n,e⟩
 ·rw[e];exact .inl rfl
 ·exact .inr ⟨n,fun m hm=>congrArg (mm t d l) (e m hm)⟩
theorem aZ0(h:vK ex ex')(f:X)(ps:List aQ)(asg body:CC)(t:T)(d:List Nat)(M:Mem)(l:Nat)(lp:Lp):VR (fun m=>It f ps asg body (.mk Φ (ex m) rd fn F) t d M l lp) (It f ps asg body (.mk Φ ex' rd fn F) t d M l lp):=by
 cases lp with
 |f=>exact .inl rfl
 |k s pe fn2 tm ps' a b dn=>exact Ts h f ps asg body t d M l dn
theorem Xb(h:vK ex ex'):∀(c:CC) (s:St),VR (fun m=>bn c (.mk Φ (ex m) rd fn F) s) (bn c (.mk Φ ex' rd fn F) s):=by
 intro c
 induction c with
 |skip=>exact fun s=> .inr ⟨0,fun m hm=>rfl⟩
 |reg ops=>
  intro s;show VR (fun m=>pu (dq ops (.mk Φ (ex m) rd fn F) s)) (pu (dq ops (.mk Φ ex' rd fn F) s));rcases AG (Φ:=Φ) (rd:=rd) (fn:=fn) (F:=F) h ops s with e|⟨n,e⟩
  ·rw[e];exact .inl rfl
  ·exact .inr ⟨n,fun m hm=>congrArg pu (e m hm)⟩
 |dreg k ops=>
  intro s;obtain⟨t,d,M,c⟩:=s;show VR (fun m=>fN (Nat.add c k) fun c'=>tG d (iq (.mk Φ (ex m) rd fn F) c ops (.mk t M c' [] []))) (fN (Nat.add c k) fun c'=>tG d (iq (.mk Φ ex' rd fn F) c ops (.mk t M c' [] [])));simp only[bG];rcases RZ (Φ:=Φ) (rd:=rd) (fn:=fn) (F:=F) h c ops (.mk t M (Nat.add c k) [] [])with e|⟨n,e⟩
  ·rw[e];exact .inl rfl
  ·exact .inr ⟨n,fun m hm=>congrArg (tG d) (e m hm)⟩
 |seq a b iha ihb=>
  intro s;show VR (fun m=>jS (bn b) (.mk Φ (ex m) rd fn F) (bn a (.mk Φ (ex m) rd fn F) s)) (jS (bn b) (.mk Φ ex' rd fn F) (bn a (.mk Φ ex' rd fn F) s));rcases iha s with e|⟨n,e⟩
  ·rw[e];exact .inl rfl
  ·cases hs:bn a (.mk Φ ex' rd fn F) s with
   |f=>exact .inl rfl
   |k x s1=>
    rw[hs]at e;cases x with
    |nrm=>
     rcases ihb s1 with e2|⟨n2,e2⟩
     ·exact .inl e2
     ·exact .inr ⟨max n n2,fun m hm=>by
       have h1:=e m (bm (Nat.le_max_left _ _) hm);have h2:=e2 m (bm (Nat.le_max_right _ _) hm);simp only at h1 h2⊢;rw[h1];exact h2⟩
    |_=>exact .inr ⟨n,fun m hm=>congrArg (jS (bn b) (.mk Φ (ex m) rd fn F)) (e m hm)⟩
 |cond x a b iha ihb=>
  intro s;show VR (fun m=>iM x a b (bn a) (bn b) (.mk Φ (ex m) rd fn F) s) (iM x a b (bn a) (bn b) (.mk Φ ex' rd fn F) s);unfold iM;cases x.ev (stT s)with
  |b v=>
   cases v with
   |true=>exact iha s
   |false=>exact ihb s
  |_=>exact .inl rfl
 |block id b ih=>
  intro s;show VR (fun m=>eO id (bn b (.mk Φ (ex m) rd fn F) s)) (eO id (bn b (.mk Φ ex' rd fn F) s));rcases ih s with e|⟨n,e⟩
  ·rw[e];exact .inl rfl
  ·exact .inr ⟨n,fun m hm=>congrArg (eO id) (e m hm)⟩
 |loop b ih=>
  intro s;show VR (fun m=>fX b (.mk Φ (ex m) rd fn F) (bn b (.mk Φ (ex m) rd fn F) s)) (fX b (.mk Φ ex' rd fn F) (bn b (.mk Φ ex' rd fn F) s));rcases ih s with e|⟨n,e⟩
  ·rw[e];exact .inl rfl
  ·cases hs:bn b (.mk Φ ex' rd fn F) s with
   |f=>exact .inl rfl
   |k x s1=>
    rw[hs]at e;cases x with
    |nrm=>
     rcases F6 (Φ:=Φ) (rd:=rd) (fn:=fn) (F:=F) h (.loop b) s1 with e2|⟨n2,e2⟩
     ·exact .inl e2
     ·exact .inr ⟨max n n2,fun m hm=>by
       have h1:=e m (bm (Nat.le_max_left _ _) hm);have h2:=e2 m (bm (Nat.le_max_right _ _) hm);simp only at h1 h2⊢;rw[h1];exact h2⟩
    |_=>exact .inr ⟨n,fun m hm=>congrArg (fX b (.mk Φ (ex m) rd fn F)) (e m hm)⟩
 |rf f ps a b _ _=>
  intro s;obtain⟨t,d,M,c⟩:=s;cases rd with
  |some l=>exact aZ0 h f ps a b t d M c _
  |none=>
   show VR (fun m=>(M.set c (.defs false)).force fun M=>fN (Nat.succ c) fun c'=>oq f ps a b (.mk Φ (ex m) none fn F) t (c::d) M c' c) ((M.set c (.defs false)).force fun M=>fN (Nat.succ c) fun c'=>oq f ps a b (.mk Φ ex' none fn F) t (c::d) M c' c);simp only[Tr.force_eq,bG];exact Ts h f ps a b t (c::d) _ _ c
 |exit id=>exact fun s=> .inr ⟨0,fun m hm=>rfl⟩
 |scope b tbl ihb _=>
  intro s;show VR (fun m=>gG tbl (.mk Φ (ex m) rd fn F) (bn b (.mk Φ (ex m) rd fn F) s)) (gG tbl (.mk Φ ex' rd fn F) (bn b (.mk Φ ex' rd fn F) s));rcases ihb s with e|⟨n,e⟩
  ·rw[e];exact .inl rfl
  ·cases hs:bn b (.mk Φ ex' rd fn F) s with
   |f=>exact .inl rfl
   |k x s1=>
    rw[hs]at e;cases x with
    |gto l=>
     have hj:VR (fun m=>ot tbl (.mk Φ (ex m) rd fn F) s1 (i6 l tbl)) (ot tbl (.mk Φ ex' rd fn F) s1 (i6 l tbl)):=by
      cases i6 l tbl with
      |none=>exact .inl rfl
      |some c=>exact F6 (Φ:=Φ) h _ s1
     rcases hj with e2|⟨n2,e2⟩
     ·exact .inl e2
     ·exact .inr ⟨max n n2,fun m hm=>by
       have h1:=e m (bm (Nat.le_max_left _ _) hm);have h2:=e2 m (bm (Nat.le_max_right _ _) hm);simp only at h1 h2⊢;rw[h1];exact h2⟩
    |_=>exact .inr ⟨n,fun m hm=>congrArg (gG tbl (.mk Φ (ex m) rd fn F)) (e m hm)⟩
 |tab l c r _ _=>exact fun s=> .inr ⟨0,fun m hm=>rfl⟩
 |goto l=>exact fun s=> .inr ⟨0,fun m hm=>rfl⟩
 |ret=>exact fun s=> .inr ⟨0,fun m hm=>rfl⟩
 |bad=>exact fun s=> .inr ⟨0,fun m hm=>rfl⟩
end
open Classical in
def j5(Φ:Nat→Option CF):uR:=fun rd fn F c s=>if h:∃n,exec Φ n rd fn F c s≠ .f then exec Φ (Classical.choose h) rd fn F c s else .f
theorem ye{Φ:Nat→Option CF}{n:Nat}{rd:Option Nat}{fn:Nat}{F:RO}{c:CC}{s:St}(h:exec Φ n rd fn F c s≠ .f):j5 Φ rd fn F c s=exec Φ n rd fn F c s:=by
 have hx:∃n,exec Φ n rd fn F c s≠ .f:=⟨n,h⟩
 unfold j5
 rw[dif_pos hx]
 have hc:=Classical.choose_spec hx
 rcases qd Φ (n:=n) (Classical.choose hx) rd fn F c s with e1|e1
 ·exact absurd e1 h
 ·rcases qd Φ (n:=Classical.choose hx) n rd fn F c s with e2|e2
  ·exact absurd e2 hc
  ·rw[e1,e2,Nat.add_comm]
theorem wd(Φ:Nat→Option CF)(rd:Option Nat)(fn:Nat)(F:RO)(c:CC)(s:St):j5 Φ rd fn F c s= .f∨ ∃n,j5 Φ rd fn F c s=exec Φ n rd fn F c s:=by
 by_cases hx:∃n,exec Φ n rd fn F c s≠ .f
 ·exact .inr ⟨_,by unfold j5;rw[dif_pos hx]⟩
 ·exact .inl (by unfold j5;rw[dif_neg hx])
theorem So(Φ:Nat→Option CF)(n:Nat):j4 (exec Φ n) (j5 Φ):=by
 intro rd fn F c s
 by_cases h:exec Φ n rd fn F c s= .f
 ·exact .inl h
 ·exact .inr (ye h).symm
theorem aS0(Φ:Nat→Option CF)(rd:Option Nat)(fn:Nat)(F:RO)(c:CC)(s:St):LR (j5 Φ rd fn F c s) (bn c (.mk Φ (j5 Φ) rd fn F) s):=by
 by_cases hx:∃n,exec Φ n rd fn F c s≠ .f
 ·obtain⟨n,hn⟩:=hx;rw[ye hn];cases n with
  |zero=>exact .inl rfl
  |succ n=>exact A7 (So Φ n) c s
 ·exact .inl (by unfold j5;rw[dif_neg hx])
theorem bF0(Φ:Nat→Option CF):vK (exec Φ) (j5 Φ):=by
 intro rd fn F c s
 rcases wd Φ rd fn F c s with h|⟨n,h⟩
 ·exact .inl h
 ·by_cases hf:j5 Φ rd fn F c s= .f
  ·exact .inl hf
  ·refine .inr ⟨n,fun m hm=>?_⟩;have:exec Φ m rd fn F c s≠ .f:=by
    obtain⟨k,rfl⟩:∃k,m=n+k:=⟨m-n,by omega⟩
    rcases qd Φ (n:=n) k rd fn F c s with e|e
    ·exact absurd (h.trans e) hf
    ·rw[←e,←h];exact hf
   exact(ye this).symm
theorem yd(Φ:Nat→Option CF)(rd:Option Nat)(fn:Nat)(F:RO)(c:CC)(s:St):j5 Φ rd fn F c s=bn c (.mk Φ (j5 Φ) rd fn F) s:=by
 rcases aS0 Φ rd fn F c s with h|h
 ·rcases Xb (Φ:=Φ) (rd:=rd) (fn:=fn) (F:=F) (bF0 Φ) c s with h2|⟨n,h2⟩
  ·rw[h,h2]
  ·have h3:exec Φ (n+1) rd fn F c s=bn c (.mk Φ (j5 Φ) rd fn F) s:=h2 n (aj _);by_cases hf:bn c (.mk Φ (j5 Φ) rd fn F) s= .f
   ·rw[h,hf]
   ·rw[←h3];exact ye (by rw[h3];exact hf)
 ·exact h
theorem S4{P:Program}(hm:P.follows .mixedOrders=true){Φ:Nat→Option CF}(hΦ:ft P Φ):zz P (j5 Φ):=by
 intro rd fn F cc t d M ct e t' d' M' ct' h
 rcases wd Φ rd fn F cc (.mk t d M ct)with h1|⟨n,h1⟩
 ·rw[h1]at h;cases h
 ·rw[h1]at h;exact tL hm hΦ n rd fn F cc t d M ct e t' d' M' ct' h
structure pU(F0:RO)(M0:Mem)(F:RO)(M:Mem):Prop where
 m:∀b blk,M0.get b=some blk→M.get b=some blk
 f:∀b blk,bF F0 b=some blk→look F M b=some blk
 ap:∀b,(bF F0 b).isSome→M0.get b=none
theorem pU.look{F0:RO}{M0:Mem}{F:RO}{M:Mem}(h:pU F0 M0 F M){b:Nat}{blk:bK}(hb:look F0 M0 b=some blk):look F M b=some blk:=by
 cases hm:M0.get b with
 |some x=>
  rw[ax hm]at hb;obtain rfl:=ag hb;exact ax (h.m b _ hm)
 |none=>
  rw[aY hm]at hb;exact h.f b blk hb
theorem pU.rel{P:Program}{E:d7}{F0 F:RO}{M0 M:Mem}{c:Nat→Prop}{w:World}(h:pU F0 M0 F M)(hr:kO P E F M c w):kO P E F0 M0 c w where
 has:=fun b blk hb=>hr.has b blk (h.look hb)
 inj:=by
  intro b b' h1 h2 e;obtain⟨x,hx⟩:=bM.1 h1;obtain⟨y,hy⟩:=bM.1 h2;exact hr.inj b b' (by rw[h.look hx];rfl) (by rw[h.look hy];rfl) e
 apart:=h.ap
theorem kO.lt{P:Program}{E:d7}{F:RO}{M:Mem}{c:Nat→Prop}{w:World}(h:kO P E F M c w){b:Nat}(hb:(look F M b).isSome):E.ρ b<w.heap.size:=by
 obtain⟨x,hx⟩:=bM.1 hb
 obtain⟨_,_,o',ho',_⟩:=h.has b x hx
 exact(Array.getElem?_eq_some_iff.1 ho').1
theorem lj.framed{P:Program}{E E':d7}{F0 F:RO}{M0 M M1 N:Mem}{c c':Nat→Prop}{w w':World}(hsub:pU F0 M0 F M)(hr:kO P E F M c w)(hS:lj P F0 E M0 c w E' M1 c' w')
 (hN:∀b blk,N.get b=some blk→M1.get b=some blk∨(M.get b=some blk∧M0.get b=none)):lj P F E M c w E' N c' w':=by
 have old:∀b blk,look F M b=some blk→M0.get b=none→c b∧eY c blk∧E'.ρ b=E.ρ b∧ ∃o,w'.heap[E'.ρ b]?=some o∧eA P E' b blk o:=by
  intro b blk hb h0;obtain⟨hcb,hbd,o,ho,hB⟩:=hr.has b blk hb;have e:=hS.ext.ρ b hcb;refine⟨hcb,hbd,e,o,?_,hB.ext hS.ext hcb hbd⟩;rw[e,hS.frame _ (Array.getElem?_eq_some_iff.1 ho).1,ho];intro b0 hb0 e0;obtain⟨x0,hx0⟩:=bM.1 hb0;have:b0=b:=hr.inj b0 b (by rw[ax (hsub.m b0 x0 hx0)];rfl) (by rw[hb];rfl) e0;subst this;rw[h0]at hx0;cases hx0
 have new_old:∀b b' blk',(M1.get b).isSome→look F M b'=some blk'→M0.get b'=none→E'.ρ b≠E.ρ b':=by
  intro b b' blk' h1 h2 h0 e;rcases hS.own b h1 with⟨b0,hb0,e0⟩|hge
  ·obtain⟨x0,hx0⟩:=bM.1 hb0;have:b0=b':=hr.inj b0 b' (by rw[ax (hsub.m b0 x0 hx0)];rfl) (by rw[h2];rfl) (e0.trans e);subst this;rw[h0]at hx0;cases hx0
  ·have:=hr.lt (b:=b') (by rw[h2];rfl);omega
 have fM0:∀b,(bF F b).isSome→M0.get b=none:=by
  intro b hb;cases h:M0.get b with
  |none=>rfl
  |some x=>have:=hr.apart b hb;rw[hsub.m b x h]at this;cases this
 have fM:∀b blk,bF F b=some blk→look F M b=some blk:=fun b blk hb=>by rw[aY (hr.apart b (by rw[hb];rfl))];exact hb
 have nocommon:∀b blk',look F M b=some blk'→M0.get b=none→M1.get b=none:=by
  intro b blk' h2 h0;cases h1:M1.get b with
  |none=>rfl
  |some x=>
   exfalso;have:=new_old b b blk' (by rw[h1];rfl) h2 h0;exact this (old b blk' h2 h0).2.2.1
 have lookN:∀b blk,look F N b=some blk→M1.get b=some blk∨(look F M b=some blk∧M0.get b=none):=by
  intro b blk hb;cases h:N.get b with
  |some x=>
   rw[ax h]at hb;obtain rfl:=ag hb;rcases hN b _ h with h1|⟨h1,h2⟩
   ·exact .inl h1
   ·exact .inr ⟨ax h1,h2⟩
  |none=>
   rw[aY h]at hb;exact .inr ⟨fM b blk hb,fM0 b (by rw[hb];rfl)⟩
 refine⟨hS.ext,hS.le,⟨?_,?_,?_⟩,?_,?_,hS.size,hS.os,hS.output,hS.tape⟩
 ·intro b blk hb;rcases lookN b blk hb with h1|⟨h1,h2⟩
  ·exact hS.rel.has b blk (ax h1)
  ·obtain⟨a1,a2,_,a3⟩:=old b blk h1 h2;exact⟨hS.le b a1,gi hS.le _ a2,a3⟩
 ·intro b b' h1 h2 e;obtain⟨x,hx⟩:=bM.1 h1;obtain⟨y,hy⟩:=bM.1 h2;rcases lookN b x hx with g1|⟨g1,g0⟩
  ·rcases lookN b' y hy with k1|⟨k1,k0⟩
   ·exact hS.rel.inj b b' (nG (by rw[g1];rfl)) (nG (by rw[k1];rfl)) e
   ·exfalso;exact new_old b b' y (by rw[g1];rfl) k1 k0 (e.trans (old b' y k1 k0).2.2.1)
  ·rcases lookN b' y hy with k1|⟨k1,k0⟩
   ·exfalso;exact new_old b' b x (by rw[k1];rfl) g1 g0 (e.symm.trans (old b x g1 g0).2.2.1)
   ·refine hr.inj b b' (by rw[g1];rfl) (by rw[k1];rfl) ?_;rw[←(old b x g1 g0).2.2.1,←(old b' y k1 k0).2.2.1];exact e
 ·intro b hb;obtain⟨x,hx⟩:=bM.1 hb;cases h:N.get b with
  |none=>rfl
  |some y=>
   exfalso;have:=nocommon b x (fM b x hx) (fM0 b hb);rcases hN b y h with h1|⟨h1,h2⟩
   ·rw[this]at h1;cases h1
   ·have:=hr.apart b hb;rw[h1]at this;cases this
 ·intro b hb;obtain⟨x,hx⟩:=bM.1 hb;rcases hN b x hx with h1|⟨h1,h2⟩
  ·rcases hS.own b (by rw[h1];rfl)with⟨b0,hb0,e0⟩|hge
   ·obtain⟨x0,hx0⟩:=bM.1 hb0;exact .inl ⟨b0,by rw[hsub.m b0 x0 hx0];rfl,e0⟩
   ·exact .inr hge
  ·exact .inl ⟨b,by rw[h1];rfl,((old b x (ax h1) h2).2.2.1).symm⟩
 ·intro r hr' hn;refine hS.frame r hr' fun b hb=>?_;obtain⟨x,hx⟩:=bM.1 hb;exact hn b (by rw[hsub.m b x hx];rfl)
structure Wf(F:RO)(M:Mem)(ct:Nat)(args:List V):Prop where
 ge:1000≤ct
 args:gd (· <ct) args
 lt:∀b blk,look F M b=some blk→b<ct
 bd:∀b blk,look F M b=some blk→eY (· <ct) blk
 ap:∀b,(bF F b).isSome→M.get b=none
theorem c03{P:Program}{E:d7}{F:RO}{M:Mem}{c:Nat→Prop}{w:World}{ct:Nat}{args:List V}(hr:kO P E F M c w)(hbig:∀g,g<1000→c g)(hf:fH c ct)(ha:gd c args):Wf F M ct args:=by
 have hlt:∀b,c b→b<ct:=fun b hb=>by
  by_cases h:b<ct
  ·exact h
  ·exact absurd hb (hf b (by omega))
 refine⟨?_,jE hlt args ha,fun b blk hb=>hlt b (hr.has b blk hb).1,fun b blk hb=>gi hlt blk (hr.has b blk hb).2.1,hr.apart⟩
 by_cases h:1000≤ct
 ·exact h
 ·exact absurd (hbig ct (by omega)) (hf ct (aj _))
mutual
theorem nU{p q:Nat→Prop}:∀v,bd p v→bd q v→bd (fun b=>p b∧q b) v
 | .b _,_,_| .i _ _,_,_| .s _ _,_,_| .p0,_,_| .l0,_,_| .m0,_,_| .f0,_,_| .a0,_,_=>trivial
 | .p _ _,h,g=>⟨h,g⟩
 | .l _ _ _ _,h,g=>⟨h,g⟩
 | .u _ _ _ _ _,h,g=>⟨h,g⟩
 | .ue _ _ _,h,g=>⟨h,g⟩
 | .m _,h,g=>⟨h,g⟩
 | .y _,h,g=>⟨h,g⟩
 | .f _ a e,h,g=>⟨oQ a h.1 g.1,oQ e h.2 g.2⟩
 | .a _ v,h,g=>nU v h g
 | .g cs,h,g=>oQ cs h g
 | .t cs,h,g=>oQ cs h g
theorem oQ{p q:Nat→Prop}:∀l,gd p l→gd q l→gd (fun b=>p b∧q b) l
 |[],_,_=>trivial
 |v::l,h,g=>⟨nU v h.1 g.1,oQ l h.2 g.2⟩
end
theorem Hh{p q:Nat→Prop}(blk:bK)(h:eY p blk)(g:eY q blk):eY (fun b=>p b∧q b) blk:=by
 cases blk with
 |cells ty n ex fz str d t=>exact fun k v hk=>nU v (h k v hk) (g k v hk)
 |map es c=>exact fun e he=>⟨nU _ (h e he).1 (g e he).1,nU _ (h e he).2 (g e he).2⟩
 |loop s pe fn tm ps a b d=>exact⟨fun p=>nU _ (h.1 p) (g.1 p),h.2,g.2⟩
 |defs _=>trivial
 |siter _ _ _=>trivial
 |miter m _ _ _=>exact fun b hb=>⟨h b hb,g b hb⟩
theorem aW5{P:Program}(hm:P.follows .mixedOrders=true){Φ:Nat→Option CF}(hΦ:ft P Φ){f:Nat}{g:RO→List V→Mem→Nat→RC}
 (h:∀F args M ct v N ct',g F args M ct= .k v N ct'→Wf F M ct args→ ∃F0 M0 M1 ct1,pU F0 M0 F M∧dt (j5 Φ) F0 f args M0 ct (Φ f)= .k v M1 ct1∧ct≤ct'∧bd (· <ct') v∧
  ∀b blk,N.get b=some blk→(M1.get b=some blk∧b<ct'∧eY (· <ct') blk)∨(M.get b=some blk∧M0.get b=none)):dy P f g:=by
 intro F args M ct v N ct' hg E c w hr hglob hbig hf ha
 obtain⟨F0,M0,M1,ct1,hsub,hc,hle,hbv,hN⟩:=h F args M ct v N ct' hg (c03 hr hbig hf ha)
 obtain⟨fn,h1,h2,h3,hC⟩:=iE (rd:=none) (fn:=0) (F₀:=[]) hΦ (S4 hm hΦ) F0 f args M0 ct v M1 ct1 hc E c w (hsub.rel hr) hglob hbig hf ha
 refine⟨fn,h1,h2,h3,hC.mono ?_⟩
 rintro e w' ⟨E',c',rfl,hS,hb,hG⟩
 have hS':=hS.framed hsub hr (N:=N) fun b blk hb=>(hN b blk hb).imp (fun h=>h.1) id
 have hlt:∀b,c b→b<ct:=fun b hb=>by
  by_cases h:b<ct
  ·exact h
  ·exact absurd hb (hf b (by omega))
 have up:∀b,c b→c' b∧b<ct':=fun b hb=>⟨hS.le b hb,Nat.lt_of_lt_of_le (hlt b hb) hle⟩
 refine⟨E',fun b=>c' b∧b<ct',rfl,⟨hS'.ext,up,⟨?_,hS'.rel.inj,hS'.rel.apart⟩,hS'.own,hS'.frame,hS'.size,hS'.os,hS'.output,hS'.tape⟩,nU v hb hbv,⟨hle,fun b hb=>?_⟩⟩
 ·intro b blk hb;obtain⟨g1,g2,g3⟩:=hS'.rel.has b blk hb
  have old:look F M b=some blk→(c' b∧b<ct')∧eY (fun b=>c' b∧b<ct') blk:=fun ho=>by
   obtain⟨k1,k2,_⟩:=hr.has b blk ho;exact⟨up b k1,gi up blk k2⟩
  have:(c' b∧b<ct')∧eY (fun b=>c' b∧b<ct') blk:=by
   cases hn:N.get b with
   |some x=>
    rw[ax hn]at hb;obtain rfl:=ag hb;rcases hN b _ hn with⟨k1,k2,k3⟩|⟨k1,_⟩
    ·exact⟨⟨g1,k2⟩,Hh _ g2 k3⟩
    ·exact old (ax k1)
   |none=>
    rw[aY hn]at hb;exact old (by rw[aY (hr.apart b (by rw[hb];rfl))];exact hb)
  exact⟨this.1,this.2,g3⟩
 ·rcases hG.new b hb.1 with h|h
  ·exact .inl h
  ·exact .inr ⟨h.1,hb.2⟩
def aG(h:List V→Option V)(_:RO)(args:List V)(M:Mem)(c:Nat):RC:=match h args with
 |some v=> .k v M c
 |none=> .f
theorem eN{P:Program}(hm:P.follows .mixedOrders=true){Φ:Nat→Option CF}(hΦ:ft P Φ){f:Nat}{h:List V→Option V}
 (hh:∀args v ct,h args=some v→1000≤ct→bd (fun _=>False) v∧ ∃M1 ct1,dt (j5 Φ) [] f args .e ct (Φ f)= .k v M1 ct1):dy P f (aG h):=by
 refine aW5 hm hΦ ?_
 intro F args M ct v N ct' hg hW
 unfold aG at hg
 split at hg
 ·rename_i x hx;injection hg with e1 e2 e3
  subst e1 e2 e3;obtain⟨h1,M1,ct1,h2⟩:=hh args x ct hx hW.ge;exact⟨[],.e,M1,ct1,⟨fun b blk hb=>(by cases hb),fun b blk hb=>(by cases hb),fun b hb=>(by cases hb)⟩,h2,aj _,eL (fun b hb=>hb.elim) x h1,fun b blk hb=> .inr ⟨hb,rfl⟩⟩
 ·cases hg
def BG(Φ:Nat→Option CF)(f:Nat)(cf:CF):Nat→Option CF:=fun k=>if k=f then some cf else Φ k
theorem fZ{P:Program}{Φ:Nat→Option CF}(hΦ:ft P Φ){f:Nat}{g:RO→List V→Mem→Nat→RC}(hg:dy P f g):ft P (BG Φ f (.orc g)):=by
 intro k cf hk
 unfold BG at hk
 split at hk
 ·rename_i e;subst e;obtain rfl:=ag hk;exact hg
 ·exact hΦ k cf hk
section
variable{Φ:Nat→Option CF}{rd:Option Nat}{fn:Nat}{F:RO}
abbrev K(Φ:Nat→Option CF)(rd:Option Nat)(fn:Nat)(F:RO):Kn:= .mk Φ (j5 Φ) rd fn F
def Wp(c:CC)(k:Kn)(s:St)(Q:Ex→St→Prop):Prop:=∃e s',bn c k s= .k e s'∧Q e s'
def oI(ops:List CO)(k:Kn)(s:St)(R:St→Prop):Prop:=∃s',dq ops k s=some s'∧R s'
def eg(b:CC)(k:Kn)(Q:Ex→St→Prop):Ex→St→Prop
 | .nrm,s=>Wp b k s Q
 |e,s=>Q e s
def d8(id:Nat)(Q:Ex→St→Prop):Ex→St→Prop
 | .ext id',s=>if id'=id then Q .nrm s else Q (.ext id') s
 |e,s=>Q e s
def Aj(b:CC)(k:Kn)(Q:Ex→St→Prop):Ex→St→Prop
 | .nrm,s=>Wp (.loop b) k s Q
 |e,s=>Q e s
theorem GD(k:Kn)(s:St)(Q:Ex→St→Prop):Wp .skip k s Q=Q .nrm s:=by
 apply propext;constructor
 ·rintro⟨e,s',h,q⟩;cases h;exact q
 ·exact fun q=>⟨_,_,rfl,q⟩
theorem br7(k:Kn)(s:St)(Q:Ex→St→Prop):Wp .ret k s Q=Q .ret s:=by
 apply propext;constructor
 ·rintro⟨e,s',h,q⟩;cases h;exact q
 ·exact fun q=>⟨_,_,rfl,q⟩
theorem Yr(id:Nat)(k:Kn)(s:St)(Q:Ex→St→Prop):Wp (.exit id) k s Q=Q (.ext id) s:=by
 apply propext;constructor
 ·rintro⟨e,s',h,q⟩;cases h;exact q
 ·exact fun q=>⟨_,_,rfl,q⟩
theorem br6(ops:List CO)(k:Kn)(s:St)(Q:Ex→St→Prop):Wp (.reg ops) k s Q=oI ops k s (Q .nrm):=by
 apply propext;constructor
 ·rintro⟨e,s',h,q⟩;have h':pu (dq ops k s)= .k e s':=h;cases hs:dq ops k s with
  |none=>rw[hs]at h';cases h'
  |some s1=>
   rw[hs]at h';have:Rs.k .nrm s1= .k e s':=h';injection this with e1 e2
   subst e1 e2;exact⟨_,hs,q⟩
 ·rintro⟨s',h,q⟩;exact⟨_,_,show pu (dq ops k s)=_ by rw[h];rfl,q⟩
theorem yU(a b:CC)(k:Kn)(s:St)(Q:Ex→St→Prop):Wp (.seq a b) k s Q=Wp a k s (eg b k Q):=by
 apply propext;constructor
 ·rintro⟨e,s',h,q⟩;have h':jS (bn b) k (bn a k s)= .k e s':=h;cases hs:bn a k s with
  |f=>rw[hs]at h';cases h'
  |k e1 s1=>
   rw[hs]at h';refine⟨e1,s1,hs,?_⟩;cases e1 with
   |nrm=>exact⟨e,s',h',q⟩
   |ret=>have h2:Rs.k .ret s1= .k e s':=h';injection h2 with a1 a2;subst a1 a2;exact q
   |ext id=>have h2:Rs.k (.ext id) s1= .k e s':=h';injection h2 with a1 a2;subst a1 a2;exact q
   |gto id=>have h2:Rs.k (.gto id) s1= .k e s':=h';injection h2 with a1 a2;subst a1 a2;exact q
 ·rintro⟨e1,s1,h1,q⟩;cases e1 with
  |nrm=>
   obtain⟨e,s',h2,q⟩:=q;exact⟨e,s',show jS (bn b) k (bn a k s)=_ by rw[h1];exact h2,q⟩
  |ret=>exact⟨_,_,show jS (bn b) k (bn a k s)=_ by rw[h1];rfl,q⟩
  |ext id=>exact⟨_,_,show jS (bn b) k (bn a k s)=_ by rw[h1];rfl,q⟩
  |gto id=>exact⟨_,_,show jS (bn b) k (bn a k s)=_ by rw[h1];rfl,q⟩
theorem AH(b:CC)(k:Kn)(Q:Ex→St→Prop)(s:St):eg b k Q .nrm s=Wp b k s Q:=rfl
theorem TC(b:CC)(k:Kn)(Q:Ex→St→Prop)(s:St):eg b k Q .ret s=Q .ret s:=rfl
theorem TB(b:CC)(k:Kn)(Q:Ex→St→Prop)(s:St)(id:Nat):eg b k Q (.ext id) s=Q (.ext id) s:=rfl
theorem Vl(id:Nat)(b:CC)(k:Kn)(s:St)(Q:Ex→St→Prop):Wp (.block id b) k s Q=Wp b k s (d8 id Q):=by
 apply propext;constructor
 ·rintro⟨e,s',h,q⟩;have h':eO id (bn b k s)= .k e s':=h;cases hs:bn b k s with
  |f=>rw[hs]at h';cases h'
  |k e1 s1=>
   rw[hs]at h';refine⟨e1,s1,hs,?_⟩;cases e1 with
   |nrm=>have h2:Rs.k .nrm s1= .k e s':=h';injection h2 with a1 a2;subst a1 a2;exact q
   |ret=>have h2:Rs.k .ret s1= .k e s':=h';injection h2 with a1 a2;subst a1 a2;exact q
   |gto l=>have h2:Rs.k (.gto l) s1= .k e s':=h';injection h2 with a1 a2;subst a1 a2;exact q
   |ext i=>
    have h2:Bool.rec (motive:=fun _=>Rs) (.k (.ext i) s1) (.k .nrm s1) (Nat.beq i id)= .k e s':=h';rw[bb,bU]at h2;show(if i=id then Q .nrm s1 else Q (.ext i) s1);by_cases hi:i=id
    ·rw[ac (by simpa using hi)]at h2;injection h2 with a1 a2;subst a1 a2
     rw[ac hi];exact q
    ·rw[ab (by simpa using hi)]at h2;injection h2 with a1 a2;subst a1 a2
     rw[ab hi];exact q
 ·rintro⟨e1,s1,h1,q⟩;cases e1 with
  |nrm=>exact⟨_,_,show eO id (bn b k s)=_ by rw[h1];rfl,q⟩
  |ret=>exact⟨_,_,show eO id (bn b k s)=_ by rw[h1];rfl,q⟩
  |gto l=>exact⟨_,_,show eO id (bn b k s)=_ by rw[h1];rfl,q⟩
  |ext i=>
   have h2:eO id (bn b k s)=Bool.rec (motive:=fun _=>Rs) (.k (.ext i) s1) (.k .nrm s1) (Nat.beq i id):=by rw[h1];rfl
   rw[bb,bU]at h2;replace q:(if i=id then Q .nrm s1 else Q (.ext i) s1):=q;by_cases hi:i=id
   ·rw[ac (by simpa using hi)]at h2;rw[ac hi]at q;exact⟨_,_,h2,q⟩
   ·rw[ab (by simpa using hi)]at h2;rw[ab hi]at q;exact⟨_,_,h2,q⟩
theorem CY(id:Nat)(Q:Ex→St→Prop)(s:St):d8 id Q .nrm s=Q .nrm s:=rfl
theorem CZ(id:Nat)(Q:Ex→St→Prop)(s:St):d8 id Q .ret s=Q .ret s:=rfl
theorem CW(id i:Nat)(Q:Ex→St→Prop)(s:St):d8 id Q (.ext i) s=if i=id then Q .nrm s else Q (.ext i) s:=rfl
theorem iC(b:CC)(s:St)(Q:Ex→St→Prop):Wp (.loop b) (K Φ rd fn F) s Q=Wp b (K Φ rd fn F) s (Aj b (K Φ rd fn F) Q):=by
 apply propext;constructor
 ·rintro⟨e,s',h,q⟩;have h':fX b (K Φ rd fn F) (bn b (K Φ rd fn F) s)= .k e s':=h;cases hs:bn b (K Φ rd fn F) s with
  |f=>rw[hs]at h';cases h'
  |k e1 s1=>
   rw[hs]at h';refine⟨e1,s1,hs,?_⟩;cases e1 with
   |nrm=>
    have h2:j5 Φ rd fn F (.loop b) s1= .k e s':=h';rw[yd]at h2;exact⟨e,s',h2,q⟩
   |ret=>have h2:Rs.k .ret s1= .k e s':=h';injection h2 with a1 a2;subst a1 a2;exact q
   |ext id=>have h2:Rs.k (.ext id) s1= .k e s':=h';injection h2 with a1 a2;subst a1 a2;exact q
   |gto id=>have h2:Rs.k (.gto id) s1= .k e s':=h';injection h2 with a1 a2;subst a1 a2;exact q
 ·rintro⟨e1,s1,h1,q⟩;cases e1 with
  |nrm=>
   obtain⟨e,s',h2,q⟩:=q;refine⟨e,s',show fX b (K Φ rd fn F) (bn b (K Φ rd fn F) s)=_ from ?_,q⟩;rw[h1];show j5 Φ rd fn F (.loop b) s1=_;rw[yd];exact h2
  |ret=>exact⟨_,_,show fX b (K Φ rd fn F) (bn b (K Φ rd fn F) s)=_ by rw[h1];rfl,q⟩
  |ext id=>exact⟨_,_,show fX b (K Φ rd fn F) (bn b (K Φ rd fn F) s)=_ by rw[h1];rfl,q⟩
  |gto id=>exact⟨_,_,show fX b (K Φ rd fn F) (bn b (K Φ rd fn F) s)=_ by rw[h1];rfl,q⟩
theorem I0(b:CC)(k:Kn)(Q:Ex→St→Prop)(s:St):Aj b k Q .nrm s=Wp (.loop b) k s Q:=rfl
theorem I3(b:CC)(k:Kn)(Q:Ex→St→Prop)(s:St):Aj b k Q .ret s=Q .ret s:=rfl
theorem HZ(b:CC)(k:Kn)(Q:Ex→St→Prop)(s:St)(id:Nat):Aj b k Q (.ext id) s=Q (.ext id) s:=rfl
theorem Wp.mono{c:CC}{k:Kn}{s:St}{Q Q':Ex→St→Prop}(h:Wp c k s Q)(hq:∀e s',Q e s'→Q' e s'):Wp c k s Q':=by
 obtain⟨e,s',h1,q⟩:=h
 exact⟨e,s',h1,hq e s' q⟩
theorem IU{b:CC}{Q:Ex→St→Prop}(I:Nat→St→Prop)(h:∀n s,I n s→Wp b (K Φ rd fn F) s fun e s'=>match e with| .nrm=>∃m,m<n∧I m s'|e=>Q e s'):∀n s,I n s→Wp (.loop b) (K Φ rd fn F) s Q:=by
 intro n
 induction n using Nat.strongRecOn with
 |_ n ih=>
  intro s hs;rw[iC];refine(h n s hs).mono fun e s' he=>?_;cases e with
  |nrm=>obtain⟨m,hm,hI⟩:=he;exact ih m hm s' hI
  |_=>exact he
theorem Bd{x:X}{a b:CC}{k:Kn}{t:T}{d:List Nat}{M:Mem}{c:Nat}{Q:Ex→St→Prop}(hx:x.ev t= .b true):Wp (.cond x a b) k (.mk t d M c) Q=Wp a k (.mk t d M c) Q:=by
 have he:bn (.cond x a b) k (.mk t d M c)=bn a k (.mk t d M c):=by
  show iM x a b (bn a) (bn b) k (.mk t d M c)=_;unfold iM;show FB (x.ev t) _ _=_;rw[hx];rfl
 unfold Wp;rw[he]
theorem Bc{x:X}{a b:CC}{k:Kn}{t:T}{d:List Nat}{M:Mem}{c:Nat}{Q:Ex→St→Prop}(hx:x.ev t= .b false):Wp (.cond x a b) k (.mk t d M c) Q=Wp b k (.mk t d M c) Q:=by
 have he:bn (.cond x a b) k (.mk t d M c)=bn b k (.mk t d M c):=by
  show iM x a b (bn a) (bn b) k (.mk t d M c)=_;unfold iM;show FB (x.ev t) _ _=_;rw[hx];rfl
 unfold Wp;rw[he]
theorem br5(k:Kn)(s:St)(R:St→Prop):oI [] k s R=R s:=by
 apply propext;constructor
 ·rintro⟨s',h,q⟩;cases h;exact q
 ·exact fun q=>⟨_,rfl,q⟩
theorem gb(o:CO)(r:List CO)(k:Kn)(s:St)(R:St→Prop):oI (o::r) k s R↔ ∃s',dX o k s=some s'∧oI r k s' R:=by
 constructor
 ·rintro⟨s',h,q⟩;have h':kH (dq r) k (dX o k s)=some s':=h;cases hs:dX o k s with
  |none=>rw[hs]at h';cases h'
  |some s1=>rw[hs]at h';exact⟨s1,rfl,s',h',q⟩
 ·rintro⟨s1,h1,s',h2,q⟩;exact⟨s',show kH (dq r) k (dX o k s)=some s' by rw[h1];exact h2,q⟩
def QR.to{β:Type}(r:QR)(f:β)(g:V→β):β:=match r with
 | .f=>f
 | .v x=>g x
 | .r x _=>g x
theorem cu0{p:aQ}{o:QO}{r:List CO}{k:Kn}{t:T}{d:List Nat}{M:Mem}{c:Nat}{R:St→Prop}{x:V}(h:(cX o k.F M t).val=some x):
 oI (.mk (some p) (.q o) none::r) k (.mk t d M c) R=oI r k (.mk (t.setP p x) d M c) R:=by
 have hs:dX (.mk (some p) (.q o) none) k (.mk t d M c)=some (.mk (t.setP p x) d M c):=by
  show Y6 (some p) t d M c (cX o k.F M t)=_;cases hq:cX o k.F M t with
  |f=>rw[hq]at h;cases h
  |v y=>rw[hq]at h;obtain rfl:=ag h;exact fW _ _ _ _ _ _
  |r y b=>rw[hq]at h;obtain rfl:=ag h;exact fW _ _ _ _ _ _
 apply propext
 rw[gb,hs]
 constructor
 ·rintro⟨s',h,q⟩;obtain rfl:=ag h;exact q
 ·exact fun q=>⟨_,rfl,q⟩
theorem ct9{p:aQ}{o:AO}{r:List CO}{k:Kn}{t:T}{d:List Nat}{M:Mem}{c:Nat}{R:St→Prop}{v:V}{blk:bK}(h:jD o c t=some (v,blk)):
 oI (.mk (some p) (.a o) none::r) k (.mk t d M c) R=oI r k (.mk (t.setP p v) d (M.set c blk) (c+1)) R:=by
 have hs:dX (.mk (some p) (.a o) none) k (.mk t d M c)=some (.mk (t.setP p v) d (M.set c blk) (c+1)):=by
  show Y5 (some p) t d M c (jD o c t)=_;rw[h];show Tx (some p) t d M c v blk=_;unfold Tx;rw[Tr.force_eq,bG,fW];rfl
 apply propext
 rw[gb,hs]
 constructor
 ·rintro⟨s',h,q⟩;obtain rfl:=ag h;exact q
 ·exact fun q=>⟨_,rfl,q⟩
theorem c04{dst:Option aQ}{o:EO}{r:List CO}{k:Kn}{t:T}{d:List Nat}{M M':Mem}{c c':Nat}{R:St→Prop}{v:V}(h:fc o k M c t= .k v M' c'):
 oI (.mk dst (.e o) none::r) k (.mk t d M c) R=oI r k (.mk (setT t dst v) d M' c') R:=by
 have hs:dX (.mk dst (.e o) none) k (.mk t d M c)=some (.mk (setT t dst v) d M' c'):=by
  show vt dst t d (fc o k M c t)=_;rw[h];exact fW _ _ _ _ _ _
 apply propext
 rw[gb,hs]
 constructor
 ·rintro⟨s',h,q⟩;obtain rfl:=ag h;exact q
 ·exact fun q=>⟨_,rfl,q⟩
theorem c06{dst:Option aQ}{o:OK}{g:aQ}{want:Bool}{r:List CO}{k:Kn}{t:T}{d:List Nat}{M:Mem}{c:Nat}{R:St→Prop}(hg:cJ t g= .b want):
 oI (.mk dst o (some (g,want))::r) k (.mk t d M c) R=oI (.mk dst o none::r) k (.mk t d M c) R:=by
 have hw:wanted t (some (g,want))=true:=by
  show gH want (cJ t g)=_;rw[hg];cases want<;>rfl
 have hs:dX (.mk dst o (some (g,want))) k (.mk t d M c)=dX (.mk dst o none) k (.mk t d M c):=by
  show s_w o k dst t d M c (wanted t (some (g,want)))=_;rw[hw];rfl
 apply propext
 rw[gb,gb,hs]
theorem c05{dst:Option aQ}{o:OK}{g:aQ}{want:Bool}{r:List CO}{k:Kn}{t:T}{d:List Nat}{M:Mem}{c:Nat}{R:St→Prop}(hg:cJ t g= .b (!want)):
 oI (.mk dst o (some (g,want))::r) k (.mk t d M c) R=oI r k (.mk (setT t dst undef) d M c) R:=by
 have hw:wanted t (some (g,want))=false:=by
  show gH want (cJ t g)=_;rw[hg];cases want<;>rfl
 have hs:dX (.mk dst o (some (g,want))) k (.mk t d M c)=some (.mk (setT t dst undef) d M c):=by
  show s_w o k dst t d M c (wanted t (some (g,want)))=_;rw[hw];exact fW _ _ _ _ _ _
 apply propext
 rw[gb,hs]
 constructor
 ·rintro⟨s',h,q⟩;obtain rfl:=ag h;exact q
 ·exact fun q=>⟨_,rfl,q⟩
theorem c07{dst:Option aQ}{o:OK}{g:aQ}{want:Bool}{r:List CO}{k:Kn}{t:T}{d:List Nat}{M:Mem}{c:Nat}{R:St→Prop}(hg:cJ t g=undef):
 oI (.mk dst o (some (g,want))::r) k (.mk t d M c) R=oI r k (.mk (setT t dst undef) d M c) R:=by
 have hw:wanted t (some (g,want))=false:=by
  show gH want (cJ t g)=_;rw[hg];rfl
 have hs:dX (.mk dst o (some (g,want))) k (.mk t d M c)=some (.mk (setT t dst undef) d M c):=by
  show s_w o k dst t d M c (wanted t (some (g,want)))=_;rw[hw];exact fW _ _ _ _ _ _
 apply propext
 rw[gb,hs]
 constructor
 ·rintro⟨s',h,q⟩;obtain rfl:=ag h;exact q
 ·exact fun q=>⟨_,rfl,q⟩
def Q(n:Nat):aQ:=bB n
def Jj(o:Option (List V))(M:Mem)(c:Nat)(Post:V→Mem→Nat→Prop):Prop:=match o with
 |none=>False
 |some vs=>Post (se vs) M c
def aN5(o:Option Mem)(F:RO)(t:T)(res:List RV)(c:Nat)(Post:V→Mem→Nat→Prop):Prop:=match o with
 |none=>False
 |some M=>Jj (ea F M t res) M c Post
def j6(F:RO)(res:List RV)(Post:V→Mem→Nat→Prop):Ex→St→Prop
 | .nrm,.mk t d M c=>aN5 (dP d M) F t res c Post
 | .ret,.mk t d M c=>aN5 (dP d M) F t res c Post
 |_,_=>False
theorem Se(F:RO)(res:List RV)(Post:V→Mem→Nat→Prop)(t:T)(M:Mem)(c:Nat):j6 F res Post .nrm (.mk t [] M c)=Jj (ea F M t res) M c Post:=rfl
theorem Sf(F:RO)(res:List RV)(Post:V→Mem→Nat→Prop)(t:T)(M:Mem)(c:Nat):j6 F res Post .ret (.mk t [] M c)=Jj (ea F M t res) M c Post:=rfl
theorem cg7(vs:List V)(M:Mem)(c:Nat)(Post:V→Mem→Nat→Prop):Jj (some vs) M c Post=Post (se vs) M c:=rfl
def wc(v:V):Option (List V)→Option (List V)
 |some l=>some (v::l)
 |none=>none
theorem D8(v:V)(l:List V):wc v (some l)=some (v::l):=rfl
theorem Is(F:RO)(M:Mem)(t:T):ea F M t []=some []:=rfl
theorem aY9(F:RO)(M:Mem)(t:T)(p:aQ)(r:List RV):ea F M t (.t p::r)=wc (cJ t p) (ea F M t r):=by
 show si (cJ t p) (ea F M t r)=_
 cases ea F M t r<;>rfl
theorem SZ(v:V):se [v]=v:=rfl
theorem T0(v w:V)(l:List V):se (v::w::l)= .t (v::w::l):=rfl
theorem w9{f n:Nat}{res:List RV}{body:CC}{args:List V}{M:Mem}{c:Nat}{Post:V→Mem→Nat→Prop}(hf:Φ f=some (.mk n res body))
 (h:Wp body (K Φ none f F) (.mk (bz n args) [] M c) (j6 F res Post)):∃v M' c',dt (j5 Φ) F f args M c (Φ f)= .k v M' c'∧Post v M' c':=by
 obtain⟨e,s,h1,hq⟩:=h
 obtain⟨t,d,M1,c1⟩:=s
 have hend:Fs e=true∧aN5 (dP d M1) F t res c1 Post:=by
  cases e with
  |nrm=>exact⟨rfl,hq⟩
  |ret=>exact⟨rfl,hq⟩
  |ext id=>exact hq.elim
  |gto l=>exact hq.elim
 have hcall:dt (j5 Φ) F f args M c (some (.mk n res body))=Bool.rec (motive:=fun _=>RC) .f (yk res F t c1 (dP d M1)) (Fs e):=by
  show lS res F (j5 Φ none f F body (.mk (bz n args) [] M c))=_;rw[yd,h1];rfl
 rw[hf,hcall,hend.1]
 have h2:=hend.2
 cases hd:dP d M1 with
 |none=>rw[hd]at h2;exact h2.elim
 |some M2=>
  rw[hd]at h2;have h3:Jj (ea F M2 t res) M2 c1 Post:=h2;cases hr:ea F M2 t res with
  |none=>rw[hr]at h3;exact h3.elim
  |some vs=>
   rw[hr]at h3;exact⟨se vs,M2,c1,show yl c1 M2 (ea F M2 t res)=_ by rw[hr];rfl,h3⟩
end
section
variable{Φ:Nat→Option CF}{rd:Option Nat}{fn:Nat}{F:RO}
def bu9(o:Option V)(p:aQ)(r:List CO)(k:Kn)(t:T)(d:List Nat)(M:Mem)(c:Nat)(R:St→Prop):Prop:=match o with
 |none=>False
 |some x=>oI r k (.mk (t.setP p x) d M c) R
def bu7(o:Option (V×bK))(p:aQ)(r:List CO)(k:Kn)(t:T)(d:List Nat)(M:Mem)(c:Nat)(R:St→Prop):Prop:=match o with
 |none=>False
 |some x=>oI r k (.mk (t.setP p x.1) d (M.set c x.2) (c+1)) R
def aN8(o:RC)(p:aQ)(r:List CO)(k:Kn)(t:T)(d:List Nat)(R:St→Prop):Prop:=match o with
 | .f=>False
 | .k v M c=>oI r k (.mk (t.setP p v) d M c) R
def YO(o:RC)(r:List CO)(k:Kn)(t:T)(d:List Nat)(R:St→Prop):Prop:=match o with
 | .f=>False
 | .k v M c=>oI r k (.mk t d M c) R
theorem cq2(x:V)(p:aQ)(r:List CO)(k:Kn)(t:T)(d:List Nat)(M:Mem)(c:Nat)(R:St→Prop):bu9 (some x) p r k t d M c R=oI r k (.mk (t.setP p x) d M c) R:=rfl
theorem cq0(v:V)(b:bK)(p:aQ)(r:List CO)(k:Kn)(t:T)(d:List Nat)(M:Mem)(c:Nat)(R:St→Prop):bu7 (some (v,b)) p r k t d M c R=oI r k (.mk (t.setP p v) d (M.set c b) (c+1)) R:=rfl
theorem cq1(v:V)(M:Mem)(c:Nat)(p:aQ)(r:List CO)(k:Kn)(t:T)(d:List Nat)(R:St→Prop):aN8 (.k v M c) p r k t d R=oI r k (.mk (t.setP p v) d M c) R:=rfl
theorem bM5(v:V)(M:Mem)(c:Nat)(r:List CO)(k:Kn)(t:T)(d:List Nat)(R:St→Prop):YO (.k v M c) r k t d R=oI r k (.mk t d M c) R:=rfl
theorem cu4(p:aQ)(o:QO)(r:List CO)(t:T)(d:List Nat)(M:Mem)(c:Nat)(R:St→Prop):
 oI (.mk (some p) (.q o) none::r) (K Φ rd fn F) (.mk t d M c) R=bu9 (cX o F M t).val p r (K Φ rd fn F) t d M c R:=by
 cases h:(cX o F M t).val with
 |some x=>rw[cu0 (k:=K Φ rd fn F) h];rfl
 |none=>
  apply propext;rw[gb];constructor
  ·rintro⟨s',h1,_⟩;have h1':Y6 (some p) t d M c (cX o F M t)=some s':=h1;cases hq:cX o F M t with
   |f=>rw[hq]at h1';cases h1'
   |v y=>rw[hq]at h;cases h
   |r y b=>rw[hq]at h;cases h
  ·exact False.elim
theorem cu2(p:aQ)(o:AO)(r:List CO)(t:T)(d:List Nat)(M:Mem)(c:Nat)(R:St→Prop):
 oI (.mk (some p) (.a o) none::r) (K Φ rd fn F) (.mk t d M c) R=bu7 (jD o c t) p r (K Φ rd fn F) t d M c R:=by
 cases h:jD o c t with
 |some x=>rw[ct9 (k:=K Φ rd fn F) (v:=x.1) (blk:=x.2) h];rfl
 |none=>
  apply propext;rw[gb];constructor
  ·rintro⟨s',h1,_⟩;have h1':Y5 (some p) t d M c (jD o c t)=some s':=h1;rw[h]at h1';cases h1'
  ·exact False.elim
theorem cu3(p:aQ)(o:EO)(r:List CO)(t:T)(d:List Nat)(M:Mem)(c:Nat)(R:St→Prop):
 oI (.mk (some p) (.e o) none::r) (K Φ rd fn F) (.mk t d M c) R=aN8 (fc o (K Φ rd fn F) M c t) p r (K Φ rd fn F) t d R:=by
 cases h:fc o (K Φ rd fn F) M c t with
 |k v M' c'=>rw[c04 h];rfl
 |f=>
  apply propext;rw[gb];constructor
  ·rintro⟨s',h1,_⟩;have h1':vt (some p) t d (fc o (K Φ rd fn F) M c t)=some s':=h1;rw[h]at h1';cases h1'
  ·exact False.elim
theorem c38(o:EO)(r:List CO)(t:T)(d:List Nat)(M:Mem)(c:Nat)(R:St→Prop):
 oI (.mk none (.e o) none::r) (K Φ rd fn F) (.mk t d M c) R=YO (fc o (K Φ rd fn F) M c t) r (K Φ rd fn F) t d R:=by
 cases h:fc o (K Φ rd fn F) M c t with
 |k v M' c'=>rw[c04 h];rfl
 |f=>
  apply propext;rw[gb];constructor
  ·rintro⟨s',h1,_⟩;have h1':vt none t d (fc o (K Φ rd fn F) M c t)=some s':=h1;rw[h]at h1';cases h1'
  ·exact False.elim
theorem Yy(f:Nat)(as:List X)(M:Mem)(c:Nat)(t:T):fc (.call f as) (K Φ rd fn F) M c t=dt (j5 Φ) F f (evs as t) M c (Φ f):=rfl
theorem Hp(F:RO)(f:Nat)(args:List V)(M:Mem)(c:Nat)(g:RO→List V→Mem→Nat→RC):dt (j5 Φ) F f args M c (some (.orc g))=g F args M c:=rfl
theorem aT8(l r:T)(v:V):cJ (Tr.n l (some v) r) .h=v:=Eq.trans (rfl:_=v) (Eq.refl v)
theorem aU0(l r:T):cJ (Tr.n l none r) .h=undef:=Eq.trans (rfl:_=undef) (Eq.refl undef)
theorem aT9(l r:T)(v:Option V)(p:aQ):cJ (Tr.n l v r) (.l p)=cJ l p:=Eq.trans (rfl:_=cJ l p) (Eq.refl _)
theorem aU1(l r:T)(v:Option V)(p:aQ):cJ (Tr.n l v r) (.r p)=cJ r p:=Eq.trans (rfl:_=cJ r p) (Eq.refl _)
theorem ev_t(p:aQ)(t:T):(X.t p).ev t=cJ t p:=rfl
theorem ev_c(v:V)(t:T):(X.c v).ev t=v:=rfl
theorem Xa(t:T):evs [] t=[]:=rfl
theorem Sm(x:X)(l:List X)(t:T):evs (x::l) t=x.ev t::evs l t:=rfl
theorem cs0(x:X)(M:Mem)(t:T):(cX (.mv x) F M t).val=some (x.ev t):=rfl
def pkV:V→V→V→Option V
 | .b x,a,b=>some (bif x then a else b)
 |_,_,_=>none
theorem bS0(c a b:X)(M:Mem)(t:T):(cX (.pk c a b) F M t).val=pkV (c.ev t) (a.ev t) (b.ev t):=by
 show(Im c a b F M t).val=_
 unfold Im pkV
 cases c.ev t with
 |b x=>cases x<;>rfl
 |_=>rfl
theorem bM2(a b:V):pkV (.b true) a b=some a:=rfl
theorem bM1(a b:V):pkV (.b false) a b=some b:=rfl
def cB(op:BinOp):V→V→Option V
 | .i k a,.i k' b=>(fC op k a k' b).val
 | .s n a,.s m b=>(RB op n a m b).val
 |_,_=>none
theorem b06(op:BinOp)(x y:X)(M:Mem)(t:T):(cX (.bi op x y) F M t).val=cB op (x.ev t) (y.ev t):=by
 show(At op x y F M t).val=_
 unfold At cB
 cases x.ev t with
 |i k a=>
  show(u3 (y.ev t) QR.f fun k' b=>fC op k a k' b).val=_;cases y.ev t<;>rfl
 |s n a=>
  show(wC (y.ev t) QR.f fun m b=>RB op n a m b).val=_;cases y.ev t<;>rfl
 |_=>cases y.ev t<;>rfl
theorem aP3(k:IntKind)(a b:Int):cB .add (.i k a) (.i k b)=some (.i k (k.wrap (a+b))):=by
 cases k<;>simp[cB,fC,eu,pX,aE6,ib,tW,g9,jZ,F5,QR.val]
theorem xY(k:IntKind)(a b:Int):cB .sub (.i k a) (.i k b)=some (.i k (k.wrap (a-b))):=by
 show _=some (V.i k (k.wrap (Int.sub a b)))
 cases k<;>simp[cB,fC,eu,pX,aF4,ib,tW,g9,jZ,QR.val]
theorem aP8(k:IntKind)(a b:Int):cB .lss (.i k a) (.i k b)=some (.b (decide (a<b))):=by
 cases k<;>simp[cB,fC,eu,pX,aF1,ib,tW,la,gD,QR.val]
theorem aP6(k:IntKind)(a b:Int):cB .gtr (.i k a) (.i k b)=some (.b (decide (b<a))):=by
 cases k<;>simp[cB,fC,eu,pX,aE9,ib,tW,la,gD,QR.val]
theorem dle(a b:Int):decide (a≤b)= !decide (b<a):=by
 by_cases h:b<a
 ·rw[ah h,af (by omega)];rfl
 ·rw[af h,ah (by omega)];rfl
theorem aP7(k:IntKind)(a b:Int):cB .leq (.i k a) (.i k b)=some (.b (decide (a≤b))):=by
 cases k<;>simp[cB,fC,eu,pX,aF0,ib,tW,la,gD,gE,QR.val,dle,-decide_not,-Int.not_lt]
theorem aP5(k:IntKind)(a b:Int):cB .geq (.i k a) (.i k b)=some (.b (decide (b≤a))):=by
 cases k<;>simp[cB,fC,eu,pX,aE8,ib,tW,la,gD,gE,QR.val,dle,-decide_not,-Int.not_lt]
theorem aP4(k:IntKind)(a b:Int):cB .eql (.i k a) (.i k b)=some (.b (decide (a=b))):=by
 cases k<;>simp[cB,fC,eu,pX,aE7,ib,tW,la,dx,QR.val]
theorem aQ0(k:IntKind)(a b:Int):cB .neq (.i k a) (.i k b)=some (.b (decide (a≠b))):=by
 cases k<;>simp[cB,fC,eu,pX,aF3,ib,tW,la,dx,gE,QR.val]
def unV(op:UnOp)(x:V):Option V:=(cX (.un op (.c x)) [] .e .e).val
theorem bS1(op:UnOp)(x:X)(M:Mem)(t:T):(cX (.un op x) F M t).val=unV op (x.ev t):=by
 cases op<;>rfl
theorem b04(x:Bool):unV .not (.b x)=some (.b (!x)):=by cases x<;>rfl
def lnV(sh:Sh)(F:RO)(M:Mem)(x:V):Option V:=(cX (.ln sh (.c x)) F M .e).val
theorem b07(sh:Sh)(x:X)(M:Mem)(t:T):(cX (.ln sh x) F M t).val=lnV sh F M (x.ev t):=by
 cases sh<;>rfl
theorem lnS(n x:Nat)(M:Mem):lnV .str F M (.s n x)=some (.i .i64 (n:Int)):=rfl
def nn(x i:V):Option V:=(cX (.ixS (.c x) (.c i)) [] .e .e).val
theorem aJ1(x i:X)(M:Mem)(t:T):(cX (.ixS x i) F M t).val=nn (x.ev t) (i.ev t):=rfl
end
def uw(k:IntKind):List Int→List V
 |[]=>[]
 |z::r=> .i k z::uw k r
def qN(ty:Nat)(k:IntKind)(zs:List Int):bK:= .cells ty zs.length false zs.length true [] (bP (uw k zs) 0 .e)
abbrev F3:=Nat×IntKind×List Int
def AU:List F3→(Nat→Nat)→RO
 |[],_=>[]
 |(g,k,zs)::r,ty=>(g,qN (ty g) k zs)::AU r ty
def vM(W:World)(t:F3):Prop:=∃ty fr,W.heap[t.1]?=some (.cells (t.2.2.map fun z=>Value.int t.2.1 z).toArray ty fr)
theorem n9(k:IntKind)(zs:List Int):uw k zs=zs.map (V.i k):=by
 induction zs with
 |nil=>rfl
 |cons z r ih=>rw[uw,ih];rfl
theorem b01{c:Nat→Prop}{ty:Nat}{k:IntKind}{zs:List Int}:eY c (qN ty k zs):=by
 intro j v hv
 rw[cH]at hv
 split at hv
 ·rename_i hj;rw[cY]at hv;have hlen:(uw k zs).length=zs.length:=by rw[n9];simp
  rw[ac (by omega)]at hv;rw[n9]at hv;simp only[Nat.sub_zero,List.getElem?_map]at hv;rw[List.getElem?_eq_getElem hj]at hv;simp only[Option.map_some]at hv;obtain rfl:=ag hv;trivial
 ·cases hv
theorem AV{L:List F3}{ty:Nat→Nat}{b:Nat}{blk:bK}(h:bF (AU L ty) b=some blk):∃t∈L,t.1=b∧blk=qN (ty b) t.2.1 t.2.2:=by
 induction L with
 |nil=>cases h
 |cons t r ih=>
  obtain⟨g,k,zs⟩:=t;have h':Bool.rec (motive:=fun _=>Option bK) (bF (AU r ty) b) (some (qN (ty g) k zs)) (Nat.beq g b)=some blk:=h;rw[bb,bU]at h';by_cases e:g=b
  ·rw[ac (by simpa using e)]at h';subst e;exact⟨_,bX ..,rfl,(ag h').symm⟩
  ·rw[ab (by simpa using e)]at h';obtain⟨t,ht,h1,h2⟩:=ih h';exact⟨t,bJ _ ht,h1,h2⟩
theorem nO{P:Program}{W:World}{name:String}{k:IntKind}{zs:List Int}{g:Nat}{t e:TypeId}{n:Nat}
 (hg:P.globalNamed name=some g) (hty:(P.globals[g]?).map (·.type)=some t) (ht:P.underlying t=some (.array n e)) (he:P.underlying e=some (.int k)) (hce:P.cellsOf e=1) (hct:P.cellsOf t=n):
 ∀{laid:List (String×DataW Unit)} {ps:List MemPlace},(name,Lib.tabData k zs)∈laid→DataW.LaidVars P W laid ps→vM W (g,k,zs)
 |x::r,ps,hm,h=>by
  obtain⟨g',t',cs,fuel,p,q,hg',ht',hvar,hd,hr,_⟩:=h;rcases bq.1 hm with e1|hm'
  ·subst e1;obtain rfl:=ag (hg.symm.trans hg');obtain rfl:=ag (hty.symm.trans ht');have hcs:=Lib.cells_of_tab ht he hce hct hd;unfold World.var? at hvar;rw[hg]at hvar;simp only[Option.bind_some]at hvar;split at hvar
   ·rename_i cs' ty fr hh;obtain rfl:=ag hvar;refine⟨ty,fr,?_⟩;show W.heap[g]?=_;rw[hh,←hcs]
   ·cases hvar
  ·exact nO hg hty ht he hce hct hm' hr
theorem uv{P:Program}{W:World}{name:String}{k:IntKind}{zs:List Int}{g:Nat}{t e:TypeId}{n:Nat}
 (hg:P.globalNamed name=some g) (hty:(P.globals[g]?).map (·.type)=some t) (ht:P.underlying t=some (.array n e)) (he:P.underlying e=some (.int k)) (hce:P.cellsOf e=1) (hct:P.cellsOf t=n)
 {laid:List (String×DataW Unit)} (hm:(name,Lib.tabData k zs)∈laid) (h:laidMet P laid W):vM W (g,k,zs):=by
 obtain⟨ps,hv,_⟩:=h
 exact nO hg hty ht he hce hct hm hv
def Ej(k:IntKind)(z:Int):V→Bool
 | .i k' z'=>ib k k'&&Hz z z'
 |_=>false
def iY(n:Nat)(d:List V)(c:T)(k:IntKind):List Int→Nat→Bool
 |[],i=>Nat.beq i n
 |z::r,i=>match cell n d c i with
  |some v=>Ej k z v&&iY n d c k r (Nat.succ i)
  |none=>false
def rF(F:RO)(t:F3):Bool:=match bF F t.1 with
 |some (.cells _ n false fz true d c)=>Nat.beq fz n&&iY n d c t.2.1 t.2.2 0
 |_=>false
def fY(F:RO):List F3→Bool
 |[]=>true
 |t::r=>Nat.blt t.1 1000&&(rF F t&&fY F r)
theorem pK{n:Nat}{d:List V}{c:T}{k:IntKind}:∀{zs:List Int} {i:Nat},iY n d c k zs i=true→i+zs.length=n∧ ∀j z,zs[j]?=some z→cell n d c (i+j)=some (.i k z)
 |[],i,h=>by
  have:decide (i=n)=true:=by rw[←bU];exact h
  exact⟨by simpa using this,fun j z hz=>by simp at hz⟩
 |z::r,i,h=>by
  unfold iY at h;split at h
  ·rename_i v hv;rw[aV]at h;obtain⟨h1,h2⟩:=h;obtain⟨h3,h4⟩:=pK h2;have hve:v= .i k z:=by
    unfold Ej at h1;split at h1
    ·rename_i k' z';rw[aV,eQ,dx]at h1;have a1:=bW h1.1;have a2:=bW h1.2;rw[a1,a2]
    ·cases h1
   refine⟨by simp only[aA];omega,fun j z' hz=>?_⟩;cases j with
   |zero=>simp at hz;subst hz;rw[←hve];exact hv
   |succ j=>
    rw[show i+(j+1)=Nat.succ i+j by omega];exact h4 j z' (by simpa using hz)
  ·cases h
theorem U9{ty:Nat}{k:IntKind}{zs:List Int}{j:Nat}{v:V}(h:cell zs.length [] (bP (uw k zs) 0 .e) j=some v):∃z,zs[j]?=some z∧v= .i k z:=by
 rw[cH]at h
 split at h
 ·rename_i hj;rw[cY]at h;have hlen:(uw k zs).length=zs.length:=by rw[n9];simp
  rw[ac (by omega)]at h;rw[n9]at h;simp only[Nat.sub_zero,List.getElem?_map]at h;rw[List.getElem?_eq_getElem hj]at h;simp only[Option.map_some]at h;exact⟨zs[j],List.getElem?_eq_getElem hj,(ag h).symm⟩
 ·cases h
theorem U8{P:Program}{E:d7}{F:RO}{M:Mem}{c:Nat→Prop}{w:World}{t:F3}(hr:kO P E F M c w)(h:rF F t=true):∃ty o,w.heap[E.ρ t.1]?=some o∧eA P E t.1 (qN ty t.2.1 t.2.2) o:=by
 unfold rF at h
 split at h
 ·rename_i ty n fz d cs hF;rw[aV,bU]at h;obtain⟨h0,h⟩:=h;have h0:=bW h0;subst h0;obtain⟨h1,h2⟩:=pK h;have hl:look F M t.1=some (.cells ty fz false fz true d cs):=by
   rw[aY (hr.apart t.1 (by rw[hF];rfl))];exact hF
  obtain⟨_,_,o,ho,arr,fr,rfl,hc⟩:=hr.has _ _ hl;have hn:t.2.2.length=fz:=by omega
  subst hn;refine⟨ty,_,ho,arr,fr,rfl,?_,hc.size,hc.free,hc.plain⟩;intro j v hv;obtain⟨z,hz,rfl⟩:=U9 (ty:=ty) hv;refine hc.cell j _ ?_;have:=h2 j z hz
  rwa [Nat.zero_add]at this
 ·cases h
theorem ux{F:RO}:∀{L:List F3},fY F L=true→ ∀t∈L,t.1<1000∧rF F t=true
 |[],_,t,ht=>by cases ht
 |x::r,h,t,ht=>by
  have h':(Nat.blt x.1 1000&&(rF F x&&fY F r))=true:=h;rw[aV,aV,gk]at h';rcases bq.1 ht with e|ht'
  ·subst e;exact⟨bW h'.1,h'.2.1⟩
  ·exact ux h'.2.2 t ht'
theorem E4{P:Program}{E:d7}{F:RO}{M:Mem}{c:Nat→Prop}{w:World}{L:List F3}(hr:kO P E F M c w)(hglob:∀g,g<1000→E.ρ g=g∧E.β g=0)(h:fY F L=true):∃ty,kO P E (AU L ty) .e c0 w:=by
 have hall:=ux h
 have hty:∃ty:Nat→Nat,∀b,∀t∈L,t.1=b→ ∃o,w.heap[E.ρ b]?=some o∧eA P E b (qN (ty b) t.2.1 t.2.2) o:=by
  refine⟨fun b=>match w.heap[E.ρ b]? with|some (.cells _ ty _)=>ty|_=>0,fun b t ht e=>?_⟩;subst e;obtain⟨ty,o,ho,hB⟩:=U8 hr (hall t ht).2;have hB':=hB;obtain⟨arr,fr,rfl,_⟩:=hB;refine⟨_,ho,?_⟩;simp only[ho];exact hB'
 obtain⟨ty,hty⟩:=hty
 refine⟨ty,⟨?_,?_,fun b hb=>rfl⟩⟩
 ·intro b blk hb;rw[aY (show(Tr.e:Mem).get b=none from rfl)]at hb;obtain⟨t,ht,e,rfl⟩:=AV hb;subst e;obtain⟨o,ho,hB⟩:=hty _ t ht rfl;exact⟨(hall t ht).1,b01,o,ho,hB⟩
 ·intro b b' h1 h2 e;have lt:∀x,(look (AU L ty) .e x).isSome→x<1000:=by
   intro x hx;obtain⟨y,hy⟩:=bM.1 hx;rw[aY (show(Tr.e:Mem).get x=none from rfl)]at hy;obtain⟨t,ht,e,_⟩:=AV hy;subst e;exact(hall t ht).1
  rw[(hglob b (lt b h1)).1,(hglob b' (lt b' h2)).1]at e;exact e
theorem sf{P:Program}(hm:P.follows .mixedOrders=true){Φ:Nat→Option CF}(hΦ:ft P Φ){fuel f:Nat}{L:List F3}(h:∀ty,isT (bN7 Φ fuel (AU L ty) f [])=true):
 dy P f (fun F args M ct=>match args with|[]=>bif fY F L then .k (.b true) M ct else .f|_=> .f):=by
 intro F args M ct v N ct' hg E c w hr hglob hbig hf ha
 cases args with
 |cons a r=>cases hg
 |nil=>
  have hg':(bif fY F L then RC.k (.b true) M ct else .f)= .k v N ct':=hg;cases ht:fY F L with
  |false=>rw[ht]at hg';cases hg'
  |true=>
   rw[ht]at hg';have hg2:RC.k (.b true) M ct= .k v N ct':=hg';injection hg2 with e1 e2 e3
   subst e1 e2 e3;obtain⟨ty,hrel⟩:=E4 hr hglob ht;obtain⟨M',ct2,hk⟩:=SD (h ty);obtain⟨fn,h1,h2,h3,hC⟩:=iE (rd:=none) (fn:=0) (F₀:=[]) hΦ (tL hm hΦ fuel) (AU L ty) f [] .e 1000 (.b true) M' ct2 hk E c0 w hrel hglob (fun g hg=>hg) (fun b hb hc=>Nat.lt_irrefl _ (Nat.lt_of_lt_of_le hc hb)) trivial;refine⟨fn,h1,h2,h3,hC.mono ?_⟩;rintro e w' ⟨E',c',rfl,hS,hb,hG⟩;have hfr:∀r,r<w.heap.size→w'.heap[r]?=w.heap[r]?:=fun r hr'=>hS.frame r hr' (fun b hb=>by cases hb);have hhas:∀b blk,look F M b=some blk→c b∧eY c blk∧ ∃o,w'.heap[E.ρ b]?=some o∧eA P E b blk o:=by
    intro b blk hb;obtain⟨g1,g2,o,ho,g3⟩:=hr.has b blk hb;exact⟨g1,g2,o,by rw[hfr _ (Array.getElem?_eq_some_iff.1 ho).1];exact ho,g3⟩
   exact⟨E,c,rfl,⟨.refl c E,fun _ h=>h,⟨hhas,hr.inj,hr.apart⟩,fun b hb=> .inl ⟨b,hb,rfl⟩,fun r hr' _=>hfr r hr',hS.size,hS.os,hS.output,hS.tape⟩,trivial,.refl _ _⟩
theorem Tr.setP_same{α:Type}(p:aQ)(v w:α):∀t:Tr α,(t.setP p v).setP p w=t.setP p w:=by
 induction p with
 |h=>intro t;cases t<;>rfl
 |l p ih=>
  intro t;cases t with
  |e=>rw[Tr.setP_el,Tr.setP_l,ih,Tr.setP_el]
  |n l x r=>rw[Tr.setP_l,Tr.setP_l,ih,Tr.setP_l]
 |r p ih=>
  intro t;cases t with
  |e=>rw[Tr.setP_er,Tr.setP_r,ih,Tr.setP_er]
  |n l x r=>rw[Tr.setP_r,Tr.setP_r,ih,Tr.setP_r]
theorem qH{α:Type}(v:α):∀(f k:Nat),k+1<2^(f+1)→Tr.single (some v) f k=(Tr.e:Tr α).setP (ku f k) v
 |0,k,h=>by
  have:k=0:=by simp at h;omega
  subst this;rfl
 |f+1,k,h=>by
  have hp:(2:Nat)^(f+1+1)=2*2^(f+1):=by rw[Nat.pow_succ];omega
  rw[Tr.single_succ,ry];by_cases h0:k=0
  ·rw[ac h0,ac h0];rfl
  ·rw[ab h0,ab h0];by_cases h2:k%2=0
   ·rw[ac h2,ac h2,Tr.setP_er,qH v f _ (by omega)]
   ·rw[ab h2,ab h2,Tr.setP_el,qH v f _ (by omega)]
theorem ow{α:Type}(v:α)(t:Tr α):∀k:Nat,t.set k v=t.setP (bB k) v:=by
 induction t with
 |e=>
  intro k;show(Tr.e:Tr α).put (some v) k=_;rw[Tr.put_e];refine qH v _ k ?_;have:=Nat.lt_log2_self (n:=k);have hp:(2:Nat)^(k.log2+1+1)=2*2^(k.log2+1):=by rw[Nat.pow_succ];omega
  omega
 |n l x r ihl ihr=>
  intro k;show(Tr.n l x r).put (some v) k=_;rw[Tr.put_n];by_cases h0:k=0
  ·subst h0;rfl
  ·rw[ab h0];by_cases h2:k%2=0
   ·rw[ac h2];have e:bB k= .r (bB (k/2-1)):=by rw[←u7];congr 1;omega
    rw[e,Tr.setP_r,←ihr];rfl
   ·rw[ab h2];have e:bB k= .l (bB (k/2)):=by rw[←wH];congr 1;omega
    rw[e,Tr.setP_l,←ihl];rfl
theorem pF{α:Type}(t:Tr α)(k:Nat)(v w:α):(t.set k v).set k w=t.set k w:=by
 rw[ow,ow,ow,Tr.setP_same]
theorem AJ{α:Type}(t:Tr α){k j:Nat}(h:k≠j)(v w:α):(t.set k v).set j w=(t.set j w).set k v:=by
 rw[ow,ow,ow,ow,Tr.setP_comm (bB k) v (bB j) w t (fun e=>h (wG e).symm)]
def iB(l:List V):T:=bP l 0 .e
theorem nE(v:V):∀(l:List V) (k i:Nat) (t:T),i<k→bP l k (t.set i v)=(bP l k t).set i v
 |[],k,i,t,h=>rfl
 |x::l,k,i,t,h=>by
  rw[d9,d9,AJ _ (show i≠k by omega),nE v l (k+1) i _ (by omega)]
theorem tY(v:V):∀(l:List V) (k i:Nat) (t:T),i<l.length→(bP l k t).set (k+i) v=bP (l.set i v) k t
 |[],k,i,t,h=>by cases h
 |x::l,k,0,t,h=>by
  rw[List.set_cons_zero,d9,d9,aB k,←nE v l (k+1) k _ (by omega),pF]
 |x::l,k,i+1,t,h=>by
  rw[List.set_cons_succ,d9,d9,show k+(i+1)=(k+1)+i by omega,tY v l (k+1) i _ (by simpa using h)]
theorem Tu(v:V)(l:List V)(i:Nat)(h:i<l.length):(iB l).set i v=iB (l.set i v):=by
 have:=tY v l 0 i .e h
 rwa [Nat.zero_add]at this
def over:List V→Nat→List V→List V
 |l,_,[]=>l
 |l,i,v::r=>over (l.set i v) (i+1) r
theorem rx:∀(vs l:List V) (i:Nat),(over l i vs).length=l.length
 |[],l,i=>rfl
 |v::r,l,i=>by rw[over,rx r];simp
theorem rv:∀(vs l:List V) (i:Nat),i+vs.length≤l.length→bP vs i (iB l)=iB (over l i vs)
 |[],l,i,h=>rfl
 |v::r,l,i,h=>by
  simp only[aA]at h;rw[d9,Tu _ _ _ (by omega),over,rv r _ _ (by simp;omega)]
def ae(ty:Nat)(l:List V):bK:= .cells ty l.length true 0 false [] (iB l)
theorem tB(l:List V)(i:Nat):cell l.length [] (iB l) i=l[i]?:=by
 rw[cH]
 by_cases h:i<l.length
 ·rw[ac h];unfold iB;rw[cY,ac (by omega)];simp only[Nat.sub_zero];rw[List.getElem?_eq_getElem h]
 ·rw[ab h,List.getElem?_eq_none (by omega)]
theorem rb(l:List V):∀(n i:Nat),i+n≤l.length→ek l.length [] (iB l) n i=some ((l.drop i).take n)
 |0,i,h=>by rw[oT];simp
 |n+1,i,h=>by
  rw[ip,tB,List.getElem?_eq_getElem (by omega)];show(match ek l.length [] (iB l) n (i+1)with|none=>none|some r=>some (l[i]::r))=_;rw[rb l n (i+1) (by omega)];simp only;rw[←List.getElem_cons_drop (by omega:i<l.length),List.take_succ_cons]
section
variable{Φ:Nat→Option CF}{rd:Option Nat}{fn:Nat}{F:RO}
theorem nH(M:Mem)(b:Nat)(x:bK):look F (M.set b x) b=some x:=ax (by rw[Tr.get_set,ac rfl])
theorem lW(M:Mem){b b':Nat}(x:bK)(h:b'≠b):look F (M.set b x) b'=look F M b':=cF (by rw[Tr.get_set,ab h])
theorem tZ(M:Mem)(b o ty:Nat)(l:List V):load1 F (M.set b (ae ty l)) b o=l[o]?:=by
 unfold load1
 rw[nH]
 exact tB l o
theorem Ai(M:Mem){b b':Nat}(o:Nat)(x:bK)(h:b'≠b):load1 F (M.set b x) b' o=load1 F M b' o:=by
 unfold load1
 rw[lW M x h]
theorem cN(M:Mem)(b o n ty:Nat)(l:List V)(h:o+n≤l.length):loadN F (M.set b (ae ty l)) b o n=some ((l.drop o).take n):=by
 unfold loadN
 rw[nH]
 exact rb l n o h
theorem SQ(M:Mem){b b':Nat}(o n:Nat)(x:bK)(h:b'≠b):loadN F (M.set b x) b' o n=loadN F M b' o n:=by
 unfold loadN
 rw[lW M x h]
theorem rB(M:Mem)(b o ty:Nat)(l vs:List V)(h:o+vs.length≤l.length)(h1:aK vs=true):bR (M.set b (ae ty l)) b o vs=some (M.set b (ae ty (over l o vs))):=by
 have hg:(M.set b (ae ty l)).get b=some (ae ty l):=by rw[Tr.get_set,ac rfl]
 show Option.rec (motive:=fun _=>Option Mem) none (fun blk=>n7 (M.set b (ae ty l)) b o vs blk) ((M.set b (ae ty l)).get b)=_
 rw[hg]
 show(Bool.rec (motive:=fun _=>Option Mem) none (Bool.rec (motive:=fun _=>Option Mem) none (Bool.rec (motive:=fun _=>Option Mem) none (eJ (M.set b (ae ty l)) b o vs ty l.length true 0 false [] (iB l)) (aK vs)) (Nat.ble 0 o)) (Nat.ble (Nat.add o vs.length) l.length))=_
 rw[bb,bb,bb,cG,cG,ah (show Nat.add o vs.length≤l.length from h),ah (aD o),h1]
 simp only[if_true]
 unfold eJ
 rw[Tr.force_eq,Tr.force_eq,rv _ _ _ h,pF]
 unfold ae
 rw[rx]
theorem IK(M:Mem){b b':Nat}(o:Nat)(x:bK)(vs:List V)(h:b'≠b){M':Mem}(hs:bR M b' o vs=some M'):bR (M.set b x) b' o vs=some (M'.set b x):=by
 obtain⟨ty,n,ex,fz,str,d,cs,hM,h1,h2,h3,rfl⟩:=mt hs
 have hg:(M.set b x).get b'=some (.cells ty n ex fz str d cs):=by rw[Tr.get_set,ab h];exact hM
 show Option.rec (motive:=fun _=>Option Mem) none (fun blk=>n7 (M.set b x) b' o vs blk) ((M.set b x).get b')=_
 rw[hg]
 show(Bool.rec (motive:=fun _=>Option Mem) none (Bool.rec (motive:=fun _=>Option Mem) none (Bool.rec (motive:=fun _=>Option Mem) none (eJ (M.set b x) b' o vs ty n ex fz str d cs) (aK vs)) (Nat.ble fz o)) (Nat.ble (Nat.add o vs.length) n))=_
 rw[bb,bb,bb,cG,cG,ah (show Nat.add o vs.length≤n from h1),ah h2,h3]
 simp only[if_true]
 unfold eJ
 rw[Tr.force_eq,Tr.force_eq,AJ _ (Ne.symm h)]
def bJ2(F:RO)(M:Mem)(x:V):Option V:=(cX (.ld1 (.c x)) F M .e).val
def bJ7(n:Nat)(F:RO)(M:Mem)(x:V):Option V:=(cX (.ldn n (.c x)) F M .e).val
theorem bR7(x:X)(M:Mem)(t:T):(cX (.ld1 x) F M t).val=bJ2 F M (x.ev t):=rfl
theorem bR8(n:Nat)(x:X)(M:Mem)(t:T):(cX (.ldn n x) F M t).val=bJ7 n F M (x.ev t):=rfl
theorem bJ3(M:Mem)(b o:Nat):bJ2 F M (.p b o)=load1 F M b o:=by
 show(qrb b (load1 F M b o)).val=_
 cases load1 F M b o<;>rfl
theorem bJ8(n:Nat)(M:Mem)(b o:Nat):bJ7 n F M (.p b o)=(loadN F M b o n).map .g:=by
 show(qgb b (loadN F M b o n)).val=_
 cases loadN F M b o n<;>rfl
theorem bR4(off:Nat)(x:X)(M:Mem)(t:T):(cX (.fa off x) F M t).val=match x.ev t with| .p b o=>some (.p b (o+off))|_=>none:=by
 show(sa (x.ev t) .f fun b o=>uX b (Nat.add o off)).val=_
 cases x.ev t with
 |p b o=>
  show(uX b (Nat.add o off)).val=_;unfold uX;rw[bG];rfl
 |_=>rfl
theorem Wc(ty:Nat)(cs:List V)(b:Nat)(t:T)(h:aK cs=true):jD (.al ty cs) b t=some (.p b 0,ae ty cs):=by
 show(bif aK cs then some (V.p b 0,bK.cells ty cs.length true 0 false [] (bP cs 0 .e))else none)=_
 rw[h];rfl
theorem Wg(ty sz:Nat)(x:X)(b:Nat)(t:T):jD (.bx ty sz x) b t=if(flatten (x.ev t)).length=sz∧aK (flatten (x.ev t))=true then some (.p b 0,ae ty (flatten (x.ev t)))else none:=by
 show(bif Nat.beq (flatten (x.ev t)).length sz&&aK (flatten (x.ev t))then some (V.p b 0,bK.cells ty sz true 0 false [] (bP (flatten (x.ev t)) 0 .e))else none)=_
 rw[bU]
 by_cases h:(flatten (x.ev t)).length=sz
 ·rw[ah h];cases ha:aK (flatten (x.ev t))with
  |true=>rw[ac ⟨h,rfl⟩,←h];rfl
  |false=>rw[ab (fun hh=>by cases hh.2)];rfl
 ·rw[af h,ab (fun hh=>h hh.1)];rfl
theorem yf(n:Nat)(x v:X)(M:Mem)(c:Nat)(t:T):fc (.st n x v) (K Φ rd fn F) M c t=match x.ev t with
 | .p b o=>if(flatten (v.ev t)).length=n then er c (bR M b o (flatten (v.ev t)))else .f
 |_=> .f:=by
 show(sa (x.ev t) .f fun b o=>wg n b o (flatten (v.ev t)) M c)=_
 cases x.ev t with
 |p b o=>
  show wg n b o (flatten (v.ev t)) M c=_;unfold wg;rw[bb,bU];simp only[decide_eq_true_eq]
 |_=>rfl
theorem X7(c:Nat)(M:Mem):er c (some M)= .k undef M c:=rfl
end
section
variable{Φ:Nat→Option CF}{rd:Option Nat}{fn:Nat}{F:RO}
def ofO(o:Option V)(M:Mem)(c:Nat):RC:=match o with
 |some v=> .k v M c
 |none=> .f
theorem Td(h:List V→Option V)(F:RO)(args:List V)(M:Mem)(c:Nat):aG h F args M c=ofO (h args) M c:=rfl
theorem SW(v:V)(M:Mem)(c:Nat):ofO (some v) M c= .k v M c:=rfl
theorem HD(x:Bool):flatten (.b x)=[.b x]:=rfl
theorem HG(k:IntKind)(x:Int):flatten (.i k x)=[.i k x]:=rfl
theorem HK(n x:Nat):flatten (.s n x)=[.s n x]:=rfl
theorem HJ(b o:Nat):flatten (.p b o)=[.p b o]:=rfl
theorem Dk:flatten .p0=[.p0]:=rfl
theorem HH(b o n c:Nat):flatten (.l b o n c)=[.l b o n c]:=rfl
theorem HL(b o n e k:Nat):flatten (.u b o n e k)=[.u b o n e k]:=rfl
theorem Di:flatten .l0=[.l0]:=rfl
theorem HI(b:Nat):flatten (.m b)=[.m b]:=rfl
theorem Dj:flatten .m0=[.m0]:=rfl
theorem HE(f:Nat)(a b:List V):flatten (.f f a b)=[.f f a b]:=rfl
theorem Dh:flatten .f0=[.f0]:=rfl
theorem HF(l:List V):flatten (.g l)=l:=rfl
theorem bO:aK []=true:=rfl
theorem av(v:V)(l:List V):aK (v::l)=(bC v&&aK l):=by
 show Bool.rec (motive:=fun _=>Bool) false (aK l) (bC v)=_
 cases bC v<;>rfl
theorem Xh(x:Bool):bC (.b x)=true:=rfl
theorem Xj(k:IntKind)(x:Int):bC (.i k x)=true:=rfl
theorem Xn(n x:Nat):bC (.s n x)=true:=rfl
theorem Xm(b o:Nat):bC (.p b o)=true:=rfl
theorem SC:bC .p0=true:=rfl
theorem Xk(b o n c:Nat):bC (.l b o n c)=true:=rfl
theorem Xo(b o n e k:Nat):bC (.u b o n e k)=true:=rfl
theorem SB:bC .l0=true:=rfl
theorem Xl(b:Nat):bC (.m b)=true:=rfl
theorem Xi(f:Nat)(a b:List V):bC (.f f a b)=true:=rfl
theorem SA:bC .f0=true:=rfl
def rk(cs:List V):List (Nat×Nat×List V)→Option (List V)
 |[]=>some cs
 |(o,n,vs)::r=>if vs.length=n then(match ew cs o vs with|some cs=>rk cs r|none=>none)else none
theorem og:∀(o:Nat) (l vs:List V),o+vs.length≤l.length→ew l o vs=some (over l o vs)
 |0,l,[],h=>by cases l<;>rfl
 |0,[],v::r,h=>by simp at h
 |0,x::l,v::r,h=>by
  have key:∀(r l:List V) (v:V),over (v::l) 1 r=v::over l 0 r:=by
   have gen:∀(r l:List V) (v:V) (i:Nat),over (v::l) (i+1) r=v::over l i r:=by
    intro r
    induction r with
    |nil=>intro l v i;rfl
    |cons a r ih=>intro l v i;rw[over,over,List.set_cons_succ,ih]
   exact fun r l v=>gen r l v 0
  rw[ew,og 0 l r (by simp at h;omega),over,List.set_cons_zero,key]
 |o+1,[],vs,h=>by simp at h
 |o+1,x::l,vs,h=>by
  have gen:∀(r l:List V) (v:V) (i:Nat),over (v::l) (i+1) r=v::over l i r:=by
   intro r
   induction r with
   |nil=>intro l v i;rfl
   |cons a r ih=>intro l v i;rw[over,over,List.set_cons_succ,ih]
  rw[ew,og o l vs (by simp at h;omega),gen]
def evP(t:T):List (Nat×Nat×X)→List (Nat×Nat×List V)
 |[]=>[]
 |(o,n,x)::r=>(o,n,flatten (x.ev t))::evP t r
theorem X9(t:T):evP t []=[]:=rfl
theorem zZ(t:T)(o n:Nat)(x:X)(r:List (Nat×Nat×X)):evP t ((o,n,x)::r)=(o,n,flatten (x.ev t))::evP t r:=rfl
theorem HB(cs:List V):rk cs []=some cs:=rfl
theorem tM(cs:List V)(o n:Nat)(vs:List V)(r:List (Nat×Nat×List V)):rk cs ((o,n,vs)::r)=if vs.length=n then(match ew cs o vs with|some cs=>rk cs r|none=>none)else none:=rfl
theorem T5(l:List V)(i:Nat):over l i []=l:=rfl
theorem I8(l:List V)(i:Nat)(v:V)(r:List V):over l i (v::r)=over (l.set i v) (i+1) r:=rfl
theorem oZ(t:T):∀(ps:List (Nat×Nat×X)) (cs:List V),fillParts t cs ps=rk cs (evP t ps)
 |[],cs=>rfl
 |(o,n,x)::ps,cs=>by
  rw[zZ,tM,fillParts,bU];by_cases hc:(flatten (x.ev t)).length=n
  ·rw[ah hc,cond_true,ac hc];cases ew cs o (flatten (x.ev t))with
   |none=>rfl
   |some cs'=>exact oZ t ps cs'
  ·rw[af hc,cond_false,ab hc]
theorem aI9(zero:List V)(ps:List (Nat×Nat×X))(M:Mem)(t:T):(cX (.bld zero ps) F M t).val=(rk zero (evP t ps)).map .g:=by
 show(qg (fillParts t zero ps)).val=_
 rw[oZ]
 cases rk zero (evP t ps)<;>rfl
theorem aJ0(off:Nat)(x:X)(M:Mem)(t:T):(cX (.fl1 off x) F M t).val=match x.ev t with| .g cs=>cs[off]?|_=>none:=by
 show(DH (x.ev t) .f fun cs=>qr (ph cs off)).val=_
 cases x.ev t with
 |g cs=>
  show(qr (ph cs off)).val=cs[off]?;rw[jr];cases cs[off]?<;>rfl
 |_=>rfl
theorem bR5(off n:Nat)(x:X)(M:Mem)(t:T):(cX (.fln off n x) F M t).val=match x.ev t with| .g cs=>(mA n (jI off cs)).map .g|_=>none:=by
 show(DH (x.ev t) .f fun cs=>qg (mA n (jI off cs))).val=_
 cases x.ev t with
 |g cs=>
  show(qg (mA n (jI off cs))).val=(mA n (jI off cs)).map .g;cases mA n (jI off cs)<;>rfl
 |_=>rfl
theorem bR3(i:Nat)(x:X)(M:Mem)(t:T):(cX (.ex i x) F M t).val=match x.ev t with| .t cs=>cs[i]?|_=>none:=by
 show(ud i x F M t).val=_
 unfold ud
 cases x.ev t with
 |t cs=>
  show(qr (ph cs i)).val=cs[i]?;rw[jr];cases cs[i]?<;>rfl
 |_=>rfl
theorem bR1(k:IntKind)(x:X)(M:Mem)(t:T):(cX (.ci k x) F M t).val=match x.ev t with| .i _ n=>some (.i k (k.wrap n))|_=>none:=by
 show(u3 (x.ev t) .f fun _ n=>vI k (wr k n)).val=_
 cases x.ev t with
 |i k' n=>
  show(vI k (wr k n)).val=_;rw[g9,jZ];rfl
 |_=>rfl
def aP0:Option Bool→Option Bool→Option Bool
 |some b,r=>if b=true then r else some false
 |none,_=>none
theorem Hd(b c:Bool):aP0 (some b) (some c)=some (b&&c):=by cases b<;>rfl
def bG3(F:RO)(M:Mem)(sh:Sh)(x y:Option V):Option Bool:=match x,y with
 |some x,some y=>Fl F M sh false x y
 |_,_=>none
theorem Hy(M:Mem)(sh:Sh)(x y:V):bG3 F M sh (some x) (some y)=Fl F M sh false x y:=rfl
theorem Hx(M:Mem)(xs ys:List V):kV F M xs ys []=some true:=rfl
theorem nX(M:Mem)(xs ys:List V)(o:Nat)(sh:Sh)(r:List (Nat×Sh)):kV F M xs ys ((o,sh)::r)=aP0 (bG3 F M sh (xs[o]?) (ys[o]?)) (kV F M xs ys r):=by
 rw[kV,jr,jr]
 cases xs[o]? with
 |none=>rfl
 |some x=>
  cases ys[o]? with
  |none=>rfl
  |some y=>
   show(match Fl F M sh false x y with|some true=>kV F M xs ys r|r=>r)=aP0 (Fl F M sh false x y) _;cases Fl F M sh false x y with
   |none=>rfl
   |some b=>cases b<;>rfl
def Xy(neg:Bool):Option Bool→Option V
 |some r=>some (.b (bif neg then !r else r))
 |none=>none
theorem aV8(r:Bool):Xy false (some r)=some (.b r):=rfl
theorem aV9(r:Bool):Xy true (some r)=some (.b (!r)):=rfl
theorem bR2(neg:Bool)(sh:Sh)(lit:Bool)(x y:X)(M:Mem)(t:T):(cX (.eq neg sh lit x y) F M t).val=Xy neg (zh F M sh lit (x.ev t) (y.ev t)):=by
 show(wI neg (zh F M sh lit (x.ev t) (y.ev t))).val=_
 cases zh F M sh lit (x.ev t) (y.ev t)with
 |none=>rfl
 |some r=>
  show(vB (bif neg then !r else r)).val=_;rw[la];rfl
theorem X3(ks:List (Nat×Sh))(lit:Bool)(M:Mem)(xs ys:List V):zh F M (.agg ks) lit (.g xs) (.g ys)=kV F M xs ys ks:=rfl
theorem X5(lit:Bool)(M:Mem)(k:IntKind)(a b:Int):zh F M .int lit (.i k a) (.i k b)=some (decide (a=b)):=by
 show X0 (.i k a) (.i k b)=_
 simp[X0,eQ,dx]
theorem WZ(lit:Bool)(M:Mem)(k:IntKind)(a b:Int):Fl F M .int lit (.i k a) (.i k b)=some (decide (a=b)):=by
 show X0 (.i k a) (.i k b)=_
 simp[X0,eQ,dx]
theorem zU(lit:Bool)(M:Mem)(a b:Bool):Fl F M .bool lit (.b a) (.b b)=some (decide (a=b)):=by
 show eqB (.b a) (.b b)=_
 cases a<;>cases b<;>rfl
theorem c37(x:X)(as:List X)(M:Mem)(c:Nat)(t:T):fc (.cv x as) (K Φ rd fn F) M c t=oS (K Φ rd fn F) (x.ev t) (evs as t) M c:=rfl
theorem WC(f:Nat)(first caps args:List V)(M:Mem)(c:Nat):oS (K Φ rd fn F) (.f f first caps) args M c=dt (j5 Φ) F f (first++(args++caps)) M c (Φ f):=rfl
theorem bR9(f:Nat)(first caps:List X)(M:Mem)(t:T):(cX (.mkf f first caps) F M t).val=some (.f f (evs first t) (evs caps t)):=rfl
theorem Y1(M:Mem)(t:T)(p:aQ)(sz:Nat)(r:List RV):ea F M t (.cn p sz::r)=match cJ t p with
 | .p b o=>match loadN F M b o sz with|some l=>wc (.g l) (ea F M t r)|none=>none
 |_=>none:=by
 show Option.rec (motive:=fun _=>Option (List V)) none (fun v=>si v (ea F M t r)) (wL F M t (.cn p sz))=_
 show Option.rec (motive:=fun _=>Option (List V)) none (fun v=>si v (ea F M t r)) (sa (cJ t p) none fun b o=>Option.rec (motive:=fun _=>Option V) none (fun l=>some (.g l)) (loadN F M b o sz))=_
 cases cJ t p with
 |p b o=>
  show Option.rec (motive:=fun _=>Option (List V)) none (fun v=>si v (ea F M t r)) (Option.rec (motive:=fun _=>Option V) none (fun l=>some (.g l)) (loadN F M b o sz))=_;simp only;cases loadN F M b o sz with
  |none=>rfl
  |some l=>
   show si (.g l) (ea F M t r)=wc (.g l) (ea F M t r);cases ea F M t r<;>rfl
 |_=>rfl
theorem Y0(M:Mem)(t:T)(p:aQ)(r:List RV):ea F M t (.c1 p::r)=match cJ t p with
 | .p b o=>match load1 F M b o with|some v=>wc v (ea F M t r)|none=>none
 |_=>none:=by
 show Option.rec (motive:=fun _=>Option (List V)) none (fun v=>si v (ea F M t r)) (sa (cJ t p) none fun b o=>load1 F M b o)=_
 cases cJ t p with
 |p b o=>
  show Option.rec (motive:=fun _=>Option (List V)) none (fun v=>si v (ea F M t r)) (load1 F M b o)=_;simp only;cases load1 F M b o with
  |none=>rfl
  |some v=>
   show si v (ea F M t r)=wc v (ea F M t r);cases ea F M t r<;>rfl
 |_=>rfl
def rt(len sz:Nat)(x i:V):Option V:=(cX (.ixA1 len sz (.c x) (.c i)) [] .e .e).val
theorem Uh(len sz:Nat)(x i:X)(M:Mem)(t:T):(cX (.ixA1 len sz x i) F M t).val=rt len sz (x.ev t) (i.ev t):=rfl
theorem qi(len:Nat)(cs:List V)(k:IntKind)(n:Int):rt len 1 (.g cs) (.i k n)=if 0≤n∧n<len then cs[n.toNat]? else none:=by
 show(DH (V.g cs) QR.f fun cs=>p8 len 1 cs (rX (.i k n))).val=_
 show(p8 len 1 cs (rX (.i k n))).val=_
 cases n with
 |ofNat m=>
  show(bif Nat.blt m len then qr (ph cs (Nat.mul m 1))else QR.f).val=_;rw[gk];by_cases h:m<len
  ·rw[ah h,cond_true,ac ⟨Int.natCast_nonneg m,Int.ofNat_lt.2 h⟩];show(qr (ph cs (Nat.mul m 1))).val=_;rw[jr,show Nat.mul m 1=m from Nat.mul_one m];show _=cs[m]?;cases cs[m]?<;>rfl
  ·rw[af h,cond_false,ab (fun hh=>h (Int.ofNat_lt.1 hh.2))];rfl
 |negSucc m=>
  rw[ab (fun hh=>by have:=hh.1;exact absurd this (by simp))];rfl
theorem getD_some{l:List V}{i:Nat}(h:i<l.length)(d:V):l[i]?=some ((l[i]?).getD d):=by
 rw[List.getElem?_eq_getElem h];rfl
def bK3(b:Nat)(x:bK):Option Mem→Option Mem
 |some M=>some (M.set b x)
 |none=>none
theorem I4(b:Nat)(x:bK)(M:Mem):bK3 b x (some M)=some (M.set b x):=rfl
theorem Ei(M:Mem){b b':Nat}(o:Nat)(x:bK)(vs:List V)(h:b'≠b):bR (M.set b x) b' o vs=bK3 b x (bR M b' o vs):=by
 cases hs:bR M b' o vs with
 |some M'=>rw[IK M o x vs h hs];rfl
 |none=>
  cases hs2:bR (M.set b x) b' o vs with
  |none=>rfl
  |some M2=>
   exfalso;obtain⟨ty,n,ex,fz,str,d,cs,hM,h1,h2,h3,_⟩:=mt hs2;rw[Tr.get_set,ab h]at hM;have:bR M b' o vs=some (M.set b' (.cells ty n ex fz str d (bP vs o cs))):=by
    show Option.rec (motive:=fun _=>Option Mem) none (fun blk=>n7 M b' o vs blk) (M.get b')=_;rw[hM];show(Bool.rec (motive:=fun _=>Option Mem) none (Bool.rec (motive:=fun _=>Option Mem) none (Bool.rec (motive:=fun _=>Option Mem) none (eJ M b' o vs ty n ex fz str d cs) (aK vs)) (Nat.ble fz o)) (Nat.ble (Nat.add o vs.length) n))=_;rw[bb,bb,bb,cG,cG,ah (show Nat.add o vs.length≤n from h1),ah h2,h3];simp only[if_true];unfold eJ;rw[Tr.force_eq,Tr.force_eq]
   rw[hs]at this;cases this
theorem Xw(c n:Nat):(c≠c+(n+1))=True:=eq_true (by omega)
theorem Xx(c n:Nat):(c+(n+1)≠c)=True:=eq_true (by omega)
theorem aV7(c i j:Nat)(h:(i==j)=false):(c+i≠c+j)=True:=eq_true (fun e=>by
 have:i=j:=by omega
 rw[beq_eq_false_iff_ne]at h
 exact h this)
def To(Φ:Nat→Option CF)(f:Nat)(args:List V)(ct:Nat)(v:V):Prop:=∃M1 ct1,dt (j5 Φ) [] f args .e ct (Φ f)= .k v M1 ct1
theorem eR{f n:Nat}{res:List RV}{body:CC}{args:List V}{c:Nat}{v:V}(hf:Φ f=some (.mk n res body))
 (h:Wp body (K Φ none f []) (.mk (bz n args) [] .e c) (j6 [] res fun v' _ _=>v'=v)):To Φ f args c v:=by
 obtain⟨v',M',c',h1,rfl⟩:=w9 hf h
 exact⟨M',c',h1⟩
end
theorem mE{n:Int}(h1: -9223372036854775808≤n)(h2:n<9223372036854775808):IntKind.i64.wrap n=n:=by
 rw[uK .i64 n 18446744073709551616 9223372036854775808 rfl rfl rfl]
 split<;>omega
theorem aP9(k:IntKind)(a b:Int):cB .mul (.i k a) (.i k b)=some (.i k (k.wrap (a*b))):=by
 show _=some (V.i k (k.wrap (Int.mul a b)))
 cases k<;>simp[cB,fC,eu,pX,aF2,ib,tW,g9,jZ,QR.val]
theorem be(a b:Int)(h1: -9223372036854775808≤a+b)(h2:a+b<9223372036854775808):cB .add (.i .i64 a) (.i .i64 b)=some (.i .i64 (a+b)):=by
 rw[aP3,mE h1 h2]
theorem Fq(a b:Int)(h1: -9223372036854775808≤a*b)(h2:a*b<9223372036854775808):cB .mul (.i .i64 a) (.i .i64 b)=some (.i .i64 (a*b)):=by
 rw[aP9,mE h1 h2]
section
variable{Φ:Nat→Option CF}{rd:Option Nat}{fn:Nat}{F:RO}
def ly(base:Nat)(ops:List (Nat×Nat×CO))(k:Kn)(s:DS)(R:DS→Prop):Prop:=∃s',iq k base ops s=some s'∧R s'
def aE1(d:List Nat)(Q:Ex→St→Prop):DS→Prop
 | .mk t M c pend _=>Q .nrm (.mk t d (dw pend M) c)
theorem Yq(n:Nat)(ops:List (Nat×Nat×CO))(k:Kn)(t:T)(d:List Nat)(M:Mem)(c:Nat)(Q:Ex→St→Prop):
 Wp (.dreg n ops) k (.mk t d M c) Q=ly c ops k (.mk t M (c+n) [] []) (aE1 d Q):=by
 have he:bn (.dreg n ops) k (.mk t d M c)=tG d (iq k c ops (.mk t M (c+n) [] [])):=by
  show(fN (Nat.add c n) fun c'=>tG d (iq k c ops (.mk t M c' [] [])))=_;rw[bG];rfl
 apply propext;constructor
 ·rintro⟨e,s',h,q⟩;rw[he]at h;cases hs:iq k c ops (.mk t M (c+n) [] [])with
  |none=>rw[hs]at h;cases h
  |some s1=>
   rw[hs]at h;obtain⟨t1,M1,c1,p1,r1⟩:=s1;have h2:((dw p1 M1).force fun M=>Rs.k .nrm (.mk t1 d M c1))= .k e s':=h;rw[Tr.force_eq]at h2;injection h2 with a1 a2
   subst a1 a2;exact⟨_,hs,q⟩
 ·rintro⟨s1,hs,q⟩;obtain⟨t1,M1,c1,p1,r1⟩:=s1;refine⟨_,_,?_,q⟩;rw[he,hs];show((dw p1 M1).force fun M=>Rs.k .nrm (.mk t1 d M c1))=_;rw[Tr.force_eq]
theorem S9(d:List Nat)(Q:Ex→St→Prop)(t:T)(M:Mem)(c:Nat)(pend:List (Nat×Nat×bK))(reads:List (Nat×Nat)):aE1 d Q (.mk t M c pend reads)=Q .nrm (.mk t d (dw pend M) c):=Eq.trans rfl (Eq.refl _)
theorem ix(M:Mem):dw [] M=M:=Eq.trans rfl (Eq.refl _)
theorem br1(base:Nat)(k:Kn)(s:DS)(R:DS→Prop):ly base [] k s R=R s:=by
 apply propext;constructor
 ·rintro⟨s',h,q⟩;cases h;exact q
 ·exact fun q=>⟨_,rfl,q⟩
theorem eS(base:Nat)(o:Nat×Nat×CO)(r:List (Nat×Nat×CO))(k:Kn)(s:DS)(R:DS→Prop):ly base (o::r) k s R↔ ∃s',rZ k base o s=some s'∧ly base r k s' R:=by
 constructor
 ·rintro⟨s',h,q⟩;rw[iq]at h;cases hs:rZ k base o s with
  |none=>rw[hs]at h;cases h
  |some s1=>rw[hs]at h;exact⟨s1,rfl,s',h,q⟩
 ·rintro⟨s1,h1,s',h2,q⟩;exact⟨s',by rw[iq,h1];exact h2,q⟩
def lq(o:QO)(F:RO)(M:Mem)(t:T):QR:=Ht o F M t (cX o F M t)
def aN7(q:QR)(base i:Nat)(p:aQ)(r:List (Nat×Nat×CO))(k:Kn)(t:T)(M:Mem)(c:Nat)(pend:List (Nat×Nat×bK))(reads:List (Nat×Nat))(R:DS→Prop):Prop:=match q with
 | .f=>False
 | .v x=>ly base r k (.mk (t.setP p x) M c pend reads) R
 | .r x b=>ly base r k (.mk (t.setP p x) M c pend ((i,b)::reads)) R
theorem aX9(x:V)(base i:Nat)(p:aQ)(r:List (Nat×Nat×CO))(k:Kn)(t:T)(M:Mem)(c:Nat)(pend:List (Nat×Nat×bK))(reads:List (Nat×Nat))(R:DS→Prop):
 aN7 (.v x) base i p r k t M c pend reads R=ly base r k (.mk (t.setP p x) M c pend reads) R:=Eq.trans rfl (Eq.refl _)
theorem aX8(x:V)(b base i:Nat)(p:aQ)(r:List (Nat×Nat×CO))(k:Kn)(t:T)(M:Mem)(c:Nat)(pend:List (Nat×Nat×bK))(reads:List (Nat×Nat))(R:DS→Prop):
 aN7 (.r x b) base i p r k t M c pend reads R=ly base r k (.mk (t.setP p x) M c pend ((i,b)::reads)) R:=Eq.trans rfl (Eq.refl _)
theorem ct8(base i mask:Nat)(p:aQ)(o:QO)(r:List (Nat×Nat×CO))(t:T)(M:Mem)(c:Nat)(pend:List (Nat×Nat×bK))(reads:List (Nat×Nat))(R:DS→Prop):
 ly base ((i,mask,.mk (some p) (.q o) none)::r) (K Φ rd fn F) (.mk t M c pend reads) R=aN7 (lq o F M t) base i p r (K Φ rd fn F) t M c pend reads R:=by
 have he:rZ (K Φ rd fn F) base (i,mask,.mk (some p) (.q o) none) (.mk t M c pend reads)=s5 i (some p) t M c pend reads (lq o F M t):=rfl
 apply propext
 rw[eS,he]
 cases lq o F M t with
 |f=>exact⟨fun⟨s',h,_⟩=>(by cases h),False.elim⟩
 |v x=>
  have:s5 i (some p) t M c pend reads (.v x)=some (.mk (t.setP p x) M c pend reads):=by
   show((setT t (some p) x).force fun t=>some (DS.mk t M c pend reads))=_;rw[Tr.force_eq];rfl
  rw[this];constructor
  ·rintro⟨s',h,q⟩;obtain rfl:=ag h;exact q
  ·exact fun q=>⟨_,rfl,q⟩
 |r x b=>
  have:s5 i (some p) t M c pend reads (.r x b)=some (.mk (t.setP p x) M c pend ((i,b)::reads)):=by
   show((setT t (some p) x).force fun t=>some (DS.mk t M c pend ((i,b)::reads)))=_;rw[Tr.force_eq];rfl
  rw[this];constructor
  ·rintro⟨s',h,q⟩;obtain rfl:=ag h;exact q
  ·exact fun q=>⟨_,rfl,q⟩
def oV:Option V→QR
 |none=> .f
 |some x=> .v x
theorem XC(x:V):oV (some x)= .v x:=Eq.trans rfl (Eq.refl _)
theorem fw{o:QO}{M:Mem}{t:T}(h:∀F' M',cX o F' M' t=oV (cX o [] .e t).val):lq o F M t=oV (cX o F M t).val:=by
 have h1:=h F M
 have h0:=h [] .e
 unfold lq
 rw[h1]
 cases hv:(cX o [] .e t).val with
 |none=>rfl
 |some x=>
  show cX o [] .e t= .v x;rw[h0,hv];rfl
theorem bR0(k:IntKind)(n:Int):vI k n=oV (vI k n).val:=by rw[g9];rfl
theorem bF6(x:X)(M:Mem)(t:T):lq (.mv x) F M t= .v (x.ev t):=Eq.trans rfl (Eq.refl _)
theorem bF2(k:IntKind)(x:X)(M:Mem)(t:T):lq (.ci k x) F M t=oV (match x.ev t with| .i _ n=>some (.i k (k.wrap n))|_=>none):=by
 refine(fw ?_).trans (congrArg oV (bR1 (F:=F) k x M t))
 intro F' M'
 show(u3 (x.ev t) QR.f fun _ n=>vI k (wr k n))=oV (u3 (x.ev t) QR.f fun _ n=>vI k (wr k n)).val
 cases x.ev t with
 |i k' n=>exact bR0 _ _
 |_=>rfl
theorem jQ{q:QR}(h:q= .f∨ ∃x,q= .v x):q=oV q.val:=by
 rcases h with rfl|⟨x,rfl⟩<;>rfl
theorem aQ2(op:BinOp)(k:IntKind)(a:Int)(k':IntKind)(b:Int):fC op k a k' b= .f∨ ∃x,fC op k a k' b= .v x:=by
 have hb:∀(c:Bool) (q:QR),(q= .f∨ ∃x,q= .v x)→(Bool.rec (motive:=fun _=>QR) .f q c= .f∨ ∃x,(Bool.rec (motive:=fun _=>QR) .f q c:QR)= .v x):=by
  intro c q h;cases c
  ·exact .inl rfl
  ·exact h
 have vi:∀k n,vI k n= .f∨ ∃x,vI k n= .v x:=fun k n=> .inr ⟨_,g9 k n⟩
 have vb:∀b,vB b= .f∨ ∃x,vB b= .v x:=fun b=> .inr ⟨_,la b⟩
 cases op with
 |add=>exact hb _ _ (vi _ _)
 |sub=>exact hb _ _ (vi _ _)
 |mul=>exact hb _ _ (vi _ _)
 |quo=>
  refine hb _ _ ?_;have e:r6 k a b= .f∨ ∃x,r6 k a b= .v x:=by
   unfold r6;cases Hz b 0
   ·exact vi _ _
   ·exact .inl rfl
  exact e
 |rem=>
  refine hb _ _ ?_;have e:w6 k a b= .f∨ ∃x,w6 k a b= .v x:=by
   unfold w6;cases Hz b 0
   ·exact vi _ _
   ·exact .inl rfl
  exact e
 |and=>exact hb _ _ (vi _ _)
 |or=>exact hb _ _ (vi _ _)
 |xor=>exact hb _ _ (vi _ _)
 |andNot=>exact hb _ _ (vi _ _)
 |eql=>exact hb _ _ (vb _)
 |neq=>exact hb _ _ (vb _)
 |lss=>exact hb _ _ (vb _)
 |leq=>exact hb _ _ (vb _)
 |gtr=>exact hb _ _ (vb _)
 |geq=>exact hb _ _ (vb _)
 |shl=>
  show aZ4 k a b= .f∨ ∃x,aZ4 k a b= .v x;cases b with
  |ofNat n=>exact vi _ _
  |negSucc n=>exact .inl rfl
 |shr=>
  show aZ5 k a b= .f∨ ∃x,aZ5 k a b= .v x;cases b with
  |ofNat n=>exact vi _ _
  |negSucc n=>exact .inl rfl
theorem bF1(op:BinOp)(x y:X)(M:Mem)(t:T){k k':IntKind}{a b:Int}(hx:x.ev t= .i k a)(hy:y.ev t= .i k' b):lq (.bi op x y) F M t=oV (cB op (x.ev t) (y.ev t)):=by
 rw[←b06 (F:=F) op x y M t]
 refine fw ?_
 intro F' M'
 have e:∀F' M',cX (.bi op x y) F' M' t=fC op k a k' b:=by
  intro F' M';show At op x y F' M' t=_;unfold At;rw[hx];show(u3 (y.ev t) QR.f fun k' b=>fC op k a k' b)=_;rw[hy];rfl
 rw[e,e]
 exact jQ (aQ2 op k a k' b)
theorem bF4(i:Nat)(x:X)(M:Mem)(t:T):lq (.ex i x) F M t=oV (match x.ev t with| .t cs=>cs[i]?|_=>none):=by
 refine(fw ?_).trans (congrArg oV (bR3 (F:=F) i x M t))
 intro F' M'
 show ud i x F' M' t=oV (ud i x [] .e t).val
 unfold ud
 cases x.ev t with
 |t cs=>
  show qr (ph cs i)=oV (qr (ph cs i)).val;cases ph cs i<;>rfl
 |_=>rfl
theorem aS6(x:X)(M:Mem)(t:T){b o:Nat}{v:V}(hx:x.ev t= .p b o)(h:load1 F M b o=some v):lq (.ld1 x) F M t= .r v b:=by
 have hq:∀F' M',cX (.ld1 x) F' M' t=qrb b (load1 F' M' b o):=by
  intro F' M';show(sa (x.ev t) QR.f fun b o=>qrb b (load1 F' M' b o))=_;rw[hx];rfl
 unfold lq
 rw[hq,h]
 show S1 (.ld1 x) t b (look F M b)=_
 unfold load1 at h
 cases hl:look F M b with
 |none=>rw[hl]at h;cases h
 |some blk=>
  rw[hl]at h;show Ay b (cX (.ld1 x) [(b,blk)] .e t)=_;rw[hq];have h2:load1 [(b,blk)] .e b o=some v:=by
   unfold load1;have:look [(b,blk)] (.e:Mem) b=some blk:=by
    rw[aY (show(Tr.e:Mem).get b=none from rfl)];show Bool.rec (motive:=fun _=>Option bK) _ (some blk) (Nat.beq b b)=_;rw[bb,bU];simp
   rw[this];exact h
  rw[h2];rfl
theorem E6(M:Mem):bT M []=true:=Eq.trans rfl (Eq.refl _)
theorem yy(mask i b:Nat)(r:List (Nat×Nat))(h:testBit mask i=true)(F:RO)(M:Mem)(s:List (Nat×bK)):bQ mask ((i,b)::r) F M s=bQ mask r F M s:=by
 rw[bQ,h];rfl
def zI(mask:Nat):List (Nat×Nat)→Bool
 |[]=>true
 |(i,_)::r=>(mask/2^i%2==1)&&zI mask r
theorem Rz(mask:Nat):zI mask []=true:=Eq.trans rfl (Eq.refl _)
theorem w7(mask i b:Nat)(r:List (Nat×Nat)):zI mask ((i,b)::r)=((mask/2^i%2==1)&&zI mask r):=Eq.trans rfl (Eq.refl _)
theorem il{mask:Nat}:∀{reads:List (Nat×Nat)},zI mask reads=true→ ∀F M s,bQ mask reads F M s=Pr.mk F M s
 |[],_,F,M,s=>rfl
 |(i,b)::r,h,F,M,s=>by
  rw[w7,aV]at h;rw[yy mask i b r (by show Nat.beq (Nat.mod (Nat.div mask (Nat.pow 2 i)) 2) 1=true;rw[bU];exact ah (show mask/2^i%2=1 by simpa using h.1))];exact il h.2 F M s
def F2(o:RC)(F:RO)(p:Option aQ)(base:Nat)(r:List (Nat×Nat×CO))(k:Kn)(t:T)(reads:List (Nat×Nat))(R:DS→Prop):Prop:=match o with
 | .f=>False
 | .k v M c=>bT M F=true∧ly base r k (.mk (setT t p v) M c [] reads) R
theorem aG3(v:V)(M:Mem)(c:Nat)(F:RO)(p:Option aQ)(base:Nat)(r:List (Nat×Nat×CO))(k:Kn)(t:T)(reads:List (Nat×Nat))(R:DS→Prop):
 F2 (.k v M c) F p base r k t reads R=(bT M F=true∧ly base r k (.mk (setT t p v) M c [] reads) R):=Eq.trans rfl (Eq.refl _)
theorem j0(base i mask:Nat)(dst:Option aQ)(o:EO)(r:List (Nat×Nat×CO))(t:T)(M:Mem)(c:Nat)(reads:List (Nat×Nat))(R:DS→Prop)(hb:zI mask reads=true):
 ly base ((i,mask,.mk dst (.e o) none)::r) (K Φ rd fn F) (.mk t M c [] reads) R=F2 (fc o (K Φ rd fn F) M c t) F dst base r (K Φ rd fn F) t reads R:=by
 have hp:=il hb
 have he:rZ (K Φ rd fn F) base (i,mask,.mk dst (.e o) none) (.mk t M c [] reads)=nk F dst t [] reads [] (fc o (K Φ rd fn F) M c t):=by
  show qa o (K Φ rd fn F) dst t c [] reads (bQ mask reads F M [])=_;rw[hp];rfl
 apply propext
 rw[eS,he]
 cases hd:fc o (K Φ rd fn F) M c t with
 |f=>exact⟨fun⟨s',h,_⟩=>(by cases h),False.elim⟩
 |k v M' c'=>
  have h2:nk F dst t [] reads [] (.k v M' c')=if bT M' F=true then some (DS.mk (setT t dst v) M' c' [] reads)else none:=by
   show(bif bT M' F&&cC F M' []then(b8 [] M').force fun M=>(setT t dst v).force fun t=>some (DS.mk t M c' [] reads)else none)=_;cases bT M' F with
   |false=>rfl
   |true=>
    show((b8 [] M').force fun M=>(setT t dst v).force fun t=>some (DS.mk t M c' [] reads))=_;rw[Tr.force_eq,Tr.force_eq];rfl
  rw[h2,aG3];constructor
  ·rintro⟨s',h,q⟩;split at h
   ·rename_i hr;obtain rfl:=ag h;exact⟨hr,q⟩
   ·cases h
  ·rintro⟨hr,q⟩;exact⟨_,ac hr,q⟩
theorem dV(M:Mem)(b:Nat)(x:bK)(F:RO):bT M ((b,x)::F)=((M.get b).isNone&&bT M F):=by
 show(bif (M.get b).isNone then bT M F else false)=_
 cases(M.get b).isNone<;>rfl
theorem ak(M:Mem){b b':Nat}(x:bK)(h:b'≠b):(M.set b x).get b'=M.get b':=by rw[Tr.get_set,ab h]
theorem yp:(none:Option bK).isNone=true:=Eq.trans rfl (Eq.refl _)
def biQ(op:BinOp)(X Y:V)(F:RO)(M:Mem):QR:=lq (.bi op (.c X) (.c Y)) F M .e
theorem aS2(op:BinOp)(x y:X)(M:Mem)(t:T):lq (.bi op x y) F M t=biQ op (x.ev t) (y.ev t) F M:=Eq.trans rfl (Eq.refl _)
theorem bC8(op:BinOp)(k k':IntKind)(a b:Int)(M:Mem):biQ op (.i k a) (.i k' b) F M=oV (cB op (.i k a) (.i k' b)):=bF1 op _ _ M .e rfl rfl
def ldQ(X:V)(F:RO)(M:Mem):QR:=lq (.ld1 (.c X)) F M .e
def ldR(b:Nat):Option V→QR
 |some v=> .r v b
 |none=> .f
theorem SL(b:Nat)(v:V):ldR b (some v)= .r v b:=Eq.trans rfl (Eq.refl _)
theorem aS5(x:X)(M:Mem)(t:T):lq (.ld1 x) F M t=ldQ (x.ev t) F M:=Eq.trans rfl (Eq.refl _)
theorem bJ4(b o:Nat)(M:Mem):ldQ (.p b o) F M=ldR b (load1 F M b o):=by
 cases h:load1 F M b o with
 |some v=>exact aS6 _ M .e rfl h
 |none=>
  show Ht (.ld1 (.c (.p b o))) F M .e (qrb b (load1 F M b o))=_;rw[h];rfl
theorem aS3(sz:Nat)(x i:X)(M:Mem)(t:T):lq (.iaS sz x i) F M t=oV ((cX (.iaS sz x i) F M t).val):=by
 refine fw fun F' M'=>?_
 show pp sz x i F' M' t=oV (pp sz x i [] .e t).val
 have key:∀(b o n:Nat) (y:V),qy sz b o n y=oV (qy sz b o n y).val:=by
  intro b o n y;unfold qy;cases y with
  |i k m=>
   show yA sz b o n m=oV (yA sz b o n m).val;cases m with
   |ofNat m=>
    show(Bool.rec (motive:=fun _=>QR) .f (uX b (Nat.add o (Nat.mul m sz))) (Nat.blt m n))=oV (Bool.rec (motive:=fun _=>QR) .f (uX b (Nat.add o (Nat.mul m sz))) (Nat.blt m n):QR).val;cases Nat.blt m n with
    |true=>
     show uX b (Nat.add o (Nat.mul m sz))=oV (uX b (Nat.add o (Nat.mul m sz))).val;unfold uX;rw[bG];rfl
    |false=>rfl
   |negSucc m=>rfl
  |_=>rfl
 unfold pp
 cases x.ev t with
 |l b o n c=>exact key b o n _
 |u b o n e k=>exact key b o n _
 |_=>rfl
def pf(x:V):Option V:=(cX (.ln .slice (.c x)) [] .e .e).val
theorem bK0(M:Mem)(x:V):lnV .slice F M x=pf x:=Eq.trans rfl (Eq.refl _)
theorem Fv(b o n c:Nat):pf (.l b o n c)=some (.i .i64 (n:Int)):=Eq.trans rfl (Eq.refl _)
theorem Ah(b o n e k:Nat):pf (.u b o n e k)=some (.i .i64 (n:Int)):=Eq.trans rfl (Eq.refl _)
theorem o6:pf .l0=some (.i .i64 0):=Eq.trans rfl (Eq.refl _)
theorem SO(b o n:Nat):pf (.ue b o n)=some (.i .i64 0):=Eq.trans rfl (Eq.refl _)
def eV(sz:Nat)(x i:V):Option V:=(cX (.iaS sz (.c x) (.c i)) [] .e .e).val
theorem bR6(sz:Nat)(x i:X)(M:Mem)(t:T):(cX (.iaS sz x i) F M t).val=eV sz (x.ev t) (i.ev t):=Eq.trans rfl (Eq.refl _)
theorem aF5(sz b o n c i:Nat)(k:IntKind)(h:i<n):eV sz (.l b o n c) (.i k (i:Int))=some (.p b (o+i*sz)):=by
 show(yA sz b o n (Int.ofNat i)).val=_
 show(Bool.rec (motive:=fun _=>QR) .f (uX b (Nat.add o (Nat.mul i sz))) (Nat.blt i n)).val=_
 rw[bb,gk,ah h,ac rfl]
 unfold uX;rw[bG];rfl
theorem aF6(sz b o n e kn i:Nat)(k:IntKind)(h:i<n):eV sz (.u b o n e kn) (.i k (i:Int))=some (.p b (o+i*sz)):=by
 show(yA sz b o n (Int.ofNat i)).val=_
 show(Bool.rec (motive:=fun _=>QR) .f (uX b (Nat.add o (Nat.mul i sz))) (Nat.blt i n)).val=_
 rw[bb,gk,ah h,ac rfl]
 unfold uX;rw[bG];rfl
end
section
variable{Φ:Nat→Option CF}{rd:Option Nat}{fn:Nat}{F:RO}
def sV(l:List UInt8):V:= .s l.length (ce l)
def bV(c:UInt8):V:= .i .u8 (c.toNat:Int)
theorem TZ:ce []=0:=rfl
theorem n8(c:UInt8)(l:List UInt8):ce (c::l)=c.toNat+256*ce l:=rfl
theorem yK:∀l:List UInt8,ce l<256^l.length
 |[]=>by decide
 |c::l=>by
  have:=yK l;have hc:=UInt8.toNat_lt c;rw[n8,aA,Nat.pow_succ];omega
theorem rC(a b:List UInt8):ce (a++b)=ce a+256^a.length*ce b:=by
 induction a with
 |nil=>simp[TZ]
 |cons c a ih=>
  rw[List.cons_append,n8,n8,ih,aA,Nat.pow_succ,Nat.mul_add,←Nat.mul_assoc,Nat.mul_comm 256 (256^a.length)];omega
theorem Yg(l:List UInt8)(n x:Nat)(h:bl n x=l):x%256^n=ce l:=by
 have hn:l.length=n:=by rw[←h];exact iD n x
 have e:bl n x=bl n (ce l):=by rw[h];have:=kI l;rw[hn]at this;exact this.symm
 have:=RF n x (ce l) e
 rw[this]
 exact Nat.mod_eq_of_lt (by have:=yK l;rwa [hn]at this)
theorem wQ(l:List UInt8)(n:Nat)(h:n≤l.length):ce (l.take n)=ce l%256^n:=by
 symm
 refine Yg _ n _ ?_
 rw[←xZ n l.length (ce l) h,kI]
theorem wP(l:List UInt8)(n:Nat)(h:n≤l.length):ce (l.drop n)=ce l/256^n:=by
 have e:=rC (l.take n) (l.drop n)
 rw[List.take_append_drop,wQ l n h,List.length_take,Nat.min_eq_left h]at e
 have h0:0<256^n:=Nat.pow_pos (by decide)
 rw[e,Nat.add_mul_div_left _ _ h0,Nat.div_eq_of_lt (Nat.mod_lt _ h0),Nat.zero_add]
theorem TY(l:List UInt8)(i:Nat)(h:i<l.length):ce l/256^i%256=(l[i]).toNat:=by
 rw[←wP l i (by omega),bS h,n8]
 have:=UInt8.toNat_lt l[i]
 omega
theorem aV3(l:List UInt8)(M:Mem):lnV .str F M (sV l)=some (.i .i64 (l.length:Int)):=rfl
theorem qj(l:List UInt8)(k:IntKind)(i:Nat)(h:i<l.length):nn (sV l) (.i k (i:Int))=some (bV l[i]):=by
 show(oe l.length (ce l) i).val=_
 show(Bool.rec (motive:=fun _=>QR) QR.f (fN (Nat.mod (Nat.div (ce l) (md i)) 256) fun c=>QR.v (.i .u8 (.ofNat c))) (Nat.blt i l.length)).val=_
 rw[bb,gk,ac (by simpa using h),bG]
 show some (V.i .u8 (((ce l/256^i%256:Nat)):Int))=_
 rw[TY l i h];rfl
theorem sH(a b:List UInt8):jk a.length (ce a) b.length (ce b)=decide (a=b):=by
 rw[iF,kI,kI]
theorem cM(a b:List UInt8):cB .eql (sV a) (sV b)=some (.b (decide (a=b))):=by
 show(vB (jk a.length (ce a) b.length (ce b))).val=_
 rw[sH]
 cases decide (a=b)<;>rfl
theorem iL(a b:List UInt8):cB .neq (sV a) (sV b)=some (.b (!decide (a=b))):=by
 show(vB (!jk a.length (ce a) b.length (ce b))).val=_
 rw[sH]
 cases decide (a=b)<;>rfl
theorem Fm(lit:Bool)(M:Mem)(a b:List UInt8):Fl F M .str lit (sV a) (sV b)=some (decide (a=b)):=by
 show some (jk a.length (ce a) b.length (ce b))=_
 rw[sH]
theorem X6(lit:Bool)(M:Mem)(a b:List UInt8):zh F M .str lit (sV a) (sV b)=some (decide (a=b)):=Fm (F:=F) lit M a b
theorem fj(a b:List UInt8)(h:a.length+b.length≤1099511627776):cB .add (sV a) (sV b)=some (sV (a++b)):=by
 show(qK a.length (ce a) b.length (ce b)).val=_
 have e:qK a.length (ce a) b.length (ce b)=QR.v (sV (a++b)):=by
  unfold qK;rw[cG,show decide (Nat.add a.length b.length≤1099511627776)=true from ah h,cond_true];show(fN (a.length+b.length) fun n=>fN (ce a%256^a.length+256^a.length*ce b) fun x=>QR.v (.s n x))=_;rw[bG,bG,Nat.mod_eq_of_lt (yK a),←rC,←aH];rfl
 rw[e];rfl
def uq(x:V)(lo hi:Option V):Option V:=(cX (.slS (.c x) (lo.map .c) (hi.map .c)) [] .e .e).val
theorem Ao(tm:T)(d:Nat)(o:Option X):optN .e d ((o.map fun x=>x.ev tm).map .c)=optN tm d o:=by cases o<;>rfl
theorem aJ3(x:X)(lo hi:Option X)(M:Mem)(t:T):(cX (.slS x lo hi) F M t).val=uq (x.ev t) (lo.map fun x=>x.ev t) (hi.map fun x=>x.ev t):=by
 show(ug x lo hi F M t).val=(ug (.c (x.ev t)) _ _ [] .e .e).val
 unfold ug
 rw[Ao]
 show _=(wC (x.ev t) .f fun n s=>js n s (optN t 0 lo) (optN .e n ((hi.map fun x=>x.ev t).map .c))).val
 congr 2
 funext n s
 rw[Ao]
theorem aZ7(l:List UInt8)(i j:Nat)(hi:i≤j)(hj:j≤l.length):(js l.length (ce l) (some i) (some j)).val=some (sV ((l.take j).drop i)):=by
 have e:js l.length (ce l) (some i) (some j)=QR.v (sV ((l.take j).drop i)):=by
  show(Bool.rec (motive:=fun _=>QR) .f (Bool.rec (motive:=fun _=>QR) .f (vS (j-i) (ce l/256^i%256^(j-i))) (Nat.ble j l.length)) (Nat.ble i j))=_;rw[bb,bb,cG,cG,ac (by simpa using hi),ac (by simpa using hj)];show(fN (j-i) fun n=>fN (ce l/256^i%256^(j-i)) fun x=>QR.v (.s n x))=_;rw[bG,bG];have e1:(l.take j).drop i=(l.drop i).take (j-i):=by rw[List.drop_take]
  rw[e1];unfold sV;rw[wQ _ _ (by simp;omega),wP _ _ (by omega),List.length_take,bu,Nat.min_eq_left (by omega)]
 rw[e];rfl
theorem AN(l:List UInt8)(k:IntKind)(i:Nat)(hi:i≤l.length):uq (sV l) (some (.i k (i:Int))) none=some (sV (l.drop i)):=by
 have:=aZ7 l i l.length hi (by omega)
 rw[List.take_length]at this
 exact this
theorem TN(l:List UInt8)(k:IntKind)(j:Nat)(hj:j≤l.length):uq (sV l) none (some (.i k (j:Int)))=some (sV (l.take j)):=by
 have:=aZ7 l 0 j (by omega) hj
 rw[List.drop_zero]at this
 exact this
theorem Gf(l:List UInt8)(k k':IntKind)(i j:Nat)(hi:i≤j)(hj:j≤l.length):uq (sV l) (some (.i k (i:Int))) (some (.i k' (j:Int)))=some (sV ((l.take j).drop i)):=aZ7 l i j hi hj
theorem r8:∀l:List UInt8,dN l.length (ce l)=l.map bV
 |[]=>rfl
 |c::l=>by
  have hc:=UInt8.toNat_lt c;show(fN ((c.toNat+256*ce l)%256) fun d=>V.i .u8 (.ofNat d)::dN l.length ((c.toNat+256*ce l)/256))=_;rw[bG,show(c.toNat+256*ce l)%256=c.toNat by omega,show(c.toNat+256*ce l)/256=ce l by omega,r8 l];rfl
theorem tz:∀l:List UInt8,gm (l.map bV)=some (l.length,ce l)
 |[]=>rfl
 |c::l=>by
  have hc:=UInt8.toNat_lt c;rw[List.map_cons];show(match gm (l.map bV)with|some (n,x)=>some (Nat.succ n,Nat.add (Nat.mod c.toNat 256) (Nat.mul 256 x))|none=>none)=_;rw[tz l];show some (l.length+1,c.toNat%256+256*ce l)=_;rw[Nat.mod_eq_of_lt (by omega)];rfl
theorem ig:∀l:List UInt8,aK (l.map bV)=true
 |[]=>rfl
 |c::l=>by rw[List.map_cons,av,ig l];rfl
end
section
variable{Φ:Nat→Option CF}{rd:Option Nat}{fn:Nat}{F:RO}
def lD(o:RC)(P:V→Mem→Nat→Prop):Prop:=∃v M' c',o= .k v M' c'∧P v M' c'
theorem lD.mono{o:RC}{P P':V→Mem→Nat→Prop}(h:lD o P)(hp:∀v M' c',P v M' c'→P' v M' c'):lD o P':=by
 obtain⟨v,M',c',e,h⟩:=h
 exact⟨v,M',c',e,hp v M' c' h⟩
abbrev Calls(Φ:Nat→Option CF)(F:RO)(f:Nat)(args:List V)(M:Mem)(c:Nat)(P:V→Mem→Nat→Prop):Prop:=lD (dt (j5 Φ) F f args M c (Φ f)) P
theorem aN{f n:Nat}{res:List RV}{body:CC}{args:List V}{M:Mem}{c:Nat}{P:V→Mem→Nat→Prop}(hf:Φ f=some (.mk n res body))
 (h:Wp body (K Φ none f F) (.mk (bz n args) [] M c) (j6 F res P)):Calls Φ F f args M c P:=w9 hf h
theorem az{o:RC}{p:aQ}{r:List CO}{k:Kn}{t:T}{d:List Nat}{R:St→Prop}(h:lD o fun v M' c'=>oI r k (.mk (t.setP p v) d M' c') R):aN8 o p r k t d R:=by
 obtain⟨v,M',c',e,h⟩:=h
 rw[e];exact h
theorem eH{o:RC}{p:Option aQ}{base:Nat}{r:List (Nat×Nat×CO)}{k:Kn}{t:T}{reads:List (Nat×Nat)}{R:DS→Prop}
 (h:lD o fun v M' c'=>bT M' F=true∧ly base r k (.mk (setT t p v) M' c' [] reads) R):F2 o F p base r k t reads R:=by
 obtain⟨v,M',c',e,h⟩:=h
 rw[e];exact h
structure cR(F:RO)(M:Mem)(c:Nat):Prop where
 hiM:∀b,c≤b→M.get b=none
 hiF:∀b,c≤b→bF F b=none
 ap:∀b,(bF F b).isSome→M.get b=none
 ge:1000≤c
structure Gr(c:Nat)(M:Mem)(c':Nat)(M':Mem):Prop where
 le:c≤c'
 old:∀b,b<c→M'.get b=M.get b
 new:∀b,c'≤b→M'.get b=none
theorem qD(M:Mem):∀F:RO,(∀b,(bF F b).isSome→M.get b=none)→bT M F=true
 |[],_=>rfl
 |(b,x)::F,h=>by
  rw[dV,h b (by
   show(Bool.rec (motive:=fun _=>Option bK) (bF F b) (some x) (Nat.beq b b)).isSome=true;rw[Nat.beq_refl];rfl)]
  rw[qD M F fun b' hb'=>h b' (by
   show(Bool.rec (motive:=fun _=>Option bK) (bF F b') (some x) (Nat.beq b b')).isSome=true;cases Nat.beq b b' with
   |true=>rfl
   |false=>exact hb')]
  rfl
theorem cR.free{M:Mem}{c:Nat}(h:cR F M c):bT M F=true:=qD M F h.ap
theorem cR.look{M:Mem}{c:Nat}(h:cR F M c){b:Nat}(hb:c≤b):look F M b=none:=by
 rw[aY (h.hiM b hb),h.hiF b hb]
theorem Gr.refl{M:Mem}{c:Nat}(h:cR F M c):Gr c M c M:=⟨aj _,fun _ _=>rfl,h.hiM⟩
theorem Gr.trans{M M1 M2:Mem}{c c1 c2:Nat}(h:Gr c M c1 M1)(h2:Gr c1 M1 c2 M2):Gr c M c2 M2:=
 ⟨bm h.le h2.le,fun b hb=>(h2.old b (Nat.lt_of_lt_of_le hb h.le)).trans (h.old b hb),h2.new⟩
theorem Gr.ok{M M1:Mem}{c c1:Nat}(h:Gr c M c1 M1)(ho:cR F M c):cR F M1 c1:=by
 refine⟨h.new,fun b hb=>ho.hiF b (bm h.le hb),fun b hb=>?_,bm ho.ge h.le⟩
 have:b<c:=by
  by_cases hc:b<c
  ·exact hc
  ·rw[ho.hiF b (by omega)]at hb;cases hb
 rw[h.old b this];exact ho.ap b hb
theorem Gr.set{M M1:Mem}{c c1 c2:Nat}(h:Gr c M c1 M1)(b:Nat)(x:bK)(h1:c≤b)(h2:b<c2)(h3:c1≤c2):Gr c M c2 (M1.set b x):=by
 refine⟨bm h.le h3,fun b' hb'=>?_,fun b' hb'=>?_⟩
 ·rw[ak _ _ (by omega)];exact h.old b' hb'
 ·rw[ak _ _ (by omega)];exact h.new b' (by omega)
theorem Gr.del{M M1:Mem}{c c1:Nat}(h:Gr c M c1 M1)(b:Nat)(h1:c≤b):Gr c M c1 (M1.del b):=by
 refine⟨h.le,fun b' hb'=>?_,fun b' hb'=>?_⟩
 ·rw[Tr.get_del,ab (by omega)];exact h.old b' hb'
 ·rw[Tr.get_del];split
  ·rfl
  ·exact h.new b' hb'
theorem Gr.up{M M1:Mem}{c c1 c2:Nat}(h:Gr c M c1 M1)(h3:c1≤c2):Gr c M c2 M1:=
 ⟨bm h.le h3,h.old,fun b hb=>h.new b (by omega)⟩
theorem Gr.look{M M1:Mem}{c c1:Nat}(h:Gr c M c1 M1){b:Nat}(hb:b<c):look F M1 b=look F M b:=cF (h.old b hb)
theorem Gr.load1{M M1:Mem}{c c1:Nat}(h:Gr c M c1 M1){b:Nat}(hb:b<c)(o:Nat):load1 F M1 b o=load1 F M b o:=by
 unfold Ev.load1;rw[h.look hb]
theorem Gr.loadN{M M1:Mem}{c c1:Nat}(h:Gr c M c1 M1){b:Nat}(hb:b<c)(o n:Nat):loadN F M1 b o n=loadN F M b o n:=by
 unfold Ev.loadN;rw[h.look hb]
theorem ub{α:Type}(v:α):∀(t:Tr α) (k:Nat),t.get k=some v→t.put (some v) k=t
 | .e,k,h=>by cases h
 | .n l x r,k,h=>by
   rw[Tr.put_n];rw[Tr.get_n]at h;by_cases h0:k=0
   ·rw[ac h0]at h⊢;rw[h]
   ·rw[ab h0]at h⊢;by_cases h2:k%2=0
    ·rw[ac h2]at h⊢;rw[ub v r _ h]
    ·rw[ab h2]at h⊢;rw[ub v l _ h]
theorem cq{M:Mem}{b:Nat}{x:bK}(h:M.get b=some x):M=M.set b x:=(ub x M b h).symm
def iJ(F:RO)(M:Mem)(b:Nat)(row:List V):Prop:=∃ty ex fz str d c,look F M b=some (.cells ty row.length ex fz str d c)∧ ∀i,i<row.length→cell row.length d c i=row[i]?
theorem iJ.load1{M:Mem}{b:Nat}{row:List V}(h:iJ F M b row)(o:Nat):load1 F M b o=row[o]?:=by
 obtain⟨ty,ex,fz,str,d,c,hl,hc⟩:=h
 unfold Ev.load1
 rw[hl]
 show cell row.length d c o=_
 by_cases ho:o<row.length
 ·exact hc o ho
 ·rw[cH,ab ho,List.getElem?_eq_none (by omega)]
theorem tC{d:List V}{c:T}{row:List V}(hc:∀i,i<row.length→cell row.length d c i=row[i]?):∀(n i:Nat),i+n≤row.length→ek row.length d c n i=some ((row.drop i).take n)
 |0,i,h=>by rw[oT];simp
 |n+1,i,h=>by
  rw[ip,hc i (by omega),List.getElem?_eq_getElem (by omega)];show(match ek row.length d c n (i+1)with|none=>none|some r=>some (row[i]::r))=_;rw[tC hc n (i+1) (by omega)];simp only;rw[←List.getElem_cons_drop (by omega:i<row.length),List.take_succ_cons]
theorem iJ.loadN{M:Mem}{b:Nat}{row:List V}(h:iJ F M b row)(o n:Nat)(hn:o+n≤row.length):loadN F M b o n=some ((row.drop o).take n):=by
 obtain⟨ty,ex,fz,str,d,c,hl,hc⟩:=h
 unfold Ev.loadN
 rw[hl]
 exact tC hc n o hn
theorem iJ.grow{M M':Mem}{b c c':Nat}{row:List V}(h:iJ F M b row)(hg:Gr c M c' M')(hb:b<c):iJ F M' b row:=by
 obtain⟨ty,ex,fz,str,d,cs,hl,hc⟩:=h
 exact⟨ty,ex,fz,str,d,cs,by rw[hg.look hb];exact hl,hc⟩
theorem iJ.ne{M:Mem}{b b':Nat}{x:bK}{row:List V}(h:iJ F M b row)(hb:b≠b'):iJ F (M.set b' x) b row:=by
 obtain⟨ty,ex,fz,str,d,cs,hl,hc⟩:=h
 exact⟨ty,ex,fz,str,d,cs,by rw[lW M x hb];exact hl,hc⟩
theorem AE{M:Mem}{b ty fz:Nat}{ex str:Bool}{row:List V}(h:M.get b=some (.cells ty row.length ex fz str [] (iB row))):iJ F M b row:=
 ⟨ty,ex,fz,str,[],iB row,ax h,fun i hi=>tB row i⟩
def dh(F:RO)(M:Mem)(b o:Nat)(row:List V):Prop:=∀k,k<row.length→load1 F M b (o+k)=row[k]?
theorem iJ.cells{M:Mem}{b:Nat}{row:List V}(h:iJ F M b row):dh F M b 0 row:=fun k _=>by rw[Nat.zero_add];exact h.load1 k
theorem dh.grow{M M':Mem}{b o c c':Nat}{row:List V}(h:dh F M b o row)(hg:Gr c M c' M')(hb:b<c):dh F M' b o row:=fun k hk=>by rw[hg.load1 hb];exact h k hk
theorem dh.sub{M:Mem}{b o:Nat}{row:List V}(h:dh F M b o row)(i n:Nat)(hn:i+n≤row.length):dh F M b (o+i) ((row.drop i).take n):=fun k hk=>by
 simp only[List.length_take,bu]at hk
 rw[Nat.add_assoc,h (i+k) (by omega),List.getElem?_take,ac (by omega),List.getElem?_drop]
theorem DE{M:Mem}{b o:Nat}{v:V}(h:Ev.load1 F M b o=some v):∃ty n ex fz str d c,look F M b=some (.cells ty n ex fz str d c)∧cell n d c o=some v:=by
 unfold Ev.load1 at h
 cases hl:look F M b with
 |none=>rw[hl]at h;cases h
 |some x=>
  rw[hl]at h;cases x with
  |cells ty n ex fz str d c=>exact⟨ty,n,ex,fz,str,d,c,rfl,h⟩
  |_=>cases h
theorem dh.load{M:Mem}{b o:Nat}{row:List V}(h:dh F M b o row)(hr:row≠[]):loadN F M b o row.length=some row:=by
 cases row with
 |nil=>exact absurd rfl hr
 |cons v r=>
  have h0:=h 0 (by simp);simp only[aB,List.getElem?_cons_zero]at h0;obtain⟨ty,n,ex,fz,str,d,c,hl,_⟩:=DE h0;have key:∀(l:List V) (o:Nat),(∀k,k<l.length→Ev.load1 F M b (o+k)=l[k]?)→ek n d c l.length o=some l:=by
   intro l
   induction l with
   |nil=>intro o _;rfl
   |cons x l ih=>
    intro o hx;have e0:=hx 0 (by simp);simp only[aB,List.getElem?_cons_zero]at e0;unfold Ev.load1 at e0;rw[hl]at e0;have e0':cell n d c o=some x:=e0;rw[aA,ip,e0'];show(match ek n d c l.length (o+1)with|none=>none|some r=>some (x::r))=_
    rw[ih (o+1) fun k hk=>by
     have:=hx (k+1) (by simpa using hk);rw[List.getElem?_cons_succ]at this;rw[←this];congr 1;omega]
  unfold Ev.loadN;rw[hl];exact key (v::r) o h
theorem dh.loadN{M:Mem}{b o:Nat}{row:List V}(h:dh F M b o row)(i n:Nat)(hn:i+n≤row.length)(h0:0<n):loadN F M b (o+i) n=some ((row.drop i).take n):=by
 have hs:=h.sub i n hn
 have hl:((row.drop i).take n).length=n:=by simp;omega
 have:=hs.load (by intro e;rw[e]at hl;simp at hl;omega)
 rwa [hl]at this
theorem fe:∀{es:List (List V)} {sz:Nat},(∀e∈es,e.length=sz)→es.flatten.length=es.length*sz
 |[],sz,_=>by simp
 |e::es,sz,h=>by
  rw[List.flatten_cons,aH,fe fun x hx=>h x (bJ _ hx),h e (bX ..),aA,Nat.add_mul];omega
theorem A9:∀{es:List (List V)} {sz:Nat},(∀e∈es,e.length=sz)→ ∀(i:Nat) (h:i<es.length),(es.flatten.drop (i*sz)).take sz=es[i]
 |[],sz,_,i,h=>by cases h
 |e::es,sz,h,0,_=>by
  rw[List.flatten_cons,Nat.zero_mul,List.drop_zero,List.take_append_of_le_length (by rw[h e (bX ..)];exact aj _),List.getElem_cons_zero,←h e (bX ..),List.take_length]
 |e::es,sz,h,i+1,hi=>by
  have he:=h e (bX ..);rw[List.flatten_cons,List.getElem_cons_succ,Nat.add_mul,Nat.one_mul,Nat.add_comm,List.drop_append,he,List.drop_eq_nil_of_le (by omega),List.nil_append,Nat.add_sub_cancel_left];exact A9 (fun x hx=>h x (bJ _ hx)) i (by simpa using hi)
def cE(F:RO)(M:Mem)(c sz:Nat)(v:V)(es:List (List V)):Prop:=
 (∀e∈es,e.length=sz)∧((es=[]∧(v= .l0∨ ∃b o0 o,v= .ue b o0 o))∨
  ∃b o,((∃cap,es.length≤cap∧v= .l b o es.length cap)∨(∃el kn,el+es.length≤kn∧v= .u b o es.length el kn))∧b<c∧dh F M b o es.flatten)
theorem cE.len{M:Mem}{c sz:Nat}{v:V}{es:List (List V)}(h:cE F M c sz v es):pf v=some (.i .i64 (es.length:Int)):=by
 rcases h with⟨_,⟨rfl,h|⟨b,o0,o,h⟩⟩|⟨b,o,⟨cap,_,h⟩|⟨el,kn,_,h⟩,_⟩⟩
 ·rw[h];exact o6
 ·rw[h];exact SO _ _ _
 ·rw[h];exact Fv _ _ _ _
 ·rw[h];exact Ah _ _ _ _ _
theorem cE.grow{M M':Mem}{c c' sz:Nat}{v:V}{es:List (List V)}(h:cE F M c sz v es)(hg:Gr c M c' M'):cE F M' c' sz v es:=by
 rcases h with⟨h0,h|⟨b,o,hv,hb,hr⟩⟩
 ·exact⟨h0,.inl h⟩
 ·exact⟨h0,.inr ⟨b,o,hv,Nat.lt_of_lt_of_le hb hg.le,hr.grow hg hb⟩⟩
theorem cE.at{M:Mem}{c sz:Nat}{v:V}{es:List (List V)}(h:cE F M c sz v es)(i:Nat)(hi:i<es.length):
 ∃b o,b<c∧(∀k,eV sz v (.i k (i:Int))=some (.p b o))∧dh F M b o es[i]:=by
 rcases h with⟨h0,⟨rfl,_⟩|⟨b,o,hv,hb,hr⟩⟩
 ·cases hi
 ·have hle:i*sz+sz≤es.flatten.length:=by
   have:(i+1)*sz≤es.length*sz:=Nat.mul_le_mul_right _ hi;rw[Nat.add_mul,Nat.one_mul]at this;rw[fe h0];exact this
  refine⟨b,o+i*sz,hb,fun k=>?_,?_⟩
  ·rcases hv with⟨cap,_,rfl⟩|⟨el,kn,_,rfl⟩
   ·exact aF5 _ _ _ _ _ _ _ hi
   ·exact aF6 _ _ _ _ _ _ _ _ hi
  ·have:=hr.sub (i*sz) sz hle
   rwa [A9 h0 i hi]at this
theorem cE.one{M:Mem}{c:Nat}{v:V}{es:List (List V)}(h:cE F M c 1 v es)(i:Nat)(hi:i<es.length){x:V}(hx:es[i]=[x]):
 ∃b o,b<c∧(∀k,eV 1 v (.i k (i:Int))=some (.p b o))∧load1 F M b o=some x:=by
 obtain⟨b,o,h1,h2,h3⟩:=h.at i hi
 refine⟨b,o,h1,h2,?_⟩
 have:=h3 0 (by rw[hx];simp)
 rw[aB,hx]at this
 exact this
theorem cR.set{M:Mem}{c c':Nat}(h:cR F M c)(b:Nat)(x:bK)(h1:c≤b)(h2:b<c'):cR F (M.set b x) c':=by
 refine⟨fun b' hb'=>?_,fun b' hb'=>h.hiF b' (by omega),fun b' hb'=>?_,by have:=h.ge;omega⟩
 ·rw[ak _ _ (by omega)];exact h.hiM b' (by omega)
 ·have:b'≠b:=by
   intro e;subst e;rw[h.hiF b' h1]at hb';cases hb'
  rw[ak _ _ this];exact h.ap b' hb'
abbrev SlB(F:RO)(M:Mem)(c:Nat)(v:V)(l:List UInt8):Prop:=cE F M c 1 v (l.map fun x=>[bV x])
theorem SlB.get{M:Mem}{c:Nat}{v:V}{l:List UInt8}(h:SlB F M c v l)(i:Nat)(hi:i<l.length):
 ∃b o,b<c∧(∀k,eV 1 v (.i k (i:Int))=some (.p b o))∧load1 F M b o=some (.i .u8 (l[i].toNat:Int)):=
 cE.one h i (by simpa using hi) (by simp[bV])
theorem SlB.len{M:Mem}{c:Nat}{v:V}{l:List UInt8}(h:SlB F M c v l):pf v=some (.i .i64 (l.length:Int)):=by
 have:=cE.len h
 rwa [List.length_map]at this
theorem lV{M M':Mem}{b:Nat}(h:M'.get b=M.get b)(o:Nat):load1 F M' b o=load1 F M b o:=by
 unfold Ev.load1;rw[cF h]
theorem am(M:Mem)(b:Nat)(x:bK):(M.set b x).get b=some x:=by rw[Tr.get_set,ac rfl]
end
section
variable{Φ:Nat→Option CF}{rd:Option Nat}{fn:Nat}{F:RO}
theorem Fu{M:Mem}{c sz:Nat}{v:V}{es:List (List V)}(h:cE F M c sz v es):p9 v=some es.length:=by
 rcases h with⟨_,⟨rfl,rfl|⟨b,o0,o,rfl⟩⟩|⟨b,o,⟨cap,_,rfl⟩|⟨el,kn,_,rfl⟩,_⟩⟩<;>rfl
theorem ml{M:Mem}{sz b o:Nat}{es:List (List V)}(hsz:0<sz)(h0:∀e∈es,e.length=sz)(h:dh F M b o es.flatten):∃r,readB F M sz es.length b o=some (es.flatten,r):=by
 unfold readB
 rw[bU]
 cases es with
 |nil=>exact⟨none,rfl⟩
 |cons e es=>
  have hl:=fe h0;have hne:(e::es).flatten≠[]:=by
   intro h;rw[h]at hl;simp only[aM,aA,Nat.add_mul]at hl;omega
  have:=h.load hne;rw[hl]at this;rw[af (by simp),cond_false];show∃r,(match loadN F M b o ((e::es).length*sz)with|some vs=>some (vs,some b)|none=>none)=_;rw[this];exact⟨some b,rfl⟩
theorem AA{M:Mem}{c sz:Nat}{v:V}{es:List (List V)}(hsz:0<sz)(h:cE F M c sz v es):∃r,readL F M sz es.length v=some (es.flatten,r):=by
 rcases h with⟨h0,⟨rfl,rfl|⟨b,o0,o,rfl⟩⟩|⟨b,o,⟨cap,_,rfl⟩|⟨el,kn,_,rfl⟩,_,hc⟩⟩
 ·exact⟨none,rfl⟩
 ·exact⟨none,rfl⟩
 ·exact ml hsz h0 hc
 ·exact ml hsz h0 hc
theorem AP{M:Mem}{c sz:Nat}{v:V}{es:List (List V)}(hsz:0<sz)(h:cE F M c sz v es):fh F M sz v=some (es.length,es.flatten):=by
 have hl:=Fu h
 obtain⟨r,hr⟩:=AA hsz h
 have hs:∀n x,v≠ .s n x:=by
  intro n x e;rcases h with⟨_,⟨rfl,h|⟨b,o0,o,h⟩⟩|⟨b,o,⟨cap,_,h⟩|⟨el,kn,_,h⟩,_⟩⟩<;>(rw[e]at h;cases h)
 have e:fh F M sz v=match p9 v with|some n=>Yc n (readL F M sz n v)|none=>none:=by
  cases v<;>first|rfl|exact absurd rfl (hs _ _)
 rw[e,hl]
 show Yc es.length (readL F M sz es.length v)=_
 rw[hr];rfl
theorem Gh{M:Mem}(l:List UInt8):fh F M 1 (sV l)=some (l.length,l.map bV):=by
 show(bif Nat.beq 1 1 then some (l.length,dN l.length (ce l))else none)=_
 rw[r8];rfl
def pC(ty:Nat)(row:List V):bK:= .cells ty row.length false 0 false [] (iB row)
def aX(M:Mem)(c0 c b ty sz:Nat)(v:V)(es:List (List V)):Prop:=
 (∀e∈es,e.length=sz)∧((es=[]∧v= .l0)∨(c0≤b∧b<c∧v= .u b 0 es.length 0 es.length∧M.get b=some (pC ty es.flatten)))
theorem aX.nil{M:Mem}{c0 c b ty sz:Nat}:aX M c0 c b ty sz .l0 []:=⟨fun e he=>(by cases he),.inl ⟨rfl,rfl⟩⟩
theorem G5{M:Mem}{b ty:Nat}{row:List V}(h:M.get b=some (pC ty row)):iJ F M b row:=AE h
theorem aX.sl{M:Mem}{c0 c b ty sz:Nat}{v:V}{es:List (List V)}(h:aX M c0 c b ty sz v es):cE F M c sz v es:=by
 rcases h with⟨h0,⟨rfl,rfl⟩|⟨h1,h2,rfl,h3⟩⟩
 ·exact⟨h0,.inl ⟨rfl,.inl rfl⟩⟩
 ·exact⟨h0,.inr ⟨b,0,.inr ⟨0,es.length,by omega,rfl⟩,h2,(G5 h3).cells⟩⟩
theorem aX.up{M M':Mem}{c0 c c' b ty sz:Nat}{v:V}{es:List (List V)}(h:aX M c0 c b ty sz v es)(hc:c≤c')(hb:b<c→M'.get b=M.get b):aX M' c0 c' b ty sz v es:=by
 rcases h with⟨h0,h|⟨h1,h2,rfl,h3⟩⟩
 ·exact⟨h0,.inl h⟩
 ·exact⟨h0,.inr ⟨h1,by omega,rfl,by rw[hb h2];exact h3⟩⟩
theorem aX.gr{M M':Mem}{c0 c c' b ty sz:Nat}{v:V}{es:List (List V)}(h:aX M c0 c b ty sz v es)(hg:Gr c M c' M'):aX M' c0 c' b ty sz v es:=h.up hg.le fun hb=>hg.old b hb
theorem eP{n bytes:Nat}(h:(3*n+2000)*bytes≤281474976710656)(h1:n≤1099511627776):mo n bytes=true:=by
 unfold mo
 rw[cG,cG]
 have a:decide (Nat.mul (Nat.add (Nat.mul 3 n) 2000) bytes≤281474976710656)=true:=ah h
 rw[a,ah h1];rfl
theorem p6(M:Mem)(c ty bytes len:Nat)(vs:List V)(h:mo len bytes=true):i7 M c ty bytes len 0 false vs= .k (.u c 0 len 0 len) (M.set c (pC ty vs)) (c+1):=by
 unfold i7
 rw[h]
 show(M.set c (.cells ty vs.length false 0 false [] (bP vs 0 .e))).force (fun M=>fN (Nat.succ c) fun c'=>fN len fun len=>RC.k (.u c 0 len 0 len) M c')=_
 rw[Tr.force_eq,bG,bG];rfl
theorem F7{M:Mem}{c ty sz bytes n:Nat}{new:List V}(h:n≠0):app F M c ty sz bytes .l0 n new=i7 M c ty bytes n 0 false new:=by
 unfold app
 rw[bU,af h,cond_false]
theorem C7{M:Mem}{c ty sz bytes b o len el kn n:Nat}{new:List V}(h:n≠0):app F M c ty sz bytes (.u b o len el kn) n new=nB F M c ty sz bytes b o len el kn n new:=by
 unfold app
 rw[bU,af h,cond_false]
theorem JC{M0 M:Mem}{c0 c b ty sz bytes:Nat}{v:V}{es ns:List (List V)}(h:aX M c0 c b ty sz v es)(hg:Gr c0 M0 c M)(hsz:0<sz)(hn:∀e∈ns,e.length=sz)(h1:aK ns.flatten=true)(hr:mo (es.length+ns.length) bytes=true):
 lD (nW F M c ty sz bytes v (some (ns.length,ns.flatten))) fun v' M' c'=>∃b',aX M' c0 c' b' ty sz v' (es++ns)∧Gr c0 M0 c' M'∧c≤c'∧(∀x,x<c→x≠b→M'.get x=M.get x)∧(b'=b∨c≤b'):=by
 have hnl:=fe hn
 have e1:nW F M c ty sz bytes v (some (ns.length,ns.flatten))=app F M c ty sz bytes v ns.length ns.flatten:=by
  show(bif aK ns.flatten&&Nat.beq ns.flatten.length (Nat.mul ns.length sz)then _ else _)=_;rw[h1,bU,ah (show ns.flatten.length=Nat.mul ns.length sz from hnl)];rfl
 rw[e1]
 have hall:∀e∈es++ns,e.length=sz:=by
  intro e he;rcases List.mem_append.1 he with he|he
  ·exact h.1 e he
  ·exact hn e he
 by_cases hz:ns=[]
 ·subst hz;have e2:app F M c ty sz bytes v 0 []= .k v M c:=by
   show(bif Nat.beq 0 0 then(bif ww v then RC.k v M c else .f)else _)=_;have:ww v=true:=by
    rcases h with⟨_,⟨_,rfl⟩|⟨_,_,rfl,_⟩⟩
    ·rfl
    ·show Nat.ble es.length (Nat.sub es.length 0)=true;rw[cG];exact ah (aj _)
   rw[this];rfl
  exact⟨v,M,c,e2,b,by rw[bH];exact h,hg,aj _,fun _ _ _=>rfl,.inl rfl⟩
 ·have hn0:ns.length≠0:=fun e=>hz (List.length_eq_zero_iff.1 e);rcases h with⟨h0,⟨rfl,rfl⟩|⟨ha,hb,rfl,hM⟩⟩
  ·rw[aM,Nat.zero_add]at hr;refine⟨_,_,_,(F7 hn0).trans (p6 M c ty bytes ns.length ns.flatten hr),c,⟨hall,.inr ⟨hg.le,by omega,rfl,?_⟩⟩,hg.set c _ hg.le (by omega) (by omega),by omega,fun x hx _=>ak _ _ (by omega),.inr (aj _)⟩;rw[Tr.get_set,ac rfl];rfl
  ·have hel:=fe h0;obtain⟨r,hrd⟩:=ml hsz h0 (G5 (F:=F) hM).cells;have hmw:fU M b ty (Nat.add 0 (Nat.mul es.length sz)) (Nat.add 0 (Nat.mul (Nat.sub es.length 0) sz))=some (0,false):=by
    unfold fU;rw[hM];show(bif Nat.beq ty ty&&Nat.beq es.flatten.length (0+(es.length-0)*sz)&&Nat.ble 0 (0+es.length*sz)&&Nat.ble (0+es.length*sz) (0+(es.length-0)*sz)then some (0,false)else none)=_;rw[bU,bU,cG,cG,ah (show ty=ty from rfl),ah (show es.flatten.length=0+(es.length-0)*sz by rw[hel];simp),ah (aD _),ah (show 0+es.length*sz≤0+(es.length-0)*sz by simp)];rfl
   have e3:nB F M c ty sz bytes b 0 es.length 0 es.length ns.length ns.flatten=i7 (M.del b) c ty bytes (es.length+ns.length) 0 false (es.flatten++ns.flatten):=by
    unfold nB;rw[cG,af (show¬Nat.add (Nat.add 0 es.length) ns.length≤es.length by show¬0+es.length+ns.length≤es.length;omega),cond_false,hmw];show qh (M.del b) c ty bytes (es.length+ns.length) 0 false ns.flatten (readB F M sz es.length b 0)=_;rw[hrd];rfl
   refine⟨_,_,_,((C7 hn0).trans e3).trans (p6 _ c ty bytes _ _ hr),c,⟨hall,.inr ⟨by omega,by omega,by rw[aH],?_⟩⟩,(hg.del b ha).set c _ (by omega) (by omega) (by omega),by omega,fun x hx hxb=>?_,.inr (aj _)⟩
   ·rw[Tr.get_set,ac rfl,List.flatten_append]
   ·rw[ak _ _ (by omega),Tr.get_del,ab hxb]
def vu(sz:Nat)(x:V)(lo hi mx:Option V):Option V:=(cX (.slL sz (.c x) (lo.map .c) (hi.map .c) (mx.map .c)) [] .e .e).val
theorem qp(tm:T)(o:Option X):optNN .e ((o.map fun x=>x.ev tm).map .c)=optNN tm o:=by cases o<;>rfl
theorem aJ2(sz:Nat)(x:X)(lo hi mx:Option X)(M:Mem)(t:T):(cX (.slL sz x lo hi mx) F M t).val=vu sz (x.ev t) (lo.map fun x=>x.ev t) (hi.map fun x=>x.ev t) (mx.map fun x=>x.ev t):=by
 show(qz sz (x.ev t) (optNN t lo) (optNN t hi) (optNN t mx)).val=(qz sz (x.ev t) (optNN .e _) (optNN .e _) (optNN .e _)).val
 rw[qp,qp,qp]
theorem SU(b o n c:Nat):mkL b o n c= .v (.l b o n c):=by unfold mkL;rw[bG,bG,bG]
theorem yr(b o n el kn:Nat):mkU b o n el kn= .v (.u b o n el kn):=by unfold mkU;rw[bG,bG,bG]
theorem Sq{es:List (List V)}{sz lo hi:Nat}(h0:∀e∈es,e.length=sz)(h1:lo≤hi)(h2:hi≤es.length):((es.take hi).drop lo).flatten=(es.flatten.drop (lo*sz)).take ((hi-lo)*sz):=by
 have key:∀(es:List (List V)) (k:Nat),(∀e∈es,e.length=sz)→(es.take k).flatten=es.flatten.take (k*sz)∧(es.drop k).flatten=es.flatten.drop (k*sz):=by
  intro es
  induction es with
  |nil=>intro k _;simp
  |cons e es ih=>
   intro k h;cases k with
   |zero=>simp
   |succ k=>
    obtain⟨a,b⟩:=ih k fun x hx=>h x (bJ _ hx);have he:=h e (bX ..);constructor
    ·rw[List.take_succ_cons,List.flatten_cons,List.flatten_cons,a,show(k+1)*sz=e.length+k*sz by rw[Nat.add_mul,he];omega,List.take_length_add_append]
    ·rw[List.drop_succ_cons,List.flatten_cons,b,show(k+1)*sz=e.length+k*sz by rw[Nat.add_mul,he];omega,List.drop_length_add_append]
 have ht:∀e∈es.take hi,e.length=sz:=fun e he=>h0 e (List.mem_of_mem_take he)
 rw[(key (es.take hi) lo ht).2,(key es hi h0).1,List.drop_take,Nat.sub_mul]
theorem TL{M:Mem}{c sz:Nat}{v:V}{es:List (List V)}{lo hi:Nat}(h:cE F M c sz v es)(h1:lo≤hi)(h2:hi≤es.length):
 ∃v',(sj sz v (some lo) (some hi) none= .v v'∧(lo=0→sj sz v none (some hi) none= .v v')∧(hi=es.length→sj sz v (some lo) none none= .v v')∧(lo=0→hi=es.length→sj sz v none none none= .v v'))∧cE F M c sz v' ((es.take hi).drop lo):=by
 have hs:∀e∈(es.take hi).drop lo,e.length=sz:=fun e he=>h.1 e (List.mem_of_mem_take (List.mem_of_mem_drop he))
 have hl:((es.take hi).drop lo).length=hi-lo:=by simp;omega
 rcases h with⟨h0,⟨rfl,rfl|⟨b,o0,o,rfl⟩⟩|⟨b,o,hv,hb,hc⟩⟩
 ·obtain rfl:hi=0:=by simpa using h2
  obtain rfl:lo=0:=by omega
  exact⟨.l0,⟨rfl,fun _=>rfl,fun _=>rfl,fun _ _=>rfl⟩,hs,.inl ⟨rfl,.inl rfl⟩⟩
 ·obtain rfl:hi=0:=by simpa using h2
  obtain rfl:lo=0:=by omega
  exact⟨.ue b o0 o,⟨rfl,fun _=>rfl,fun _=>rfl,fun _ _=>rfl⟩,hs,.inl ⟨rfl,.inr ⟨b,o0,o,rfl⟩⟩⟩
 ·have hfl:=fe h0;have hcs:dh F M b (o+lo*sz) ((es.take hi).drop lo).flatten:=by
   rw[Sq h0 h1 h2];refine hc.sub _ _ ?_;rw[hfl,←Nat.add_mul];exact Nat.mul_le_mul_right _ (by omega)
  rcases hv with⟨cap,hcap,rfl⟩|⟨el,kn,hkn,rfl⟩
  ·have e:wN sz b o cap lo hi cap= .v (.l b (if cap=lo then o else o+lo*sz) (hi-lo) (cap-lo)):=by
    unfold wN;rw[cG,cG,cG,bU,ah (aj cap),ah (show hi≤cap by omega),ah h1];show mkL b (bif decide (cap=lo)then o else o+lo*sz) (hi-lo) (cap-lo)=_;rw[SU];by_cases hh:cap=lo
    ·rw[ah hh,ac hh];rfl
    ·rw[af hh,ab hh];rfl
   refine⟨_,⟨e,fun hh=>?_,fun hh=>?_,fun hh hh2=>?_⟩,hs,.inr ⟨b,if cap=lo then o else o+lo*sz,.inl ⟨cap-lo,by rw[hl];omega,by rw[hl]⟩,hb,?_⟩⟩
   ·subst hh;exact e
   ·subst hh;exact e
   ·subst hh hh2;exact e
   ·by_cases hh:cap=lo
    ·rw[ac hh];have:(es.take hi).drop lo=[]:=List.eq_nil_of_length_eq_zero (by omega);rw[this];intro k hk;simp at hk
    ·rw[ab hh];exact hcs
  ·by_cases hz:lo=0
   ·subst hz;have e:nL sz b o el kn 0 hi= .v (.u b o hi el kn):=by
     unfold nL;rw[cG,cG,ah (show Nat.add el hi≤kn by show el+hi≤kn;omega),ah (aD hi)];exact yr _ _ _ _ _
    refine⟨_,⟨e,fun _=>e,fun hh=>?_,fun _ hh=>?_⟩,hs,.inr ⟨b,o,.inr ⟨el,kn,by rw[hl];omega,by rw[hl];rfl⟩,hb,by simpa using hcs⟩⟩
    ·subst hh;exact e
    ·subst hh;exact e
   ·by_cases hh:el+lo<kn
    ·have e:nL sz b o el kn lo hi= .v (.u b (o+lo*sz) (hi-lo) (el+lo) kn):=by
      unfold nL;rw[cG,cG,bU,gk,ah (show Nat.add el hi≤kn by show el+hi≤kn;omega),ah h1,af hz,ah (show Nat.add el lo<kn from hh)];exact yr _ _ _ _ _
     refine⟨_,⟨e,fun h=>absurd h hz,fun hh=>?_,fun h _=>absurd h hz⟩,hs,.inr ⟨b,o+lo*sz,.inr ⟨el+lo,kn,by rw[hl];omega,by rw[hl]⟩,hb,hcs⟩⟩;subst hh;exact e
    ·have e:nL sz b o el kn lo hi= .v (.ue b o (o+lo*sz)):=by
      unfold nL;rw[cG,cG,bU,gk,ah (show Nat.add el hi≤kn by show el+hi≤kn;omega),ah h1,af hz,af (show¬Nat.add el lo<kn from hh)];show fN (o+lo*sz) (fun o'=>QR.v (.ue b o o'))=_;rw[bG]
     have hnil:(es.take hi).drop lo=[]:=List.eq_nil_of_length_eq_zero (by omega);refine⟨_,⟨e,fun h=>absurd h hz,fun hh=>?_,fun h _=>absurd h hz⟩,hs,.inl ⟨hnil,.inr ⟨b,o,_,rfl⟩⟩⟩;subst hh;exact e
theorem Ya{M:Mem}{c sz:Nat}{v:V}{es:List (List V)}{lo hi:Nat}(h:cE F M c sz v es)(h1:lo≤hi)(h2:hi≤es.length):
 ∃v',(∀k k',vu sz v (some (.i k (lo:Int))) (some (.i k' (hi:Int))) none=some v')∧(lo=0→ ∀k',vu sz v none (some (.i k' (hi:Int))) none=some v')∧(hi=es.length→ ∀k,vu sz v (some (.i k (lo:Int))) none none=some v')∧(lo=0→hi=es.length→vu sz v none none none=some v')∧cE F M c sz v' ((es.take hi).drop lo):=by
 obtain⟨v',⟨e1,e2,e3,e4⟩,hs⟩:=TL h h1 h2
 refine⟨v',fun k k'=>?_,fun h0 k'=>?_,fun h0 k=>?_,fun h0 h0'=>?_,hs⟩
 ·show(sj sz v (some lo) (some hi) none).val=_;rw[e1];rfl
 ·show(sj sz v none (some hi) none).val=_;rw[e2 h0];rfl
 ·show(sj sz v (some lo) none none).val=_;rw[e3 h0];rfl
 ·show(sj sz v none none none).val=_;rw[e4 h0 h0'];rfl
def rU(F:RO)(M:Mem)(c ty sz bytes:Nat)(x y:V):RC:=nW F M c ty sz bytes x (fh F M sz y)
theorem Vp(ty sz bytes:Nat)(x y:X)(M:Mem)(c:Nat)(t:T):fc (.app ty sz bytes x y) (K Φ rd fn F) M c t=rU F M c ty sz bytes (x.ev t) (y.ev t):=rfl
theorem fO{M0 M:Mem}{c0 c b ty sz bytes:Nat}{v y:V}{es ns:List (List V)}(h:aX M c0 c b ty sz v es)(hg:Gr c0 M0 c M)(hsz:0<sz)(hy:cE F M c sz y ns)(h1:aK ns.flatten=true)(hr:mo (es.length+ns.length) bytes=true):
 lD (rU F M c ty sz bytes v y) fun v' M' c'=>∃b',aX M' c0 c' b' ty sz v' (es++ns)∧Gr c0 M0 c' M'∧c≤c'∧(∀x,x<c→x≠b→M'.get x=M.get x)∧(b'=b∨c≤b'):=by
 unfold rU
 rw[AP hsz hy]
 exact JC h hg hsz hy.1 h1 hr
theorem iP(l:List UInt8):(l.map fun x=>[bV x]).flatten=l.map bV:=by
 induction l with
 |nil=>rfl
 |cons a l ih=>rw[List.map_cons,List.flatten_cons,ih];rfl
theorem Hc(l:List UInt8):aK (l.map fun x=>[bV x]).flatten=true:=by rw[iP];exact ig l
theorem JB{M0 M:Mem}{c0 c b ty bytes:Nat}{v:V}{l:List UInt8}{es:List (List V)}(h:aX M c0 c b ty 1 v es)(hg:Gr c0 M0 c M)(hr:mo (es.length+l.length) bytes=true):
 lD (rU F M c ty 1 bytes v (sV l)) fun v' M' c'=>∃b',aX M' c0 c' b' ty 1 v' (es++l.map fun x=>[bV x])∧Gr c0 M0 c' M'∧c≤c'∧(∀x,x<c→x≠b→M'.get x=M.get x)∧(b'=b∨c≤b'):=by
 unfold rU
 rw[Gh]
 have:=JC (F:=F) (bytes:=bytes) (ns:=l.map fun x=>[bV x]) h hg Nat.one_pos (by intro e he;obtain⟨x,_,rfl⟩:=List.mem_map.1 he;rfl)
  (Hc l) (by rw[List.length_map];exact hr)
 rw[List.length_map,iP]at this
 exact this
def bsV(F:RO)(M:Mem)(x:V):Option V:=(cX (.bs (.c x)) F M .e).val
theorem cr7(x:X)(M:Mem)(t:T):(cX (.bs x) F M t).val=bsV F M (x.ev t):=Eq.trans rfl (Eq.refl _)
theorem aD5{M:Mem}{c:Nat}{v:V}{l:List UInt8}(h:SlB F M c v l):bsV F M v=some (sV l):=by
 have hl:=Fu h
 obtain⟨r,hr⟩:=AA Nat.one_pos h
 rw[List.length_map]at hl hr
 rw[iP]at hr
 have e:cX (.bs (.c v)) F M .e=FG F M v (p9 v):=by
  show(match v with| .s _ _=>QR.f|v=>FG F M v (p9 v))=_;rcases h with⟨_,⟨_,rfl|⟨b,o0,o,rfl⟩⟩|⟨b,o,⟨cap,_,rfl⟩|⟨el,kn,_,rfl⟩,_⟩⟩<;>rfl
 unfold bsV
 rw[e,hl]
 show(match readL F M 1 l.length v with|some (vs,b)=>FH b (gm vs)|none=>QR.f).val=_
 rw[hr]
 show(FH r (gm (l.map bV))).val=_
 rw[tz]
 show(fN l.length fun n=>fN (ce l) fun s=>match r with|some b=>QR.r (.s n s) b|none=> .v (.s n s)).val=_
 rw[bG,bG]
 cases r<;>rfl
def cL(d:List V)(ty:Nat)(row:List V):bK:= .cells ty row.length true 0 false d (iB row)
theorem Hq(d l:List V)(i:Nat)(h:i<l.length):cell l.length d (iB l) i=l[i]?:=by
 rw[cH,ac h]
 unfold iB
 rw[cY,ac (by omega)]
 simp only[Nat.sub_zero]
 rw[List.getElem?_eq_getElem h]
theorem Y3{M:Mem}{b ty:Nat}{d row:List V}(h:M.get b=some (cL d ty row)):iJ F M b row:=
 ⟨ty,true,0,false,d,iB row,ax h,fun i hi=>Hq d row i hi⟩
theorem II{M:Mem}{b c ty sz n:Nat}{d:List V}{es:List (List V)}(h:M.get b=some (cL d ty es.flatten))(hb:b<c)(h0:∀e∈es,e.length=sz)(hn:es.length=n):cE F M c sz (.l b 0 n n) es:=by
 subst hn
 exact⟨h0,.inr ⟨b,0,.inl ⟨_,aj _,rfl⟩,hb,(Y3 h).cells⟩⟩
def yi(t:T):List (Nat×X)→List (Nat×List V)
 |[]=>[]
 |(o,x)::r=>(o,flatten (x.ev t))::yi t r
theorem Sl(t:T):yi t []=[]:=rfl
theorem qc(t:T)(o:Nat)(x:X)(r:List (Nat×X)):yi t ((o,x)::r)=(o,flatten (x.ev t))::yi t r:=rfl
def ko(sz:Nat):Nat→List (Nat×List V)→Option (List V)
 |_,[]=>some []
 |o,(k,vs)::r=>if k=o∧vs.length=sz∧aK vs=true then(ko sz (o+sz) r).map (vs++ ·)else none
theorem DI(sz o:Nat):ko sz o []=some []:=rfl
theorem me(sz o k:Nat)(vs:List V)(r:List (Nat×List V)):ko sz o ((k,vs)::r)=if k=o∧vs.length=sz∧aK vs=true then(ko sz (o+sz) r).map (vs++ ·)else none:=rfl
theorem lU:∀(a b:List V) (k:Nat) (t:T),bP b (k+a.length) (bP a k t)=bP (a++b) k t
 |[],b,k,t=>rfl
 |x::a,b,k,t=>by
  rw[List.cons_append,d9,d9,aA,show k+(a.length+1)=(k+1)+a.length by omega,lU a b]
theorem A8{sz m:Nat}{t:T}:∀{parts:List (Nat×X)} {pre row:List V},ko sz pre.length (yi t parts)=some row→pre.length+row.length≤m→fillP sz m t parts (bP pre 0 .e)=some (bP (pre++row) 0 .e)
 |[],pre,row,h,hm=>by
  obtain rfl:[]=row:=ag h;rw[bH];rfl
 |(o,x)::r,pre,row,h,hm=>by
  rw[qc,me]at h;split at h
  ·rename_i hc;obtain⟨rfl,h1,h2⟩:=hc;rw[bv]at h;obtain⟨row',h3,rfl⟩:=h;rw[aH]at hm;show(bif Nat.beq (flatten (x.ev t)).length sz&&Nat.ble (Nat.add pre.length sz) m&&aK (flatten (x.ev t))then(bP (flatten (x.ev t)) pre.length (bP pre 0 .e)).force fun t'=>fillP sz m t r t' else none)=_;rw[bU,cG,h2,ah h1,ah (show Nat.add pre.length sz≤m by show pre.length+sz≤m;omega)];show(bP (flatten (x.ev t)) pre.length (bP pre 0 .e)).force (fun t'=>fillP sz m t r t')=_;rw[Tr.force_eq];have hs:=lU pre (flatten (x.ev t)) 0 .e;rw[Nat.zero_add]at hs;rw[hs];have:=A8 (m:=m) (parts:=r) (pre:=pre++flatten (x.ev t)) (row:=row') (by rw[aH,h1];exact h3) (by rw[aH];omega);rw[this,aT]
  ·cases h
theorem u4{sz:Nat}:∀{ps:List (Nat×List V)} {o:Nat} {row:List V},ko sz o ps=some row→row.length=ps.length*sz∧aK row=true
 |[],o,row,h=>by
  obtain rfl:[]=row:=ag h;simp;rfl
 |(k,vs)::r,o,row,h=>by
  rw[me]at h;split at h
  ·rename_i hc;rw[bv]at h;obtain⟨row',h3,rfl⟩:=h;obtain⟨h4,h5⟩:=u4 h3;refine⟨by rw[aH,h4,hc.2.1,aA,Nat.add_mul];omega,?_⟩;have key:∀(a b:List V),aK a=true→aK b=true→aK (a++b)=true:=by
    intro a
    induction a with
    |nil=>intro b _ h;exact h
    |cons x a ih=>
     intro b ha hb;rw[av,aV]at ha;rw[List.cons_append,av,ha.1,ih b ha.2 hb];rfl
   exact key _ _ hc.2.2 h5
  ·cases h
def bD0(ty n:Nat)(zero:List V)(b:Nat):Option (List V)→Option (V×bK)
 |some row=>some (.l b 0 n n,cL zero ty row)
 |none=>none
def cg0(ty n sz:Nat)(zero:List V)(parts:List (Nat×X))(b:Nat)(t:T):Option (V×bK):=jD (.bsl ty n sz zero parts) b t
theorem A6(t:T):∀ps:List (Nat×X),(yi t ps).length=ps.length
 |[]=>rfl
 |(o,x)::r=>by rw[qc,aA,aA,A6 t r]
theorem Jw(ty n sz:Nat)(zero:List V)(parts:List (Nat×X))(b:Nat)(t:T)(hn:parts.length=n){row:List V}(h:ko sz 0 (yi t parts)=some row):
 jD (.bsl ty n sz zero parts) b t=some (.l b 0 n n,cL zero ty row):=by
 subst hn
 have hl:=(u4 h).1
 rw[A6]at hl
 have:=A8 (m:=parts.length*sz) (pre:=[]) h (by simp[hl])
 rw[List.nil_append]at this
 show(match fillP sz (parts.length*sz) t parts .e with|some c=>fN (parts.length*sz) fun m=>some (V.l b 0 parts.length parts.length,bK.cells ty m true 0 false zero c)|none=>none)=_
 rw[show fillP sz (parts.length*sz) t parts .e=some (bP row 0 .e)from this]
 show fN (parts.length*sz) (fun m=>some (V.l b 0 parts.length parts.length,bK.cells ty m true 0 false zero (bP row 0 .e)))=_
 rw[bG,←hl];rfl
theorem We(ty n sz:Nat)(zero:List V)(parts:List (Nat×X))(b:Nat)(t:T):jD (.bsl ty n sz zero parts) b t=if parts.length=n∧(ko sz 0 (yi t parts)).isSome=true then bD0 ty n zero b (ko sz 0 (yi t parts))else cg0 ty n sz zero parts b t:=by
 split
 ·rename_i h;obtain⟨row,hr⟩:=bM.1 h.2;rw[hr];exact Jw ty n sz zero parts b t h.1 hr
 ·rfl
theorem Hk(ty n:Nat)(zero:List V)(b:Nat)(row:List V):bD0 ty n zero b (some row)=some (.l b 0 n n,cL zero ty row):=rfl
def yq(L:List F3):RO→List V→Mem→Nat→RC:=fun F args M ct=>match args with|[]=>bif fY F L then .k (.b true) M ct else .f|_=> .f
theorem Dx{L:List F3}(h:fY F L=true)(M:Mem)(c:Nat):yq L F [] M c= .k (.b true) M c:=by
 show(bif fY F L then RC.k (.b true) M c else .f)=_
 rw[h];rfl
end
def B6(C:Nat):Value→Option V
 | .bool x=>some (.b x)
 | .int k n=>some (.i k n)
 | .string s=>some (sV s.data.toList)
 | .pointer none=>some .p0
 | .slice none 0 0=>some .l0
 | .slice (some a) n c=>if a.spot=none∧a.block<C then some (.l a.block a.off n c)else if n=0∧c=0∧zD a<C then some (.ue (zD a) 1 0)else none
 | .iface t (.pointer (some ⟨r,o,none⟩))=>if r<C then some (.a t (.p r o))else none
 |_=>none
theorem WJ(E:d7)(s:ByteArray):conc E (sV s.data.toList)= .string s:=by
 show Value.string (ba s.data.toList.length (ce s.data.toList))=_
 unfold ba
 rw[kI]
theorem uC{C:Nat}{x:Value}{v:V}(h:B6 C x=some v):conc E0 v=x∧bd (· <C) v:=by
 unfold B6 at h
 split at h
 ·obtain rfl:=ag h;exact⟨rfl,trivial⟩
 ·obtain rfl:=ag h;exact⟨rfl,trivial⟩
 ·obtain rfl:=ag h;exact⟨WJ _ _,trivial⟩
 ·obtain rfl:=ag h;exact⟨rfl,trivial⟩
 ·obtain rfl:=ag h;exact⟨rfl,trivial⟩
 ·rename_i a n c;split at h
  ·rename_i hr;obtain⟨b,o,sp⟩:=a;obtain⟨h1,hr⟩:=hr;have h1:sp=none:=h1;subst h1;obtain rfl:=ag h;refine⟨?_,hr⟩;show Value.slice (some ⟨b,0+o,none⟩) n c=_;rw[Nat.zero_add]
  ·split at h
   ·rename_i hr;obtain⟨rfl,rfl,hr⟩:=hr;obtain rfl:=ag h;refine⟨?_,hr⟩;show Value.slice (some (if(0:Nat)=0 then(if(0:Nat)<1 then adD (zD a)else _)else _)) 0 0=_;rw[ac rfl,ac (by decide),by0]
   ·cases h
 ·rename_i t r o;split at h
  ·rename_i hr;obtain rfl:=ag h;refine⟨?_,hr⟩;show Value.iface t (.pointer (some ⟨r,0+o,none⟩))=_;rw[Nat.zero_add]
  ·cases h
 ·cases h
def pj:List (Option V)→Nat→T→T
 |[],_,t=>t
 |none::r,k,t=>pj r (k+1) t
 |some v::r,k,t=>pj r (k+1) (t.set k v)
theorem qt:∀(l:List (Option V)) (k:Nat) (t:T) (j:Nat),(pj l k t).get j=if k≤j∧j<k+l.length then(match l[j-k]? with|some (some v)=>some v|_=>t.get j)else t.get j
 |[],k,t,j=>by
  rw[ab (by simp;try omega)];rfl
 |none::r,k,t,j=>by
  show(pj r (k+1) t).get j=_;rw[qt r (k+1) t j];simp only[aA];by_cases h0:j=k
  ·subst h0;rw[ab (by omega),ac (by omega)];simp
  ·by_cases h1:k≤j∧j<k+(r.length+1)
   ·rw[ac (by omega),ac h1,show j-k=(j-(k+1))+1 by omega,List.getElem?_cons_succ]
   ·rw[ab (by omega),ab h1]
 |some v::r,k,t,j=>by
  show(pj r (k+1) (t.set k v)).get j=_;rw[qt r (k+1) (t.set k v) j,Tr.get_set];simp only[aA];by_cases h0:j=k
  ·subst h0;rw[ab (by omega),ac rfl,ac (by omega)];simp
  ·rw[ab h0];by_cases h1:k≤j∧j<k+(r.length+1)
   ·rw[ac (by omega),ac h1,show j-k=(j-(k+1))+1 by omega,List.getElem?_cons_succ]
   ·rw[ab (by omega),ab h1]
def r7(C:Nat):Obj→Option bK
 | .cells arr ty _=>some (.cells ty arr.size false arr.size true [] (pj (arr.toList.map (B6 C)) 0 .e))
 |_=>none
def nD(C:Nat):List Obj→Nat→RO
 |[],_=>[]
 |o::r,k=>match r7 C o with
  |some x=>(k,x)::nD C r (k+1)
  |none=>nD C r (k+1)
theorem wn(C:Nat):∀(l:List Obj) (k j:Nat),bF (nD C l k) j=if k≤j then(l[j-k]?).bind (r7 C)else none
 |[],k,j=>by
  show none=_;split<;>simp
 |o::r,k,j=>by
  have ih:=wn C r (k+1) j;unfold nD;by_cases h0:j=k
  ·subst h0;rw[ab (by omega)]at ih;rw[ac (aj _),Nat.sub_self,List.getElem?_cons_zero];show _=r7 C o;cases hb:r7 C o with
   |none=>exact ih
   |some x=>
    show bF ((j,x)::nD C r (j+1)) j=some x;rw[cO,ac rfl]
  ·have e:bF (match r7 C o with|some x=>(k,x)::nD C r (k+1)|none=>nD C r (k+1)) j=bF (nD C r (k+1)) j:=by
    cases r7 C o with
    |none=>rfl
    |some x=>
     show bF ((k,x)::nD C r (k+1)) j=_;rw[cO,ab (fun e=>h0 e.symm)]
   rw[e,ih];by_cases h1:k≤j
   ·rw[ac (by omega),ac h1,show j-k=(j-(k+1))+1 by omega,List.getElem?_cons_succ]
   ·rw[ab (by omega),ab h1]
def eF(W:World)(C:Nat):RO:=nD C W.heap.toList 0
theorem mT(W:World)(C j:Nat):bF (eF W C) j=(W.heap[j]?).bind (r7 C):=by
 unfold eF
 rw[wn,ac (aD _),Nat.sub_zero,Array.getElem?_toList]
theorem mU{C ty:Nat}{arr:Array Value}{k:Nat}{v:V}:cell arr.size [] (pj (arr.toList.map (B6 C)) 0 .e) k=some v↔ ∃x,arr[k]?=some x∧B6 C x=some v:=by
 rw[cH]
 by_cases h:k<arr.size
 ·rw[ac h,qt,ac (by simpa using h)];simp only[Nat.sub_zero,List.getElem?_map,Array.getElem?_toList,Array.getElem?_eq_getElem h,Option.map_some];show(match (match some (B6 C arr[k])with|some (some v)=>some v|_=>(Tr.e:T).get k)with|some v=>some v|none=>([]:List V)[k%([]:List V).length]?)=some v↔_;constructor
  ·intro hv;refine⟨arr[k],rfl,?_⟩;cases hx:B6 C arr[k]with
   |none=>rw[hx]at hv;simp[Tr.get_e]at hv
   |some y=>rw[hx]at hv;simpa using hv
  ·rintro⟨x,hx,hv⟩;obtain rfl:=ag hx;rw[hv]
 ·rw[ab h];constructor
  ·intro hh;cases hh
  ·rintro⟨x,hx,_⟩;rw[Array.getElem?_eq_none (by omega)]at hx;cases hx
theorem Sw{P:Program}{W:World}{C:Nat}(hC:W.heap.size≤C):kO P E0 (eF W C) .e (· <C) W:=by
 refine⟨?_,fun b b' _ _ e=>e,fun b _=>rfl⟩
 intro b blk hb
 rw[aY (show(Tr.e:Mem).get b=none from rfl),mT]at hb
 cases ho:W.heap[b]? with
 |none=>rw[ho]at hb;cases hb
 |some o=>
  rw[ho]at hb;have hb':r7 C o=some blk:=hb;have hlt:b<C:=Nat.lt_of_lt_of_le (Array.getElem?_eq_some_iff.1 ho).1 hC;cases o with
  |cells arr ty fr=>
   obtain rfl:=ag hb';refine⟨hlt,?_,_,ho,arr,fr,rfl,?_,?_,?_,?_⟩
   ·intro k v hk;obtain⟨x,_,hv⟩:=(mU (ty:=ty)).1 hk;exact(uC hv).2
   ·intro k v hk;obtain⟨x,hx,hv⟩:=(mU (ty:=ty)).1 hk;show arr[0+k]?=_;rw[Nat.zero_add,hx,(uC hv).1]
   ·show arr.size=0+arr.size+0*_;simp
   ·intro o h1 h2;have h1':0+arr.size≤o:=h1;omega
   ·intro h;cases h
  |_=>cases hb'
theorem HP{W:World}{C r o:Nat}{x:Value}{v:V}(h:W.cell? ⟨r,o,none⟩=some x)(hv:B6 C x=some v):load1 (eF W C) .e r o=some v:=by
 unfold World.cell? at h
 split at h
 ·rename_i cs ty fr hh;have h':cs[o]?=some x:=h;unfold Ev.load1;rw[aY (show(Tr.e:Mem).get r=none from rfl),mT];have hh':W.heap[r]?=some (.cells cs ty fr):=hh;rw[hh'];exact(mU (ty:=ty)).2 ⟨x,h',hv⟩
 ·cases h
theorem wp{W:World}{C:Nat}:∀{L:List F3},(∀t∈L,t.1<1000∧vM W t)→fY (eF W C) L=true
 |[],_=>rfl
 |t::r,h=>by
  show(Nat.blt t.1 1000&&(rF (eF W C) t&&fY (eF W C) r))=true;rw[wp fun t ht=>h t (bJ _ ht),gk,ah (h t (bX ..)).1];obtain⟨_,ty,fr,hh⟩:=h t (bX ..);have hi:rF (eF W C) t=true:=by
   unfold rF;rw[mT,hh];show(Nat.beq (t.2.2.map fun z=>Value.int t.2.1 z).toArray.size (t.2.2.map fun z=>Value.int t.2.1 z).toArray.size&&iY _ [] _ t.2.1 t.2.2 0)=true;rw[Nat.beq_refl,Bool.true_and]
   have key:∀(zs:List Int) (i:Nat),i+zs.length=t.2.2.length→(∀j,zs[j]?=t.2.2[i+j]?)→
    iY (t.2.2.map fun z=>Value.int t.2.1 z).toArray.size [] (pj ((t.2.2.map fun z=>Value.int t.2.1 z).toArray.toList.map (B6 C)) 0 .e) t.2.1 zs i=true:=by
    intro zs
    induction zs with
    |nil=>
     intro i hi _;show Nat.beq i _=true;simp only[aM]at hi;rw[bU];simp;omega
    |cons z zs ih=>
     intro i hi hz;have h0:=hz 0;simp only[List.getElem?_cons_zero,aB]at h0
     have hc:cell (t.2.2.map fun z=>Value.int t.2.1 z).toArray.size [] (pj ((t.2.2.map fun z=>Value.int t.2.1 z).toArray.toList.map (B6 C)) 0 .e) i=some (.i t.2.1 z):=
      (mU (ty:=ty)).2 ⟨.int t.2.1 z,by simp[←h0],rfl⟩
     unfold iY;rw[hc];show(Ej t.2.1 z (.i t.2.1 z)&&_)=true;rw[ih (i+1) (by simp at hi;omega) fun j=>by have:=hz (j+1);rw[List.getElem?_cons_succ]at this;rw[this];congr 1;omega];show(ib t.2.1 t.2.1&&Hz z z&&true)=true;rw[eQ,dx];simp
   exact key t.2.2 0 (by omega) (fun j=>by rw[Nat.zero_add])
  rw[hi];rfl
theorem aU9{P:Program}(hm:P.follows .mixedOrders=true){Φ:Nat→Option CF}(hΦ:ft P Φ){f:Nat}{W:World}{C:Nat}{args:List V}(hC:W.heap.size≤C)(hk:1000≤C)(ha:gd (· <C) args)
 (h:Ev.Calls Φ (eF W C) f args .e C fun v _ _=>v= .b true):Go.Calls P f (aI E0 args).toArray W fun e W'=>e= .returned (.bool true)∧(∀may,W.keptBut W' may)∧ ∀i,i<W.heap.size→W'.heap[i]?=W.heap[i]?:=by
 obtain⟨v,M',c',hc,rfl⟩:=h
 obtain⟨fn,h1,h2,h3,hC⟩:=iE (rd:=none) (fn:=0) (F₀:=[]) hΦ (S4 hm hΦ) (eF W C) f args .e C (.b true) M' c' hc E0 (· <C) W (Sw hC) (fun g _=>⟨rfl,rfl⟩) (fun g hg=>Nat.lt_of_lt_of_le hg hk) (fun b hb hc=>Nat.lt_irrefl _ (Nat.lt_of_lt_of_le hc hb)) ha
 refine hC.mono ?_
 rintro e W' ⟨E',c',rfl,hS,_,_⟩
 exact⟨rfl,fun may=>Xr hS may,fun i hi=>hS.frame i hi (fun b hb=>by cases hb)⟩
end
end Go.Proofs.YtmbpllipombieaaDoor.Ev
