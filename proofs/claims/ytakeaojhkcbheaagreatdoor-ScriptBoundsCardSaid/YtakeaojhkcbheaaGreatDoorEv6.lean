/- What is proved here: pieces of the evaluator's soundness: if the evaluator comes to a value, the model's run comes to it, for every world and tape; no conditions beyond the hypotheses of each theorem. -/
import Derived.Test.YtakeaojhkcbheaaGreatDoorEv5
set_option linter.unusedSimpArgs false
set_option linter.unusedVariables false
set_option linter.defProp false
set_option maxRecDepth 10000
set_option maxHeartbeats 8000000
namespace Go.Proofs.YtakeaojhkcbheaaGreatDoor.Ev
open Go
noncomputable section
section
variable{P:Program}{Φ:Nat→Option CF}{rd:Option Nat}{fn nt:Nat}{F:RO}
end
noncomputable section
end
section
variable{P:Program}{Φ:Nat→Option CF}{rd:Option Nat}{fn nt:Nat}{F:RO}
theorem sim_seq{code:Code}{a b:CC}(h:Sim P nt code (.seq a b)):∃x y,code= .seq x y∧Sim P nt x a∧Sim P nt y b:=by
 obtain⟨n,h⟩:=h
 cases n with
 |zero=>cases h
 |succ n=>
  unfold compC at h;cases code with
  |seq x y=>
   dsimp only at h;split at h
   ·rename_i a' b' h1 h2;have h':=Option.some.inj h;injection h' with e1 e2
    subst e1 e2;exact⟨x,y,rfl,⟨n,h1⟩,⟨n,h2⟩⟩
   ·cases h
  |region id ops dr=>
   cases dr with
   |false=>obtain⟨z,_,e⟩:=Option.map_eq_some_iff.1 h;cases e
   |true=>
    dsimp only at h;split at h
    ·rename_i cos hcos;have h':=Option.some.inj h;unfold dregC dregD at h';have hb:∀(b:Bool) (x y:CC),(bif b then x else y)=x∨(bif b then x else y)=y:=by intro b;cases b<;>simp
     rcases hb (regOk ops.toList (Region.before ops).toList ops.size (canon (Region.before ops).toList cos ops.size 0)) (.dreg ops.size (canon (Region.before ops).toList cos ops.size 0)) .bad with hh|hh
     ·rw[hh]at h';cases h'
     ·rw[hh]at h';cases h'
    ·cases h
  |skip=>cases h
  |label l=>cases h
  |cond o x y=>dsimp only at h;split at h<;>cases h
  |block id x=>obtain⟨z,_,e⟩:=Option.map_eq_some_iff.1 h;cases e
  |loop x=>obtain⟨z,_,e⟩:=Option.map_eq_some_iff.1 h;cases e
  |rangeFunc g ps x y=>dsimp only at h;split at h;cases h;split at h<;>cases h
  |exit id=>cases h
  |scope x=>dsimp only at h;split at h<;>cases h
  |goto l=>cases h
  |ret=>cases h
  |refuse s=>cases h
theorem sim_block{code:Code}{id:Nat}{b:CC}(h:Sim P nt code (.block id b)):∃y,code= .block id y∧Sim P nt y b:=by
 obtain⟨n,h⟩:=h
 cases n with
 |zero=>cases h
 |succ n=>
  unfold compC at h;cases code with
  |block id x=>
   obtain⟨z,hz,e⟩:=Option.map_eq_some_iff.1 h;injection e with e1 e2
   subst e1 e2;exact⟨x,rfl,n,hz⟩
  |region id ops dr=>
   cases dr with
   |false=>obtain⟨z,_,e⟩:=Option.map_eq_some_iff.1 h;cases e
   |true=>
    dsimp only at h;split at h
    ·rename_i cos hcos;have h':=Option.some.inj h;unfold dregC dregD at h';have hb:∀(b:Bool) (x y:CC),(bif b then x else y)=x∨(bif b then x else y)=y:=by intro b;cases b<;>simp
     rcases hb (regOk ops.toList (Region.before ops).toList ops.size (canon (Region.before ops).toList cos ops.size 0)) (.dreg ops.size (canon (Region.before ops).toList cos ops.size 0)) .bad with hh|hh
     ·rw[hh]at h';cases h'
     ·rw[hh]at h';cases h'
    ·cases h
  |skip=>cases h
  |label l=>cases h
  |cond o x y=>dsimp only at h;split at h<;>cases h
  |seq x y=>dsimp only at h;split at h<;>cases h
  |loop x=>obtain⟨z,_,e⟩:=Option.map_eq_some_iff.1 h;cases e
  |rangeFunc g ps x y=>dsimp only at h;split at h;cases h;split at h<;>cases h
  |exit id=>cases h
  |scope x=>dsimp only at h;split at h<;>cases h
  |goto l=>cases h
  |ret=>cases h
  |refuse s=>cases h
theorem sim_loop{code:Code}{b:CC}(h:Sim P nt code (.loop b)):∃y,code= .loop y∧Sim P nt y b:=by
 obtain⟨n,h⟩:=h
 cases n with
 |zero=>cases h
 |succ n=>
  unfold compC at h;cases code with
  |loop x=>
   obtain⟨z,hz,e⟩:=Option.map_eq_some_iff.1 h;injection e with e1
   subst e1;exact⟨x,rfl,n,hz⟩
  |region id ops dr=>
   cases dr with
   |false=>obtain⟨z,_,e⟩:=Option.map_eq_some_iff.1 h;cases e
   |true=>
    dsimp only at h;split at h
    ·rename_i cos hcos;have h':=Option.some.inj h;unfold dregC dregD at h';have hb:∀(b:Bool) (x y:CC),(bif b then x else y)=x∨(bif b then x else y)=y:=by intro b;cases b<;>simp
     rcases hb (regOk ops.toList (Region.before ops).toList ops.size (canon (Region.before ops).toList cos ops.size 0)) (.dreg ops.size (canon (Region.before ops).toList cos ops.size 0)) .bad with hh|hh
     ·rw[hh]at h';cases h'
     ·rw[hh]at h';cases h'
    ·cases h
  |skip=>cases h
  |label l=>cases h
  |cond o x y=>dsimp only at h;split at h<;>cases h
  |seq x y=>dsimp only at h;split at h<;>cases h
  |block id x=>obtain⟨z,_,e⟩:=Option.map_eq_some_iff.1 h;cases e
  |rangeFunc g ps x y=>dsimp only at h;split at h;cases h;split at h<;>cases h
  |exit id=>cases h
  |scope x=>dsimp only at h;split at h<;>cases h
  |goto l=>cases h
  |ret=>cases h
  |refuse s=>cases h
end
structure Cs where
 c0:Nat
 t0:T
 m0:List (Nat×Blk)
 e:Ex
 t1:T
 m1:List (Nat×Blk)
 c1:Nat
noncomputable section
def exeq:Ex→Ex→Bool
 | .nrm,.nrm=>true
 | .ret,.ret=>true
 | .ext i,.ext j=>Nat.beq i j
 | .gto i,.gto j=>Nat.beq i j
 |_,_=>false
theorem exeq_eq{a b:Ex}(h:exeq a b=true):a=b:=by
 cases a<;>cases b<;>first|rfl|cases h|exact congrArg _ (nbeq h)
end
section
variable{P:Program}{E E':Env}{F:RO}{M M' N:Mem}{c c':Nat→Prop}{ct ct' nt:Nat}{w w':World}{t t':T}{a:Act}
end
def join(s1 s2:Cs):Cs:=⟨s1.c0,s1.t0,s1.m0,s2.e,s2.t1,s2.m1,s2.c1⟩
section
variable{P:Program}{nt:Nat}
noncomputable section
end
end
noncomputable section
def obeq:Option Blk→Option Blk→Bool
 |none,none=>true
 |some x,some y=>bkeq x y
 |_,_=>false
theorem obeq_eq{a b:Option Blk}(h:obeq a b=true):a=b:=by
 cases a<;>cases b<;>first|rfl|cases h|exact congrArg some (bkeq_eq h)
def mteq:Mem→Mem→Bool
 | .e,w=>match w with| .e=>true|_=>false
 | .n l v r,w=>match w with| .n l' v' r'=>obeq v v'&&(mteq l l'&&mteq r r')|_=>false
theorem mteq_eq:∀a b:Mem,mteq a b=true→a=b
 | .e,w,h=>by
   rw[mteq.eq_def]at h;dsimp only at h;split at h
   ·rfl
   ·cases h
 | .n l v r,w,h=>by
   rw[mteq.eq_def]at h;dsimp only at h;split at h
   ·obtain⟨h1,h2⟩:=an2 h;obtain⟨h3,h4⟩:=an2 h2;rw[obeq_eq h1,mteq_eq _ _ h3,mteq_eq _ _ h4]
   ·cases h
structure Ws where
 t:T
 m:List (Nat×Blk)
 c:Nat
 ks:List Nat
def shp(ks:List Nat):Mem:=List.rec .e (fun k _ M=>Tr.del (Tr.set M k (.cells 0 0 true 0 false [] .e)) k) ks
def Ws.mem(s:Ws):Mem:=setAll (shp s.ks) s.m
def Ws.st(s:Ws):St:= .mk s.t [] s.mem s.c
def exq:Ex→Ex→Bool
 | .nrm,.nrm=>true
 | .ret,.ret=>true
 | .ext i,.ext j=>Nat.beq i j
 | .gto i,.gto j=>Nat.beq i j
 |_,_=>false
theorem exq_eq{a b:Ex}(h:exq a b=true):a=b:=by
 cases a<;>cases b<;>first|rfl|cases h|exact congrArg _ (nbeq h)
def nilD:List Nat→Bool
 |[]=>true
 |_=>false
def wseq(s:Ws):St→Bool
 | .mk t d M c=>(treq s.t t&&Nat.beq s.c c)&&(nilD d&&mteq M s.mem)
theorem wseq_eq{s:Ws}{x:St}(h:wseq s x=true):x=s.st:=by
 obtain⟨t,d,M,c⟩:=x
 obtain⟨h1,h2⟩:=an2 (show((treq s.t t&&Nat.beq s.c c)&&(nilD d&&mteq M s.mem))=true from h)
 obtain⟨h3,h4⟩:=an2 h1
 obtain⟨h5,h6⟩:=an2 h2
 cases d with
 |nil=>rw[Ws.st,treq_eq _ _ h3,nbeq h4,mteq_eq _ _ h6]
 |cons _ _=>cases h5
def rsOk(e:Ex)(s:Ws):Rs→Bool
 | .k e' x=>exq e e'&&wseq s x
 | .f=>false
theorem rsOk_eq{e:Ex}{s:Ws}{r:Rs}(h:rsOk e s r=true):r= .k e s.st:=by
 cases r with
 |f=>cases h
 |k e' x=>
  obtain⟨h1,h2⟩:=an2 (show(exq e e'&&wseq s x)=true from h);rw[exq_eq h1,wseq_eq h2]
def pcRun(Φ:Nat→Option CF)(fuel fn:Nat)(F:RO)(cc:CC)(s:Ws)(e:Ex)(s':Ws):Bool:=rsOk e s' (exec Φ fuel none fn F cc s.st)
end
section
variable{Φ:Nat→Option CF}{fuel fn:Nat}{F:RO}
theorem exec_K{n:Nat}{cc:CC}{s s':St}{e:Ex}(h:exec Φ n none fn F cc s= .k e s'):execC cc (K Φ none fn F) s= .k e s':=by
 rw[←den_eq,den_of (n:=n) (by rw[h];exact fun e=>by cases e),h]
theorem wp_kr{cc:CC}{s s':Ws}{e:Ex}{Q:Ex→St→Prop}(h:pcRun Φ fuel fn F cc s e s'=true)(hQ:Q e s'.st):Wp cc (K Φ none fn F) s.st Q:=
 ⟨e,s'.st,exec_K (rsOk_eq h),hQ⟩
def pre:Nat→CC→CC
 |0,.seq a _=>a
 |k+1,.seq a b=> .seq a (pre k b)
 |_,c=>c
def suf:Nat→CC→CC
 |0,.seq _ b=>b
 |k+1,.seq _ b=>suf k b
 |_,_=> .skip
theorem seqQ_skip(k:Kn)(Q:Ex→St→Prop):seqQ .skip k Q=Q:=by
 funext e s
 cases e with
 |nrm=>exact wp_skip k s Q
 |_=>rfl
theorem wp_spine:∀(k:Nat) (cc:CC) (kn:Kn) (s:St) (Q:Ex→St→Prop),Wp cc kn s Q=Wp (pre k cc) kn s (seqQ (suf k cc) kn Q)
 |0,.seq a b,kn,s,Q=>wp_seq a b kn s Q
 |k+1,.seq a b,kn,s,Q=>by
  show _=Wp (.seq a (pre k b)) kn s (seqQ (suf k b) kn Q);rw[wp_seq,wp_seq]
  congr 1
  funext e s'
  cases e with
  |nrm=>exact wp_spine k b kn s' Q
  |_=>rfl
 |0,.skip,kn,s,Q|0,.reg _,kn,s,Q|0,.dreg _ _,kn,s,Q|0,.cond _ _ _,kn,s,Q|0,.block _ _,kn,s,Q|0,.loop _,kn,s,Q|0,.rf _ _ _ _,kn,s,Q|0,.exit _,kn,s,Q|0,.scope _ _,kn,s,Q|0,.tab _ _ _,kn,s,Q|0,.goto _,kn,s,Q|0,.ret,kn,s,Q|0,.bad,kn,s,Q
 |_+1,.skip,kn,s,Q|_+1,.reg _,kn,s,Q|_+1,.dreg _ _,kn,s,Q|_+1,.cond _ _ _,kn,s,Q|_+1,.block _ _,kn,s,Q|_+1,.loop _,kn,s,Q|_+1,.rf _ _ _ _,kn,s,Q|_+1,.exit _,kn,s,Q|_+1,.scope _ _,kn,s,Q|_+1,.tab _ _ _,kn,s,Q|_+1,.goto _,kn,s,Q|_+1,.ret,kn,s,Q|_+1,.bad,kn,s,Q=>by
  show _=Wp _ kn s (seqQ .skip kn Q);rw[seqQ_skip];rfl
theorem wp_pre{cc:CC}(k:Nat){s s':Ws}{Q:Ex→St→Prop}(h:pcRun Φ fuel fn F (pre k cc) s .nrm s'=true)(hQ:Wp (suf k cc) (K Φ none fn F) s'.st Q):Wp cc (K Φ none fn F) s.st Q:=by
 rw[wp_spine k]
 exact wp_kr h hQ
end
structure Rd where
 c:Nat
 args:List V
 m0:List (Nat×Blk)
 v:V
noncomputable section
def rdF(c:Nat)(args:List V)(M:Mem):List Rd→Option V
 |[]=>none
 |s::r=>bif Nat.beq s.c c&&(vseq s.args args&&holds M s.m0)then some s.v else rdF c args M r
def rdC(tabs:List Tab)(F:RO)(M:Mem)(c:Nat)(v:V):RC:=bif tabsIn F tabs then .k v M c else .f
def rdE(Φ:Nat→Option CF)(fuel f:Nat)(tabs:List Tab)(L:List Rd)(F:RO)(args:List V)(M:Mem)(c:Nat):RC:=match rdF c args M L with
 |some v=>rdC tabs F M c v
 |none=>callC (exec Φ fuel) F f args M c (Φ f)
def rdChk(s:Rd):RC→Bool
 | .k v M _=>veq s.v v&&holds M s.m0
 | .f=>false
def rdRun(Φ:Nat→Option CF)(fuel f:Nat)(F:RO)(s:Rd):Bool:=rdChk s (callC (exec Φ fuel) F f s.args (setAll .e s.m0) s.c (Φ f))
mutual
def nlV:V→Bool
 | .b _=>true
 | .i _ _=>true
 | .s _ _=>true
 | .p0=>true
 | .l0=>true
 | .m0=>true
 | .f0=>true
 | .a0=>true
 | .g l=>nlVs l
 | .t l=>nlVs l
 |_=>false
def nlVs:List V→Bool
 |[]=>true
 |x::r=>nlV x&&nlVs r
end
end
mutual
theorem nlV_bd:∀v,nlV v=true→bd (fun _=>False) v
 | .b _,_=>trivial
 | .i _ _,_=>trivial
 | .s _ _,_=>trivial
 | .p0,_=>trivial
 | .l0,_=>trivial
 | .m0,_=>trivial
 | .f0,_=>trivial
 | .a0,_=>trivial
 | .g l,h=>nlVs_bd l (by rw[nlV.eq_def]at h;exact h)
 | .t l,h=>nlVs_bd l (by rw[nlV.eq_def]at h;exact h)
 | .p _ _,h| .l _ _ _ _,h| .u _ _ _ _ _,h| .ue _ _ _,h| .m _,h| .f _ _ _,h| .y _,h| .a _ _,h=>by rw[nlV.eq_def]at h;cases h
theorem nlVs_bd:∀l,nlVs l=true→bds (fun _=>False) l
 |[],_=>trivial
 |x::r,h=>by
  rw[nlVs.eq_def]at h;obtain⟨h1,h2⟩:=an2 (show(nlV x&&nlVs r)=true from h);exact⟨nlV_bd x h1,nlVs_bd r h2⟩
end
theorem rdF_some{c:Nat}{args:List V}{M:Mem}{v:V}:∀{L:List Rd},rdF c args M L=some v→ ∃s∈L,s.c=c∧s.args=args∧(∀b blk,(b,blk)∈s.m0→M.get b=some blk)∧v=s.v
 |s::r,h=>by
  have h':(bif Nat.beq s.c c&&(vseq s.args args&&holds M s.m0)then some s.v else rdF c args M r)=some v:=h;cases hx:Nat.beq s.c c&&(vseq s.args args&&holds M s.m0)with
  |true=>
   rw[hx,cond_true]at h';injection h' with e1
   obtain⟨h1,h2⟩:=an2 hx;obtain⟨h3,h4⟩:=an2 h2;exact⟨s,List.mem_cons_self ..,nbeq h1,vseq_eq _ _ h3,fun b blk hb=>holds_mem h4 b blk hb,e1.symm⟩
  |false=>
   rw[hx,cond_false]at h';obtain⟨y,hy,e⟩:=rdF_some h';exact⟨y,List.mem_cons_of_mem _ hy,e⟩
def ws0(n:Nat)(s:Rd):Ws:=⟨argTr n s.args,s.m0,s.c,[]⟩
theorem extNo(E E':Env):Ext (fun _=>False) E E':=⟨fun _ h=>h.elim,fun _ h=>h.elim,fun _ h=>h.elim⟩
theorem Ext.symm{c:Nat→Prop}{E E':Env}(h:Ext c E E'):Ext c E' E:=⟨fun b hb=>(h.ρ b hb).symm,fun b hb=>(h.β b hb).symm,fun b hb=>(h.κ b hb).symm⟩
def RdOk(Φ:Nat→Option CF)(tabs:List Tab)(f:Nat)(s:Rd):Prop:=∀ty,Calls Φ (tabF tabs ty) f s.args (setAll .e s.m0) s.c fun v M _=>v=s.v∧ ∀b blk,(b,blk)∈s.m0→M.get b=some blk
theorem callC_denE{Φ:Nat→Option CF}{n:Nat}{F:RO}{f:Nat}{args:List V}{M:Mem}{c:Nat}{cf:Option CF}(h:callC (exec Φ n) F f args M c cf≠ .f):callC (den Φ) F f args M c cf=callC (exec Φ n) F f args M c cf:=by
 cases cf with
 |none=>rfl
 |some cf=>
  cases cf with
  |orc g=>rfl
  |mk n' res body=>
   have hx:exec Φ n none f F body (.mk (argTr n' args) [] M c)≠ .f:=by
    intro e;apply h;show finish res F (delay (exec Φ n none f F body (.mk (argTr n' args) [] M c)))= .f;rw[e];rfl
   show finish res F (delay (den Φ none f F body (.mk (argTr n' args) [] M c)))=finish res F (delay (exec Φ n none f F body (.mk (argTr n' args) [] M c)));rw[den_of hx]
theorem rd_run{Φ:Nat→Option CF}{fuel f:Nat}{tabs:List Tab}{s:Rd}(h:∀ty,rdRun Φ fuel f (tabF tabs ty) s=true):RdOk Φ tabs f s:=by
 intro ty
 have h1:=h ty
 unfold rdRun at h1
 cases hx:callC (exec Φ fuel) (tabF tabs ty) f s.args (setAll .e s.m0) s.c (Φ f)with
 |f=>rw[hx]at h1;cases h1
 |k v M c1=>
  rw[hx]at h1;obtain⟨h2,h3⟩:=an2 (show(veq s.v v&&holds M s.m0)=true from h1);refine⟨v,M,c1,?_,(veq_eq _ _ h2).symm,fun b blk hb=>holds_mem h3 b blk hb⟩;rw[callC_denE (n:=fuel) (by rw[hx];exact fun e=>by cases e),hx]
theorem rel_join{P:Program}{E:Env}{F:RO}{M M0:Mem}{c:Nat→Prop}{w:World}{L:List Tab}(hr:Rel P E F M c w)(hglob:∀g,g<1000→E.ρ g=g∧E.β g=0)(hbig:∀g,g<1000→c g)(h:tabsIn F L=true)(hM:∀b blk,M0.get b=some blk→M.get b=some blk):∃ty,Rel P E (tabF L ty) M0 c w:=by
 obtain⟨ty,h1⟩:=rel_tabsIn hr hglob h
 have hall:=tabsIn_mem h
 have hF:∀b blk,roGet (tabF L ty) b=some blk→(roGet F b).isSome=true:=by
  intro b blk hb;obtain⟨t,ht,e,_⟩:=tabF_get hb;subst e;have h2:=(hall t ht).2;unfold tabIn at h2;split at h2
  ·rename_i hF;rw[hF];rfl
  ·cases h2
 have hlk:∀b,(look (tabF L ty) M0 b).isSome→(look F M b).isSome:=by
  intro b hb;obtain⟨blk,hb⟩:=Option.isSome_iff_exists.1 hb;cases hm:M0.get b with
  |some x=>rw[look_some_M (hM b x hm)];rfl
  |none=>
   rw[look_none_M hm]at hb;have h3:=hF b blk hb;rw[look_none_M (hr.apart b h3)];exact h3
 refine⟨ty,⟨?_,fun b b' h1 h2 e=>hr.inj b b' (hlk b h1) (hlk b' h2) e,?_⟩⟩
 ·intro b blk hb;cases hm:M0.get b with
  |some x=>
   rw[look_some_M hm]at hb;obtain rfl:=Option.some.inj hb;exact hr.has b _ (look_some_M (hM b _ hm))
  |none=>
   rw[look_none_M hm]at hb;obtain⟨g1,g2,g3⟩:=h1.has b blk (by rw[look_none_M (show(Tr.e:Mem).get b=none from rfl)];exact hb);exact⟨hbig b g1,bdBlk_mono (fun b hb=>hbig b hb) _ g2,g3⟩
 ·intro b hb;obtain⟨blk,hb⟩:=Option.isSome_iff_exists.1 hb;cases hm:M0.get b with
  |none=>rfl
  |some x=>have:=hM b x hm;rw[hr.apart b (hF b blk hb)]at this;cases this
theorem Stp.noF{P:Program}{F:RO}{E E':Env}{M N:Mem}{c c':Nat→Prop}{w w':World}(h:Stp P F E M c w E' N c' w'):Stp P [] E M c w E' N c' w':=by
 have hl:∀b blk,look [] N b=some blk→look F N b=some blk:=by
  intro b blk hb;cases hn:N.get b with
  |none=>rw[look_none_M hn]at hb;cases hb
  |some x=>rw[look_some_M hn]at hb;rw[look_some_M hn];exact hb
 have hl':∀b,(look [] N b).isSome→(look F N b).isSome:=by
  intro b hb;obtain⟨x,hx⟩:=Option.isSome_iff_exists.1 hb;rw[hl b x hx];rfl
 exact⟨h.ext,h.le,⟨fun b blk hb=>h.rel.has b blk (hl b blk hb),fun b b' h1 h2 e=>h.rel.inj b b' (hl' b h1) (hl' b' h2) e,fun b hb=>by cases hb⟩,h.own,h.frame,h.size,h.os,h.output,h.tape⟩
theorem orc_rd{P:Program}(hm:P.follows .mixedOrders=true){Φ0:Nat→Option CF}(hΦ0:PhiOk P Φ0){fuel f:Nat}{tabs:List Tab}{L:List Rd}(hL:∀s∈L,nlV s.v=true∧ ∃Φ,PhiOk P Φ∧RdOk Φ tabs f s):OrcOk P f (rdE Φ0 fuel f tabs L):=by
 intro F args M ct v N ct' hg E c w hr hglob hbig hf ha
 unfold rdE at hg
 split at hg
 rotate_left
 ·exact callOk_of (rd:=none) (fn:=0) (F₀:=[]) hΦ0 (exec_sound hm hΦ0 fuel) F f args M ct v N ct' hg E c w hr hglob hbig hf ha
 rename_i x hx
 unfold rdC at hg
 cases htb:tabsIn F tabs with
 |false=>rw[htb]at hg;cases hg
 |true=>
 rw[htb,cond_true]at hg
 injection hg with e1 e2 e3
 subst e1 e2 e3
 obtain⟨s,hs,hc,hargs,hM,rfl⟩:=rdF_some hx
 obtain⟨hv,Φ,hΦ,hgo⟩:=hL s hs
 have hv:=nlV_bd _ hv
 subst hc hargs
 have hsub:SubMem [] (setAll .e s.m0) F M:=by
  refine⟨fun b blk hb=>?_,fun b blk hb=>(by cases hb),fun b hb=>(by cases hb)⟩;rcases setAll_get _ _ b blk hb with h|⟨h,_⟩
  ·exact hM b blk h
  ·cases h
 obtain⟨ty,hrel⟩:=rel_join hr hglob hbig htb hsub.m
 obtain⟨v1,M1,c1,hx,rfl,hM1⟩:=hgo ty
 obtain⟨fn,k1,k2,k3,hC⟩:=callOk_of (rd:=none) (fn:=0) (F₀:=[]) hΦ (den_ok hm hΦ) (tabF tabs ty) f s.args (setAll .e s.m0) s.c s.v M1 c1 hx E c w hrel hglob hbig hf ha
 refine⟨fn,k1,k2,k3,hC.mono ?_⟩
 rintro e w' ⟨E',c',rfl,hS,hb,hG⟩
 have hS2:Stp P F E M c w E' M c' w':=by
  refine hS.noF.framed hsub hr fun b blk hN=>?_;cases h0:(setAll .e s.m0:Mem).get b with
  |none=>exact .inr ⟨hN,rfl⟩
  |some x=>
   have hx2:=hsub.m b x h0;rw[hN]at hx2;rcases setAll_get _ _ b x h0 with h|⟨h,_⟩
   ·left;rw[hM1 b x h,hx2]
   ·cases h
 have hhas:∀b blk,look F M b=some blk→c b∧bdBlk c blk∧ ∃o,w'.heap[E.ρ b]?=some o∧BlkRel P E b blk o:=by
  intro b blk hb;obtain⟨g1,g2,_⟩:=hr.has b blk hb;obtain⟨_,_,o,ho,g3⟩:=hS2.rel.has b blk hb;exact⟨g1,g2,o,by rw[←hS.ext.ρ b g1];exact ho,g3.ext hS.ext.symm g1 g2⟩
 exact⟨E,c,by rw[conc_ext (extNo E E') s.v hv],⟨.refl c E,fun _ h=>h,⟨hhas,hr.inj,hr.apart⟩,fun b hb=> .inl ⟨b,hb,rfl⟩,hS2.frame,hS.size,hS.os,hS.output,hS.tape⟩,bd_mono (fun b hb=>hb.elim) s.v hv,.refl _ _⟩
noncomputable section
def tbF(args:List V):List (List V×V)→Option V
 |[]=>none
 |s::r=>bif vseq s.1 args then some s.2 else tbF args r
def tbE(Φ:Nat→Option CF)(fuel f:Nat)(L:List (List V×V))(F:RO)(args:List V)(M:Mem)(c:Nat):RC:=match tbF args L with
 |some v=> .k v M c
 |none=>callC (exec Φ fuel) F f args M c (Φ f)
def tbChk(v:V):RC→Bool
 | .k w _ _=>veq v w
 | .f=>false
def tbRun(Φ:Nat→Option CF)(fuel f:Nat)(s:List V×V):Bool:=tbChk s.2 (callC (exec Φ fuel) [] f s.1 .e 1000 (Φ f))
end
theorem tbF_some{args:List V}{v:V}:∀{L:List (List V×V)},tbF args L=some v→ ∃s∈L,s.1=args∧v=s.2
 |s::r,h=>by
  have h':(bif vseq s.1 args then some s.2 else tbF args r)=some v:=h;cases hx:vseq s.1 args with
  |true=>
   rw[hx,cond_true]at h';injection h' with e1
   exact⟨s,List.mem_cons_self ..,vseq_eq _ _ hx,e1.symm⟩
  |false=>
   rw[hx,cond_false]at h';obtain⟨y,hy,e⟩:=tbF_some h';exact⟨y,List.mem_cons_of_mem _ hy,e⟩
theorem orc_tb{P:Program}(hm:P.follows .mixedOrders=true){Φ0:Nat→Option CF}(hΦ0:PhiOk P Φ0){fuel f:Nat}{L:List (List V×V)}(hL:∀s∈L,(nlVs s.1&&nlV s.2)=true∧ ∃Φ,PhiOk P Φ∧ ∃M1 c1,callC (den Φ) [] f s.1 .e 1000 (Φ f)= .k s.2 M1 c1):OrcOk P f (tbE Φ0 fuel f L):=by
 intro F args M ct v N ct' hg E c w hr hglob hbig hf ha
 unfold tbE at hg
 split at hg
 rotate_left
 ·exact callOk_of (rd:=none) (fn:=0) (F₀:=[]) hΦ0 (exec_sound hm hΦ0 fuel) F f args M ct v N ct' hg E c w hr hglob hbig hf ha
 rename_i x hx
 injection hg with e1 e2 e3
 subst e1 e2 e3
 obtain⟨s,hs,rfl,rfl⟩:=tbF_some hx
 obtain⟨hn,Φ,hΦ,M',ct2,hk⟩:=hL s hs
 obtain⟨n1,n2⟩:=an2 hn
 have h1:=nlVs_bd _ n1
 have h2:=nlV_bd _ n2
 obtain⟨fn,g1,g2,g3,hC⟩:=callOk_of (rd:=none) (fn:=0) (F₀:=[]) hΦ (den_ok hm hΦ) [] f s.1 .e 1000 s.2 M' ct2 hk E0 c0 w rel_none (fun g _=>⟨rfl,rfl⟩) (fun g hg=>hg) (fun b hb hc=>Nat.lt_irrefl _ (Nat.lt_of_lt_of_le hc hb)) (bds_mono (fun b hb=>hb.elim) _ h1)
 have hargs:concs E0 s.1=concs E s.1:=concs_ext (extNo E E0) s.1 h1
 rw[hargs]at hC
 refine⟨fn,g1,g2,g3,hC.mono ?_⟩
 rintro e w' ⟨E',c',rfl,hS,hb,hG⟩
 have hfr:∀r,r<w.heap.size→w'.heap[r]?=w.heap[r]?:=fun r hr'=>hS.frame r hr' (fun b hb=>by cases hb)
 have hhas:∀b blk,look F M b=some blk→c b∧bdBlk c blk∧ ∃o,w'.heap[E.ρ b]?=some o∧BlkRel P E b blk o:=by
  intro b blk hb;obtain⟨g1,g2,o,ho,g3⟩:=hr.has b blk hb;exact⟨g1,g2,o,by rw[hfr _ (Array.getElem?_eq_some_iff.1 ho).1];exact ho,g3⟩
 exact⟨E,c,by rw[conc_ext (extNo E E') s.2 h2],⟨.refl c E,fun _ h=>h,⟨hhas,hr.inj,hr.apart⟩,fun b hb=> .inl ⟨b,hb,rfl⟩,fun r hr' _=>hfr r hr',hS.size,hS.os,hS.output,hS.tape⟩,bd_mono (fun b hb=>hb.elim) s.2 h2,.refl _ _⟩
theorem tb_run{Φ:Nat→Option CF}{fuel f:Nat}{s:List V×V}(h:tbRun Φ fuel f s=true):∃M1 c1,callC (den Φ) [] f s.1 .e 1000 (Φ f)= .k s.2 M1 c1:=by
 unfold tbRun at h
 cases hx:callC (exec Φ fuel) [] f s.1 .e 1000 (Φ f)with
 |f=>rw[hx]at h;cases h
 |k v M c1=>
  rw[hx]at h;refine⟨M,c1,?_⟩;rw[callC_denE (n:=fuel) (by rw[hx];exact fun e=>by cases e),hx,veq_eq _ _ (show veq s.2 v=true from h)]
noncomputable section
def nmB(lo hi:Nat):List (Nat×Blk)→Bool
 |[]=>true
 |x::r=>(Nat.ble lo x.1&&Nat.blt x.1 hi)&&nmB lo hi r
def oldB(M0:Mem)(c0:Nat):List (Nat×Blk)→Bool
 |[]=>true
 |x::r=>(bif Nat.ble c0 x.1 then true else obk (M0.get x.1) x.2)&&oldB M0 c0 r
def grB(m0:List (Nat×Blk))(w:Ws)(c0:Nat):Bool:=(Nat.ble c0 w.c&&nmB 0 w.c w.m)&&(holds w.mem m0&&oldB (setAll .e m0) c0 w.m)
def tabB:List Tab→Bool
 |[]=>true
 |t::r=>Nat.blt t.1 1000&&tabB r
end
theorem nmB_mem{lo hi:Nat}:∀{l:List (Nat×Blk)},nmB lo hi l=true→ ∀x∈l,lo≤x.1∧x.1<hi
 |y::r,h,x,hx=>by
  obtain⟨h1,h2⟩:=an2 (show((Nat.ble lo y.1&&Nat.blt y.1 hi)&&nmB lo hi r)=true from h);obtain⟨h3,h4⟩:=an2 h1;rw[bleN]at h3;rw[bltN]at h4;rcases List.mem_cons.1 hx with rfl|hx
  ·exact⟨of_decide_eq_true h3,of_decide_eq_true h4⟩
  ·exact nmB_mem h2 x hx
theorem oldB_mem{M0:Mem}{c0:Nat}:∀{l:List (Nat×Blk)},oldB M0 c0 l=true→ ∀x∈l,x.1<c0→M0.get x.1=some x.2
 |y::r,h,x,hx,hc=>by
  obtain⟨h1,h2⟩:=an2 (show((bif Nat.ble c0 y.1 then true else obk (M0.get y.1) y.2)&&oldB M0 c0 r)=true from h);rcases List.mem_cons.1 hx with rfl|hx
  ·rw[bleN,decide_eq_false (by omega),cond_false]at h1;exact obk_eq h1
  ·exact oldB_mem h2 x hx hc
theorem set_in{m:List (Nat×Blk)}{b:Nat}{blk:Blk}(h:(setAll .e m:Mem).get b=some blk):(b,blk)∈m:=by
 rcases setAll_get _ _ b blk h with h|⟨h,_⟩
 ·exact h
 ·cases h
theorem shp_get:∀(ks:List Nat) (b:Nat),(shp ks).get b=none
 |[],b=>rfl
 |k::r,b=>by
  show(Tr.del (Tr.set (shp r) k (.cells 0 0 true 0 false [] .e)) k).get b=none;rw[Tr.get_del];by_cases h:b=k
  ·rw[if_pos h]
  ·rw[if_neg h,Tr.get_set,if_neg h];exact shp_get r b
theorem ws_in{w:Ws}{b:Nat}{blk:Blk}(h:w.mem.get b=some blk):(b,blk)∈w.m:=by
 rcases setAll_get _ _ b blk h with h|⟨h,_⟩
 ·exact h
 ·rw[shp_get]at h;cases h
theorem gr_w{m0:List (Nat×Blk)}{w:Ws}{c0:Nat}(h:grB m0 w c0=true):Gr c0 (setAll .e m0) w.c w.mem:=by
 obtain⟨h1,h2⟩:=an2 h
 obtain⟨h3,h4⟩:=an2 h1
 obtain⟨h5,h6⟩:=an2 h2
 rw[bleN]at h3
 refine⟨of_decide_eq_true h3,fun b hb=>?_,fun b hb=>?_⟩
 ·cases hx:w.mem.get b with
  |some blk=>exact(oldB_mem h6 _ (ws_in hx) hb).symm
  |none=>
   cases hy:(setAll .e m0:Mem).get b with
   |none=>rfl
   |some blk=>rw[holds_mem h5 _ _ (set_in hy)]at hx;cases hx
 ·cases hx:w.mem.get b with
  |none=>rfl
  |some blk=>have:=(nmB_mem h4 _ (ws_in hx)).2;omega
theorem okm_w{tabs:List Tab}{ty:Nat→Nat}{m0:List (Nat×Blk)}{c0:Nat}(ht:tabB tabs=true)(h:nmB 1000 c0 m0=true)(hc:Nat.ble 1000 c0=true):Okm (tabF tabs ty) (setAll .e m0) c0:=by
 rw[bleN]at hc
 have hc:=of_decide_eq_true hc
 have hT:∀(L:List Tab),tabB L=true→ ∀t∈L,t.1<1000:=by
  intro L
  induction L with
  |nil=>intro _ t ht;cases ht
  |cons x r ih=>
   intro h t ht;obtain⟨h1,h2⟩:=an2 (show(Nat.blt x.1 1000&&tabB r)=true from h);rw[bltN]at h1;rcases List.mem_cons.1 ht with rfl|ht
   ·exact of_decide_eq_true h1
   ·exact ih h2 t ht
 have hF:∀b,(roGet (tabF tabs ty) b).isSome→b<1000:=by
  intro b hb;obtain⟨blk,hb⟩:=Option.isSome_iff_exists.1 hb;obtain⟨t,h1,rfl,_⟩:=tabF_get hb;exact hT tabs ht t h1
 have hm:∀b,(setAll .e m0:Mem).get b≠none→1000≤b∧b<c0:=by
  intro b hb;cases hx:(setAll .e m0:Mem).get b with
  |none=>exact absurd hx hb
  |some blk=>exact nmB_mem h _ (set_in hx)
 refine⟨fun b hb=>?_,fun b hb=>?_,fun b hb=>?_,hc⟩
 ·cases hx:(setAll .e m0:Mem).get b with
  |none=>rfl
  |some blk=>have:=hm b (by rw[hx];simp);omega
 ·cases hx:roGet (tabF tabs ty) b with
  |none=>rfl
  |some blk=>have:=hF b (by rw[hx];rfl);omega
 ·cases hx:(setAll .e m0:Mem).get b with
  |none=>rfl
  |some blk=>have:=hm b (by rw[hx];simp);have:=hF b hb;omega
theorem get_w{M:Mem}{b:Nat}{blk:Blk}(h:holds M [(b,blk)]=true):M.get b=some blk:=holds_mem h b blk (List.mem_cons_self ..)
theorem kept_w{m0:List (Nat×Blk)}{c0 c':Nat}{M':Mem}(hg:Gr c0 (setAll .e m0) c' M')(h:nmB 1000 c0 m0=true)(hh:holds (setAll .e m0) m0=true):∀b blk,(b,blk)∈m0→M'.get b=some blk:=fun b blk hb=>by
 rw[hg.old b (nmB_mem h _ hb).2];exact holds_mem hh b blk hb
theorem sl_w{F:RO}{m:List (Nat×Blk)}{ab ty c n sz:Nat}{row:List V}(h:holds (setAll .e m) [(ab,rowU ty (List.replicate n row).flatten)]=true)(hb:Nat.blt ab c=true)(hr:row.length=sz):SlAt F (setAll .e m) c sz (.u ab 0 n 0 n) (List.replicate n row):=by
 rw[bltN]at hb
 refine⟨fun e he=>by rw[(List.mem_replicate.1 he).2];exact hr,.inr ⟨ab,0,.inr ⟨0,n,by rw[List.length_replicate];omega,by rw[List.length_replicate]⟩,of_decide_eq_true hb,(rowAt_U (get_w h)).cells⟩⟩
noncomputable section
def repN(x p k:Nat):Nat:=Nat.rec 0 (fun _ r=>Nat.add x (Nat.mul p r)) k
end
theorem strN_app:∀(a b:List UInt8),strN (a++b)=strN a+256^a.length*strN b
 |[],b=>by simp[strN]
 |x::a,b=>by
  show x.toNat+256*strN (a++b)=(x.toNat+256*strN a)+256^(a.length+1)*strN b;rw[strN_app a b,Nat.pow_succ,Nat.mul_comm (256^a.length) 256,Nat.mul_add,Nat.mul_assoc];omega
theorem strN_rep(l:List UInt8):∀k,strN (List.replicate k l).flatten=repN (strN l) (256^l.length) k
 |0=>rfl
 |k+1=>by
  rw[List.replicate_succ,List.flatten_cons,strN_app,strN_rep l k];rfl
theorem len_rep(l:List UInt8)(k:Nat):(List.replicate k l).flatten.length=k*l.length:=by
 rw[List.length_flatten,List.map_replicate,List.sum_replicate_nat]
noncomputable section
def repD(x m k:Nat):Nat:=Nat.div (Nat.mul x (Nat.pred (Nat.pow 256 (Nat.mul m k)))) (Nat.pred (Nat.pow 256 m))
end
theorem repN_mul(x p:Nat)(hp:0<p):∀k,repN x p k*(p-1)+x=x*p^k
 |0=>by show 0*(p-1)+x=x*1;omega
 |k+1=>by
  have ih:=repN_mul x p hp k;show(x+p*repN x p k)*(p-1)+x=x*p^(k+1);obtain⟨q,rfl⟩:∃q,p=q+1:=⟨p-1,by omega⟩
  rw[Nat.add_sub_cancel]at ih⊢;rw[Nat.pow_succ,←Nat.mul_assoc,←ih];rw[Nat.add_mul,Nat.mul_assoc (q+1),Nat.add_mul _ x,Nat.mul_comm (q+1) (repN x (q+1) k*q),Nat.mul_add x q 1,Nat.mul_one];omega
theorem repN_D(x m k:Nat)(hm:0<m):repN x (256^m) k=repD x m k:=by
 have hp:1<256^m:=Nat.one_lt_pow (by omega) (by omega)
 have h:=repN_mul x (256^m) (by omega) k
 have e:x*(256^(m*k)-1)=repN x (256^m) k*(256^m-1):=by
  rw[Nat.mul_sub,Nat.mul_one,Nat.pow_mul];omega
 show repN x (256^m) k=x*(256^(m*k)-1)/(256^m-1)
 rw[e,Nat.mul_div_cancel _ (by omega)]
theorem str_rep{h l:List UInt8}{k n x j m a b:Nat}(hj:h.length=j)(hm:l.length=m)(ha:strN h=a)(hb:strN l=b)(h0:0<m)(hn:Nat.beq (Nat.add j (Nat.mul k m)) n=true)(hx:Nat.beq (Nat.add a (Nat.mul (Nat.pow 256 j) (repD b m k))) x=true):sV (h++(List.replicate k l).flatten)= .s n x:=by
 have h1:=nbeq hn
 have h2:=nbeq hx
 subst hj hm ha hb
 show V.s (h++(List.replicate k l).flatten).length (strN (h++(List.replicate k l).flatten))=_
 rw[List.length_append,len_rep,strN_app,strN_rep,repN_D _ _ _ h0]
 exact congr (congrArg V.s h1) h2
theorem strN_blt{n x:Nat}(h:Nat.blt x (Nat.pow 256 n)=true):strN (bl n x)=x:=by
 rw[bltN]at h
 have h:x<256^n:=of_decide_eq_true h
 have h1:=bl_inj n (strN (bl n x)) x (by have:=strN_bl (bl n x);rw[bl_length]at this;exact this)
 have h2:∀l:List UInt8,strN l<256^l.length:=by
  intro l
  induction l with
  |nil=>exact Nat.one_pos
  |cons a r ih=>
   have:=UInt8.toNat_lt a;show a.toNat+256*strN r<256^(r.length+1);rw[Nat.pow_succ];omega
 have h3:=h2 (bl n x)
 rw[bl_length]at h3
 rwa [Nat.mod_eq_of_lt h3,Nat.mod_eq_of_lt h]at h1
theorem sV_bl{n x:Nat}(h:Nat.blt x (Nat.pow 256 n)=true):sV (bl n x)= .s n x:=by
 show V.s (bl n x).length (strN (bl n x))=_
 rw[bl_length,strN_blt h]
theorem calls_tb{Φ Φ0:Nat→Option CF}{fuel f:Nat}{L:List (List V×V)}{F:RO}{args:List V}{M:Mem}{c:Nat}{v:V}(hf:Φ f=some (.orc (tbE Φ0 fuel f L)))(h:tbF args L=some v):Calls Φ F f args M c fun v' M' c'=>v'=v∧M'=M∧c'=c:=by
 refine⟨v,M,c,?_,rfl,rfl,rfl⟩
 rw[hf]
 show tbE Φ0 fuel f L F args M c=_
 unfold tbE
 rw[h]
structure Cv where
 c0:Nat
 t0:T
 d0:List Nat
 m0:List (Nat×Blk)
 e:Ex
 t1:T
 d1:List Nat
 m1:List (Nat×Blk)
 c1:Nat
noncomputable section
def bkeq2:Blk→Blk→Bool
 | .defs a,w=>match w with| .defs b=>beqB a b|_=>false
 |x,w=>bkeq x w
def obk2(o:Option Blk)(blk:Blk):Bool:=match o with
 |some x=>bkeq2 x blk
 |none=>false
def holds2(M:Mem):List (Nat×Blk)→Bool
 |[]=>true
 |(b,blk)::r=>obk2 (M.get b) blk&&holds2 M r
def nseq:List Nat→List Nat→Bool
 |[],[]=>true
 |x::r,y::s=>Nat.beq x y&&nseq r s
 |_,_=>false
def cvChk(s:Cv):Rs→Bool
 | .k e (.mk t d M c)=>(exeq s.e e&&(treq s.t1 t&&(Nat.beq s.c1 c&&nseq s.d1 d)))&&holds2 M s.m1
 |_=>false
def cvRun(Φ:Nat→Option CF)(fuel fn:Nat)(F:RO)(cc:CC)(s:Cv):Bool:=cvChk s (exec Φ fuel none fn F cc (.mk s.t0 s.d0 (setAll .e s.m0) s.c0))
def lnk:Nat→CC→List CC
 |0,.seq a _=>[a]
 |k+1,.seq a b=>a::lnk k b
 |_,_=>[]
def lsuf:Nat→CC→Option CC
 |0,.seq _ b=>some b
 |k+1,.seq _ b=>lsuf k b
 |_,_=>none
def execL(Φ:Nat→Option CF)(fuel fn:Nat)(F:RO)(l:List CC):Rs→Rs:=List.rec (motive:=fun _=>Rs→Rs) (fun r=>r) (fun x _ ih r=>match r with
 | .k .nrm (.mk t d M c)=>ih (exec Φ fuel none fn F x (.mk t d M c))
 |_=> .f) l
def cvLnk(Φ:Nat→Option CF)(fuel fn:Nat)(F:RO)(k:Nat)(cc:CC)(s:Cv):Bool:=cvChk s (execL Φ fuel fn F (lnk k cc) (.k .nrm (.mk s.t0 s.d0 (setAll .e s.m0) s.c0)))
def cvRds(Φ:Nat→Option CF)(fuel fn:Nat)(F:RO)(b:CC):Nat→Rs→Rs
 |0,r=>r
 |k+1,r=>match r with
  | .k .nrm (.mk t d M c)=>cvRds Φ fuel fn F b k (exec Φ fuel none fn F b (.mk t d M c))
  |_=> .f
def cvRnd(Φ:Nat→Option CF)(fuel fn:Nat)(F:RO)(b:CC)(k:Nat)(s:Cv):Bool:=cvChk s (cvRds Φ fuel fn F b k (.k .nrm (.mk s.t0 s.d0 (setAll .e s.m0) s.c0)))
def pvEnd(F:RO)(res:List RV)(s:Cv)(v:V):Bool:=isEnd s.e&&(match takeDefs s.d1 (setAll .e s.m1)with
 |some M=>(match resV F M s.t1 res with
  |some vs=>veq (oneV vs) v
  |none=>false)
 |none=>false)
end
theorem bkeq2_eq{a b:Blk}(h:bkeq2 a b=true):a=b:=by
 cases a with
 |defs x=>
  cases b with
  |defs y=>exact congrArg _ (beqB_eq h)
  |_=>cases h
 |_=>exact bkeq_eq h
theorem holds2_mem{M:Mem}:∀{l:List (Nat×Blk)},holds2 M l=true→ ∀b blk,(b,blk)∈l→M.get b=some blk
 |(b',blk')::r,h,b,blk,hm=>by
  obtain⟨h1,h2⟩:=an2 (show(obk2 (M.get b') blk'&&holds2 M r)=true from h);rcases List.mem_cons.1 hm with e|e
  ·injection e with e1 e2
   subst e1 e2;unfold obk2 at h1;split at h1
   ·rename_i x hx;rw[hx,bkeq2_eq h1]
   ·cases h1
  ·exact holds2_mem h2 b blk e
theorem nseq_eq:∀{a b:List Nat},nseq a b=true→a=b
 |[],[],_=>rfl
 |x::r,y::s,h=>by
  obtain⟨h1,h2⟩:=an2 (show(Nat.beq x y&&nseq r s)=true from h);rw[nbeq h1,nseq_eq h2]
theorem cvChk_some{s:Cv}{r:Rs}(h:cvChk s r=true):∃M,r= .k s.e (.mk s.t1 s.d1 M s.c1)∧holds2 M s.m1=true:=by
 unfold cvChk at h
 split at h
 ·rename_i e t d M c;obtain⟨h1,h2⟩:=an2 h;obtain⟨h3,h4⟩:=an2 h1;obtain⟨h5,h6⟩:=an2 h4;obtain⟨h7,h8⟩:=an2 h6;refine⟨M,?_,h2⟩;rw[exeq_eq h3,treq_eq _ _ h5,nbeq h7,nseq_eq h8]
 ·cases h
section
variable{P:Program}{nt:Nat}{F:RO}
theorem stp_cut{E E':Env}{c c':Nat→Prop}{w w':World}{M M1:Mem}{m1:List (Nat×Blk)}(hr:Rel P E F M c w)(hS:Stp P F E M c w E' M1 c' w')(h:holds2 M1 m1=true):Stp P F E M c w E' (setAll .e m1) c' w':=by
 have hsub:SubMem F M F M:=⟨fun _ _ h=>h,fun b blk hb=>by rw[look_none_M (hr.apart b (by rw[hb];rfl))];exact hb,fun b hb=>hr.apart b hb⟩
 refine hS.framed hsub hr fun b blk hN=> .inl ?_
 rcases setAll_get _ _ b blk hN with h1|⟨h1,_⟩
 ·exact holds2_mem h b blk h1
 ·cases h1
theorem sr_cut{E:Env}{c:Nat→Prop}{w:World}{a:Act}{M N:Mem}{t:T}{d:List Nat}{ct:Nat}(h:SR P [] F none nt E c w a t d M ct)(hr:Rel P E F N c w):SR P [] F none nt E c w a t d N ct:=
 ⟨⟨hr,h.cx.glob,h.cx.big,h.cx.tr,h.cx.bt⟩,h.fr,h.df,h.dc,h.sz,h.rd⟩
def Pv(P:Program)(F:RO)(nt:Nat)(cc:CC)(s:Cv):Prop:=∀(code:Code),Sim P nt code cc→ ∀(E:Env) (c:Nat→Prop) (w:World) (a:Act),SR P [] F none nt E c w a s.t0 s.d0 (setAll .e s.m0) s.c0→
 ∀Q:Exit→Act→World→Prop,(∀E' c' a' w',Stp P F E (setAll .e s.m0) c w E' (setAll .e s.m1) c' w'→Grow c s.c0 c' s.c1→SR P [] F none nt E' c' w' a' s.t1 s.d1 (setAll .e s.m1) s.c1→Q (exOf s.e) a' w')→code.wpIn (fence E none) 0 P Q a w
def PvL(P:Program)(F:RO)(nt:Nat)(b:CC)(s:Cv):Prop:=∃m,∀(code:Code),Sim P nt code b→ ∀(E:Env) (c:Nat→Prop) (w:World) (a:Act),SR P [] F none nt E c w a s.t0 s.d0 (setAll .e s.m0) s.c0→
 ∀Q:Exit→Act→World→Prop,(∀E' c' a' w',Stp P F E (setAll .e s.m0) c w E' (setAll .e s.m1) c' w'→Grow c s.c0 c' s.c1→SR P [] F none nt E' c' w' a' s.t1 s.d1 (setAll .e s.m1) s.c1→Q (exOf s.e) a' w')→Code.roundsIn (fence E none) 0 P code Q m a w
theorem pv_den(hm:P.follows .mixedOrders=true){Φ:Nat→Option CF}(hΦ:PhiOk P Φ){fn:Nat}{cc:CC}{s:Cv}(h:∃r,den Φ none fn F cc (.mk s.t0 s.d0 (setAll .e s.m0) s.c0)=r∧cvChk s r=true):Pv P F nt cc s:=by
 obtain⟨r,hr,hc⟩:=h
 obtain⟨M1,hx,h1⟩:=cvChk_some hc
 rw[hx]at hr
 intro code hs E c w a hSR Q hQ
 refine den_ok hm hΦ none fn F cc s.t0 s.d0 (setAll .e s.m0) s.c0 s.e s.t1 s.d1 M1 s.c1 hr nt code hs E c w a hSR Q ?_
 rintro a' w' ⟨E',c',hS,hG,hR⟩
 have hS':=stp_cut hSR.cx.rel hS h1
 exact hQ E' c' a' w' hS' hG (sr_cut hR hS'.rel)
theorem pv_run(hm:P.follows .mixedOrders=true){Φ:Nat→Option CF}(hΦ:PhiOk P Φ){fuel fn:Nat}{cc:CC}{s:Cv}(h:cvRun Φ fuel fn F cc s=true):Pv P F nt cc s:=by
 refine pv_den hm hΦ (fn:=fn) ⟨exec Φ fuel none fn F cc (.mk s.t0 s.d0 (setAll .e s.m0) s.c0),?_,h⟩
 obtain⟨M1,hx,_⟩:=cvChk_some h
 exact den_of (by rw[hx];exact fun e=>by cases e)
def jn(s1 s2:Cv):Cv:=⟨s1.c0,s1.t0,s1.d0,s1.m0,s2.e,s2.t1,s2.d1,s2.m1,s2.c1⟩
theorem pv_seq{x y:CC}{s1 s2:Cv}(h1:Pv P F nt x s1)(h2:Pv P F nt y s2)(he:s1.e= .nrm)(ht:s2.t0=s1.t1)(hd:s2.d0=s1.d1)(hmm:s2.m0=s1.m1)(hc:s2.c0=s1.c1):Pv P F nt (.seq x y) (jn s1 s2):=by
 intro code hs E c w a hSR Q hQ
 obtain⟨cx,cy,rfl,hx,hy⟩:=sim_seq hs
 refine wpIn_seq (h1 cx hx E c w a hSR _ ?_)
 intro E1 c1 a1 w1 hS1 hG1 hR1
 rw[he]
 show cy.wpIn (fence E none) 0 P Q a1 w1
 have hR1':SR P [] F none nt E1 c1 w1 a1 s2.t0 s2.d0 (setAll .e s2.m0) s2.c0:=by rw[ht,hd,hc,hmm];exact hR1
 refine h2 cy hy E1 c1 w1 a1 hR1' Q ?_
 intro E2 c2 a2 w2 hS2 hG2 hR2
 exact hQ E2 c2 a2 w2 (hS1.trans (hmm▸hS2)) (hG1.trans (hc▸hG2)) hR2
theorem pv_block{id:Nat}{x:CC}{s:Cv}(h:Pv P F nt x s){e:Ex}(he:s.e= .ext id∧e= .nrm∨(∀i,s.e≠ .ext i)∧e=s.e):Pv P F nt (.block id x) ⟨s.c0,s.t0,s.d0,s.m0,e,s.t1,s.d1,s.m1,s.c1⟩:=by
 intro code hs E c w a hSR Q hQ
 obtain⟨cx,rfl,hx⟩:=sim_block hs
 refine wpIn_block (h cx hx E c w a hSR _ ?_)
 intro E1 c1 a1 w1 hS1 hG1 hR1
 have hq:=hQ E1 c1 a1 w1 hS1 hG1 hR1
 rcases he with⟨he,rfl⟩|⟨hn,rfl⟩
 ·rw[he];show Exit.inBlock id Q (.exit id) a1 w1;unfold Exit.inBlock;simp only[if_true];exact hq
 ·cases hse:s.e with
  |nrm=>rw[hse]at hq;exact hq
  |ret=>rw[hse]at hq;exact hq
  |gto l=>rw[hse]at hq;exact hq
  |ext i=>exact absurd hse (hn i)
theorem pv_loop{b:CC}{s:Cv}(h:PvL P F nt b s):Pv P F nt (.loop b) s:=by
 intro code hs E c w a hSR Q hQ
 obtain⟨cx,rfl,hx⟩:=sim_loop hs
 obtain⟨m,hL⟩:=h
 exact wpIn_loop_rounds m (hL cx hx E c w a hSR Q hQ)
theorem pvl_run(hm:P.follows .mixedOrders=true){Φ:Nat→Option CF}(hΦ:PhiOk P Φ){fuel fn:Nat}{b:CC}{s:Cv}(h:cvRun Φ fuel fn F (.loop b) s=true):PvL P F nt b s:=by
 obtain⟨M1,hx,h1⟩:=cvChk_some h
 refine⟨fuel,fun code hs E c w a hSR Q hQ=>?_⟩
 have hlp:=(exec_ok hΦ (fun ex hex rd fn F=>drOk_of hm (callOk_of hΦ hex rd fn F) (yieldOk_of hex rd fn F)) fuel).2.1
 refine hlp none fn F b s.t0 s.d0 (setAll .e s.m0) s.c0 s.e s.t1 s.d1 M1 s.c1 hx nt code hs E c w a hSR Q ?_
 rintro a' w' ⟨E',c',hS,hG,hR⟩
 have hS':=stp_cut hSR.cx.rel hS h1
 exact hQ E' c' a' w' hS' hG (sr_cut hR hS'.rel)
theorem cvRds_ok(hm:P.follows .mixedOrders=true){Φ:Nat→Option CF}(hΦ:PhiOk P Φ){fuel fn:Nat}{b:CC}{code:Code}(hs:Sim P nt code b){m:Nat}{Q:Exit→Act→World→Prop}{t':T}{d':List Nat}{M':Mem}{ct':Nat}:∀(k:Nat) (E:Env) (c:Nat→Prop) (w:World) (a:Act) (t:T) (d:List Nat) (M:Mem) (ct:Nat),SR P [] F none nt E c w a t d M ct→
 cvRds Φ fuel fn F b k (.k .nrm (.mk t d M ct))= .k .nrm (.mk t' d' M' ct')→(∀E' c' a' w',Stp P F E M c w E' M' c' w'→Grow c ct c' ct'→SR P [] F none nt E' c' w' a' t' d' M' ct'→Code.roundsIn (fence E none) 0 P code Q m a' w')→Code.roundsIn (fence E none) 0 P code Q (m+k) a w
 |0,E,c,w,a,t,d,M,ct,h,hx,hQ=>by
  have hx':Rs.k .nrm (St.mk t d M ct)= .k .nrm (.mk t' d' M' ct'):=hx;injection hx' with _ hx'
  injection hx' with e1 e2 e3 e4
  subst e1 e2 e3 e4;exact hQ E c a w (.refl h.cx.rel) (.refl _ _) h
 |k+1,E,c,w,a,t,d,M,ct,h,hx,hQ=>by
  have hx':cvRds Φ fuel fn F b k (exec Φ fuel none fn F b (.mk t d M ct))= .k .nrm (.mk t' d' M' ct'):=hx;cases hr:exec Φ fuel none fn F b (.mk t d M ct)with
  |f=>rw[hr]at hx';cases k<;>cases hx'
  |k e s1=>
   obtain⟨t1,d1,M1,ct1⟩:=s1;rw[hr]at hx';have he:e= .nrm:=by
    cases k with
    |zero=>
     have h0:Rs.k e (St.mk t1 d1 M1 ct1)= .k .nrm (.mk t' d' M' ct'):=hx';injection h0 with h1 h2
    |succ k=>
     cases e with
     |nrm=>rfl
     |_=>cases hx'
   subst he;show code.wpIn (fence E none) 0 P (Exit.then (Code.roundsIn (fence E none) 0 P code Q (m+k)) Q) a w;refine exec_sound hm hΦ fuel none fn F b t d M ct .nrm t1 d1 M1 ct1 hr nt code hs E c w a h _ ?_;rintro a1 w1 ⟨E1,c1,hS1,hG1,hR1⟩;show Code.roundsIn (fence E1 none) 0 P code Q (m+k) a1 w1;exact cvRds_ok hm hΦ hs k E1 c1 w1 a1 t1 d1 M1 ct1 hR1 hx' fun E2 c2 a2 w2 hS2 hG2 hR2=>hQ E2 c2 a2 w2 (hS1.trans hS2) (hG1.trans hG2) hR2
theorem pvl_rds(hm:P.follows .mixedOrders=true){Φ:Nat→Option CF}(hΦ:PhiOk P Φ){fuel fn k:Nat}{b:CC}{s1 s2:Cv}(h:cvRnd Φ fuel fn F b k s1=true)(he:s1.e= .nrm)(h2:PvL P F nt b s2)(ht:s2.t0=s1.t1)(hd:s2.d0=s1.d1)(hmm:s2.m0=s1.m1)(hc:s2.c0=s1.c1):PvL P F nt b (jn s1 s2):=by
 obtain⟨M1,hx,h1⟩:=cvChk_some h
 rw[he]at hx
 obtain⟨m,hL⟩:=h2
 refine⟨m+k,fun code hs E c w a hSR Q hQ=>?_⟩
 refine cvRds_ok hm hΦ hs k E c w a s1.t0 s1.d0 (setAll .e s1.m0) s1.c0 hSR hx ?_
 intro E1 c1 a1 w1 hS1 hG1 hR1
 have hS1':=stp_cut hSR.cx.rel hS1 h1
 have hR1':SR P [] F none nt E1 c1 w1 a1 s2.t0 s2.d0 (setAll .e s2.m0) s2.c0:=by rw[ht,hd,hc,hmm];exact sr_cut hR1 hS1'.rel
 refine hL code hs E1 c1 w1 a1 hR1' Q ?_
 intro E2 c2 a2 w2 hS2 hG2 hR2
 exact hQ E2 c2 a2 w2 (hS1'.trans (hmm▸hS2)) (hG1.trans (hc▸hG2)) hR2
theorem lnk_ok(hm:P.follows .mixedOrders=true){Φ:Nat→Option CF}(hΦ:PhiOk P Φ){fuel fn:Nat}{Q:Exit→Act→World→Prop}{t':T}{d':List Nat}{M':Mem}{ct':Nat}{y:CC}:∀(k:Nat) (cc:CC) (code:Code),Sim P nt code cc→lsuf k cc=some y→ ∀(E:Env) (c:Nat→Prop) (w:World) (a:Act) (t:T) (d:List Nat) (M:Mem) (ct:Nat),SR P [] F none nt E c w a t d M ct→
 execL Φ fuel fn F (lnk k cc) (.k .nrm (.mk t d M ct))= .k .nrm (.mk t' d' M' ct')→(∀cy,Sim P nt cy y→ ∀E' c' a' w',Stp P F E M c w E' M' c' w'→Grow c ct c' ct'→SR P [] F none nt E' c' w' a' t' d' M' ct'→cy.wpIn (fence E none) 0 P Q a' w')→code.wpIn (fence E none) 0 P Q a w
 |0,.seq x z,code,hs,hl,E,c,w,a,t,d,M,ct,h,hx,hQ=>by
  obtain⟨cx,cy,rfl,h1,h2⟩:=sim_seq hs;obtain rfl:=Option.some.inj (show some z=some y from hl);have hx':exec Φ fuel none fn F x (.mk t d M ct)= .k .nrm (.mk t' d' M' ct'):=hx;refine wpIn_seq ?_;refine exec_sound hm hΦ fuel none fn F x t d M ct .nrm t' d' M' ct' hx' nt cx h1 E c w a h _ ?_;rintro a1 w1 ⟨E1,c1,hS1,hG1,hR1⟩;exact hQ cy h2 E1 c1 a1 w1 hS1 hG1 hR1
 |k+1,.seq x z,code,hs,hl,E,c,w,a,t,d,M,ct,h,hx,hQ=>by
  obtain⟨cx,cy,rfl,h1,h2⟩:=sim_seq hs;have hx':execL Φ fuel fn F (lnk k z) (exec Φ fuel none fn F x (.mk t d M ct))= .k .nrm (.mk t' d' M' ct'):=hx;have hne:lnk k z≠[]:=by
   cases z<;>cases k<;>first|(cases(show none=some y from hl))|exact List.cons_ne_nil _ _
  cases hr:exec Φ fuel none fn F x (.mk t d M ct)with
  |f=>rw[hr]at hx';cases hk:lnk k z with
   |nil=>exact absurd hk hne
   |cons _ _=>rw[hk]at hx';cases hx'
  |k e s1=>
   obtain⟨t1,d1,M1,ct1⟩:=s1;rw[hr]at hx';have he:e= .nrm:=by
    cases hk:lnk k z with
    |nil=>exact absurd hk hne
    |cons _ _=>
     rw[hk]at hx';cases e with
     |nrm=>rfl
     |_=>cases hx'
   subst he;refine wpIn_seq ?_;refine exec_sound hm hΦ fuel none fn F x t d M ct .nrm t1 d1 M1 ct1 hr nt cx h1 E c w a h _ ?_;rintro a1 w1 ⟨E1,c1,hS1,hG1,hR1⟩;show cy.wpIn (fence E1 none) 0 P Q a1 w1;exact lnk_ok hm hΦ k z cy h2 hl E1 c1 w1 a1 t1 d1 M1 ct1 hR1 hx' fun cy' hy' E2 c2 a2 w2 hS2 hG2 hR2=>hQ cy' hy' E2 c2 a2 w2 (hS1.trans hS2) (hG1.trans hG2) hR2
theorem pv_lnk(hm:P.follows .mixedOrders=true){Φ:Nat→Option CF}(hΦ:PhiOk P Φ){fuel fn k:Nat}{cc y:CC}{s1 s2:Cv}(h:cvLnk Φ fuel fn F k cc s1=true)(hl:lsuf k cc=some y)(he:s1.e= .nrm)(h2:Pv P F nt y s2)(ht:s2.t0=s1.t1)(hd:s2.d0=s1.d1)(hmm:s2.m0=s1.m1)(hc:s2.c0=s1.c1):Pv P F nt cc (jn s1 s2):=by
 obtain⟨M1,hx,h1⟩:=cvChk_some h
 rw[he]at hx
 intro code hs E c w a hSR Q hQ
 refine lnk_ok hm hΦ k cc code hs hl E c w a s1.t0 s1.d0 (setAll .e s1.m0) s1.c0 hSR hx ?_
 intro cy hy E1 c1 a1 w1 hS1 hG1 hR1
 have hS1':=stp_cut hSR.cx.rel hS1 h1
 have hR1':SR P [] F none nt E1 c1 w1 a1 s2.t0 s2.d0 (setAll .e s2.m0) s2.c0:=by rw[ht,hd,hc,hmm];exact sr_cut hR1 hS1'.rel
 show cy.wpIn (fence E1 none) 0 P Q a1 w1
 refine h2 cy hy E1 c1 w1 a1 hR1' Q ?_
 intro E2 c2 a2 w2 hS2 hG2 hR2
 exact hQ E2 c2 a2 w2 (hS1'.trans (hmm▸hS2)) (hG1.trans (hc▸hG2)) hR2
end
theorem orc_pv_max{P:Program}(hm:P.follows .mixedOrders=true){f n:Nat}{fn:Func}(hf:P.funcs[f]?=some fn){res:List RV}{body:CC}(hcomp:comp P fn=some (.mk n res body)){L:List Tab}{gs:List Nat}
 (h:∀ty q tm z,∃s:Cv,s.c0=1000+gs.length∧s.m0=[]∧s.d0=[]∧treq (argTr n []) s.t0=true∧pvEnd ((0,maxBlk tm z)::errF (tabF L ty) q gs 1000) res s (.b true)=true∧Pv P ((0,maxBlk tm z)::errF (tabF L ty) q gs 1000) fn.ntmps body s):OrcOk P f (knownX L gs):=by
 intro F args M ct v N ct' hg E c w hr hglob hbig hf' ha
 cases args with
 |cons a r=>cases hg
 |nil=>
  have hg':(bif (tabsIn F L&&errsIn F gs)&&(maxQ F).isSome then RC.k (.b true) M ct else .f)= .k v N ct':=hg;cases ht:(tabsIn F L&&errsIn F gs)&&(maxQ F).isSome with
  |false=>rw[ht]at hg';cases hg'
  |true=>
   rw[ht]at hg';rw[Bool.and_eq_true,Bool.and_eq_true]at ht;have hg2:RC.k (.b true) M ct= .k v N ct':=hg';injection hg2 with e1 e2 e3
   subst e1 e2 e3;obtain⟨ty,q,tm,z,hrel⟩:=rel_max hr hglob ht.1.1 ht.1.2 ht.2;obtain⟨s,hc0,hm0,hd0,ht0,hend,hpv⟩:=h ty q tm z;have hgl:∀g,g<1000→(errE E F gs).ρ g=g∧(errE E F gs).β g=0:=fun g hg=>⟨((errE_ext E F gs).ρ g hg).trans (hglob g hg).1,((errE_ext E F gs).β g hg).trans (hglob g hg).2⟩;obtain⟨hnm,b,hb,hsim,hres⟩:=comp_some hcomp;refine⟨fn,hf,by rw[hb];rfl,hnm,?_⟩;refine(callsIn_wide (n:=0)).1 (callsIn_of_wp_marks hf hb trivial ?_)
   have hSR:SR P [] ((0,maxBlk tm z)::errF (tabF L ty) q gs 1000) none fn.ntmps (errE E F gs) (fun x=>x<1000+gs.length) w {tmps:=(concs E []).toArray++Array.replicate (fn.ntmps-(concs E []).toArray.size) Go.undef,defers:=[]} s.t0 s.d0 (setAll .e s.m0) s.c0:=by
    rw[←treq_eq _ _ ht0,hm0,hc0,hd0];exact⟨⟨hrel,hgl,fun g hg=>Nat.lt_of_lt_of_le hg (Nat.le_add_right _ _),argTr_rel (errE E F gs) [] _ _,argTr_bd trivial⟩,fun b hb hc=>Nat.lt_irrefl _ (Nat.lt_of_lt_of_le hc hb),rfl,fun b hb=>by simp at hb,by simp;omega,fun l hl=>by cases hl⟩
   refine hpv b hsim (errE E F gs) _ w _ hSR _ ?_;intro E' c' a' w' hS hG hR;obtain⟨he,hv⟩:=an2 hend;split at hv
   rotate_left
   ·cases hv
   rename_i M2 hm2;split at hv
   rotate_left
   ·cases hv
   rename_i vs hvs;have ev:=veq_eq _ _ hv;rw[hm0]at hS
   have key:LeavesInM Fence.wide 0 P fn a'.tmps (fun e w'=>∃E' c',e= .returned (conc E' (.b true))∧Stp P F E M c w E' M c' w'∧bd c' (.b true)∧Grow c ct c' ct) a'.defers .returning w':=by
    rw[hR.df];refine leaves_ok (t:=s.t1) s.d1 (setAll .e s.m1) w' hm2 hR.cx.rel fun w2 hS2=>?_;have hcx:Cx P E' ((0,maxBlk tm z)::errF (tabF L ty) q gs 1000) M2 c' w2 s.t1 a':=⟨hS2.rel,hR.cx.glob,hR.cx.big,hR.cx.tr,hR.cx.bt⟩
    have hres':=results_ok hcx hres hvs;have hST:=hS.trans hS2;have hfr:∀r,r<w.heap.size→w2.heap[r]?=w.heap[r]?:=fun r hr'=>hST.frame r hr' (fun b hb=>by cases hb);have hhas:∀b blk,look F M b=some blk→c b∧bdBlk c blk∧ ∃o,w2.heap[E.ρ b]?=some o∧BlkRel P E b blk o:=by
     intro b blk hb;obtain⟨g1,g2,o,ho,g3⟩:=hr.has b blk hb;exact⟨g1,g2,o,by rw[hfr _ (Array.getElem?_eq_some_iff.1 ho).1];exact ho,g3⟩
    exact⟨_,hres'.1,E,c,by rw[ev];rfl,⟨.refl c E,fun _ h=>h,⟨hhas,hr.inj,hr.apart⟩,fun b hb=> .inl ⟨b,hb,rfl⟩,fun r hr' _=>hfr r hr',hST.size,hST.os,hST.output,hST.tape⟩,trivial,.refl _ _⟩
   cases hse:s.e with
   |nrm=>exact key
   |ret=>exact key
   |ext i=>rw[hse]at he;cases he
   |gto l=>rw[hse]at he;cases he
theorem strN_0:∀n,strN (List.replicate n (0:UInt8))=0
 |0=>rfl
 |n+1=>by
  rw[List.replicate_succ];show(0:UInt8).toNat+256*strN (List.replicate n 0)=0;rw[strN_0 n];rfl
theorem bs_0{F:RO}{M:Mem}{c n ty:Nat}(h:M.get c=some (.cells ty n true 0 false [.i .u8 0] .e)):bsV F M (.l c 0 n n)=some (.s n 0):=by
 have hs:SlB F M (c+1) (.l c 0 n n) (List.replicate n 0):=by
  refine⟨fun e he=>?_,.inr ⟨c,0,.inl ⟨n,by rw[List.length_map,List.length_replicate];exact Nat.le_refl _,by rw[List.length_map,List.length_replicate]⟩,Nat.lt_succ_self _,fun k hk=>?_⟩⟩
  ·obtain⟨x,_,rfl⟩:=List.mem_map.1 he;rfl
  ·rw[flat_bytes]at hk⊢;rw[List.length_map,List.length_replicate]at hk;unfold Ev.load1;rw[look_some_M h];show cell n [.i .u8 0] .e (0+k)=_;rw[cell_eq,Nat.zero_add,if_pos hk,List.getElem?_map,List.getElem?_replicate,if_pos hk];rw[show k%(List.length [V.i .u8 0])=0 from Nat.mod_one k];rfl
 have:=bs_of hs
 rw[this]
 show some (V.s (List.replicate n (0:UInt8)).length (strN (List.replicate n 0)))=_
 rw[List.length_replicate,strN_0]
theorem pv_wp{P:Program}{F:RO}{nt:Nat}(hm:P.follows .mixedOrders=true){Φ:Nat→Option CF}(hΦ:PhiOk P Φ){fn:Nat}{cc:CC}{s:Cv}(h:Wp cc (K Φ none fn F) (.mk s.t0 s.d0 (setAll .e s.m0) s.c0) fun e x=>cvChk s (.k e x)=true):Pv P F nt cc s:=by
 obtain⟨e,x,h1,h2⟩:=h
 exact pv_den hm hΦ ⟨_,(den_eq Φ none fn F cc _).trans h1,h2⟩
theorem pv_bs{P:Program}{F:RO}{nt:Nat}(hm:P.follows .mixedOrders=true){Φ:Nat→Option CF}(hΦ:PhiOk P Φ){fuel fn n ty:Nat}{p1 p2:Pos}{o1:AO}{ops:List CO}{rest:CC}{s:Cv}
 (ha:aop o1 s.c0 s.t0=some (.l s.c0 0 n n,.cells ty n true 0 false [.i .u8 0] .e))
 (hg:(X.t p1).ev (s.t0.setP p1 (.l s.c0 0 n n))= .l s.c0 0 n n)
 (hk:cvChk s (exec Φ fuel none fn F (.seq (.reg ops) rest) (.mk ((s.t0.setP p1 (.l s.c0 0 n n)).setP p2 (.s n 0)) s.d0 ((setAll .e s.m0:Mem).set s.c0 (.cells ty n true 0 false [.i .u8 0] .e)) (s.c0+1)))=true):
 Pv P F nt (.seq (.reg (.mk (some p1) (.a o1) none:: .mk (some p2) (.q (.bs (.t p1))) none::ops)) rest) s:=by
 refine pv_wp hm hΦ (fn:=fn) ?_
 rw[wp_seq,wp_reg,wo_a ha,wo_q (x:= .s n 0) (by rw[v_bs,hg];exact bs_0 (get_same _ _ _)),←wp_reg,←wp_seq]
 obtain⟨M1,hx,_⟩:=cvChk_some hk
 refine⟨s.e,_,exec_K hx,?_⟩
 rw[hx]at hk
 exact hk
def b52_1:CC:=(.reg [(qq a2 (.mv z0)),(qq a3 (.nck z2)),(qq a4 (.fa 0 z3)),(qq a5 (.ld1 z4)),(qq a6 (.eq false .ptr true z5 (.c .p0)))])
def b52_2:CC:=(.reg [(qq a7 (.mv z0)),(qq a8 (.mv z0)),(qq a9 (.up z8)),(qq a10 (.mv z9)),(qq a11 (.dn 69 2 z10)),(qq a12 (.nck z7)),(qq a13 (.fa 0 z12)),(ez (.st 1 z13 z11))])
def b52_3:CC:=(.reg [(qq a14 (.mv z0)),(qq a15 (.nck z14)),(qq a16 (.fa 0 z15)),(qq a17 (.ld1 z16)),(qq a18 (.mv z0)),(qq a19 (.eq true .ptr false z17 z18))])
def b52_4:CC:=(.cond z6 b52_2 (.seq b52_3 (.cond z19 .bad .skip)))
def c52:CF:= .mk 5 [] (.seq b52_1 b52_4)
theorem e52(v0:V):argTr 5 [v0]=(.n sk4 (some v0) sk4):=rfl
def B52:=ai @e52 (ai (wu b52_1.eq_1) (ai (wu b52_2.eq_1) (ai (wu b52_3.eq_1) (wu b52_4.eq_1))))
def b110_1:CC:=(.dreg 16 [(0,0,(qq a5 (.mv z0))),(1,1,(qq a6 (.nck z5))),(2,3,(qq a7 (.fa 1 z6))),(3,7,(qq a8 (.ld1 z7))),(4,15,(qq a9 (.cp z8))),(5,31,(qq a10 (.bi .mul (x6 2) z9))),(6,0,(qq a11 (.mv z1))),(7,127,(qq a12 (.bi .add z10 z11))),(8,255,(aa a13 (.nz 5 z12))),(9,0,(qq a14 (.mv z0))),(10,512,(qq a15 (.nck z14))),(11,1536,(qq a16 (.fa 1 z15))),(12,3584,(qq a17 (.ld1 z16))),(13,7680,(qq a18 (.ln .slice z17))),(14,16383,(qq a19 (.slL 1 z13 none (some z18) none))),(15,32767,(qq a4 (.mv z19)))])
def b110_2:CC:=(.reg [(qq a20 (.mv z4)),(qq a21 (.mv z0)),(qq a22 (.nck z21)),(qq a23 (.fa 1 z22)),(qq a24 (.ld1 z23)),(ee a25 (.cpy 1 z20 z24))])
def b110_3:CC:=(.reg [(qq a26 (.mv z0)),(qq a27 (.mv z4)),(qq a28 (.nck z26)),(qq a29 (.fa 1 z28)),(ez (.st 1 z29 z27))])
def c110:CF:= .mk 5 [] (.seq b110_1 (.seq b110_2 b110_3))
def b84_1:CC:=(.reg [(qq a4 (.mv z0)),(ee a5 (.call 52 [z4]))])
def b84_2:CC:=(.reg [(qq a6 (.mv z1)),(qq a7 (.bi .lss z6 (x6 0)))])
def b84_3:CC:=(.reg [(qq a8 (.mki 9 (.c (.s 36 226187813140227768008177986391742176399534891738691412630441701833056540972817830802547)))),⟨none,.q (.bad),none⟩])
def b84_4:CC:=(.dreg 13 [(0,0,(qq a9 (.mv z0))),(1,1,(qq a10 (.nck z9))),(2,3,(qq a11 (.fa 1 z10))),(3,7,(qq a12 (.ld1 z11))),(4,15,(qq a13 (.cp z12))),(5,0,(qq a14 (.mv z0))),(6,32,(qq a15 (.nck z14))),(7,96,(qq a16 (.fa 1 z15))),(8,224,(qq a17 (.ld1 z16))),(9,480,(qq a18 (.ln .slice z17))),(10,1023,(qq a19 (.bi .sub z13 z18))),(11,0,(qq a20 (.mv z1))),(12,4095,(qq a21 (.bi .lss z19 z20)))])
def b84_5:CC:=(.reg [(qq a22 (.mv z0)),(qq a23 (.mv z1)),(ee a24 (.call 110 [z22,z23]))])
def b84_6:CC:=(.seq b84_4 (.cond z21 b84_5 .skip))
def b84_7:CC:=(.seq (.seq b84_2 (.cond z7 b84_3 .skip)) b84_6)
def c84:CF:= .mk 5 [] (.seq b84_1 b84_7)
def b22_1:CC:=(.reg [(qq a4 (.mv (x6 0))),(qq a5 (.mv (.c .a0)))])
def b22_2:CC:=(.reg [(qq a6 (.mv z0)),(ee a7 (.call 52 [z6]))])
def b22_3:CC:=(.reg [(qq a8 (.mv z0)),(qq a9 (.mv z0)),(qq a10 (.nck z9)),(qq a11 (.fa 1 z10)),(qq a12 (.ld1 z11)),(qq a13 (.mv z1)),(ee a14 (.app 5 1 1 z12 z13)),(qq a15 (.nck z8)),(qq a16 (.fa 1 z15)),(ez (.st 1 z16 z14))])
def b22_4:CC:=(.reg [(qq a17 (.mv z1)),(qq a18 (.ln .str z17)),(qq a4 (.mv z18)),(qq a5 (.mv (.c .a0)))])
def c22:CF:= .mk 5 [.t a4,.t a5] (.seq b22_1 (.seq b22_2 (.seq b22_3 (.seq b22_4 .ret))))
theorem e22(v0 v1:V):argTr 5 [v0,v1]=(.n (.n sk3 (some v1) sk3) (some v0) sk4):=rfl
def B22:=ai @e22 (ai (wu b22_1.eq_1) (ai (wu b22_2.eq_1) (ai (wu b22_3.eq_1) (wu b22_4.eq_1))))
def b29_1:CC:=(.dreg 12 [(0,0,(qq a3 (.mv z0))),(1,1,(qq a4 (.nck z3))),(2,3,(qq a5 (.fa 1 z4))),(3,7,(qq a6 (.ld1 z5))),(4,15,(qq a7 (.sd z6))),(5,0,(qq a8 (.mv z0))),(6,32,(qq a9 (.nck z8))),(7,96,(qq a10 (.fa 1 z9))),(8,224,(qq a11 (.ld1 z10))),(9,480,(qq a12 (.ln .slice z11))),(10,1023,(ee a13 (.us 5 z7 z12))),(11,2047,(qq a2 (.mv z13)))])
def b29_2:CC:=(.seq (.reg [(qq a2 (.mv (.c (.s 0 0))))]) (.seq b29_1 .ret))
def c29:CF:= .mk 4 [.t a2] b29_2
theorem e29(v0:V):argTr 4 [v0]=(.n sk3 (some v0) sk3):=rfl
def B29:=ai @e29 (ai (wu b29_1.eq_1) (wu b29_2.eq_1))
def BldAt(M:Mem)(c0 c b bb:Nat)(l:List UInt8):Prop:=
 c0≤b∧b<c∧b≠bb∧ ∃a v,M.get b=some (rowB 69 [a,v])∧(a= .p0∨a= .p b 0)∧BufAt M c0 c bb v l
theorem BldAt.up{M M':Mem}{c0 c c' b bb:Nat}{l:List UInt8}(h:BldAt M c0 c b bb l)(hc:c≤c')(hb:∀x,x<c→M'.get x=M.get x):BldAt M' c0 c' b bb l:=by
 obtain⟨h1,h2,h1003,a,v,h1004,h1005,h1006⟩:=h
 exact⟨h1,by omega,h1003,a,v,by rw[hb b h2];exact h1004,h1005,h1006.up hc (hb bb)⟩
theorem eqP_00{F:RO}(lit:Bool)(M:Mem):eqV F M .ptr lit .p0 .p0=some true:=Eq.trans rfl (Eq.refl _)
theorem eqP_p0{F:RO}(lit:Bool)(M:Mem)(b o:Nat):eqV F M .ptr lit (.p b o) .p0=some false:=Eq.trans rfl (Eq.refl _)
theorem eqP_pp{F:RO}(lit:Bool)(M:Mem)(b o:Nat):eqV F M .ptr lit (.p b o) (.p b o)=some true:=by
 show ptrEq F M b o b o=_
 unfold ptrEq
 rw[beqN,decide_eq_true rfl,cond_true,Nat.beq_refl]
theorem buf_one{M:Mem}{c0 c b:Nat}{v:V}{l:List UInt8}(h:BufAt M c0 c b v l):isOne v=true∧flatten v=[v]∧lnL v=some (.i .i64 (l.length:Int)):=by
 rcases h with⟨rfl,rfl⟩|⟨_,_,n,_,rfl,_⟩
 ·exact⟨rfl,rfl,lnL_l0⟩
 ·exact⟨rfl,rfl,lnL_u _ _ _ _ _⟩
theorem r52(Φ:Nat→Option CF)(h:Φ 52=some c52){F:RO}{M:Mem}{c b:Nat}{a v:V}(hM:M.get b=some (rowB 69 [a,v]))(ha:a= .p0∨a= .p b 0):
 Calls Φ F 52 [.p b 0] M c fun _ M' c'=>M'=M.set b (rowB 69 [.p b 0,v])∧c'=c:=by
 refine calls_walk h ?_
 have l0:load1 F M b 0=some a:=load_row hM 0
 rcases ha with rfl|rfl
 ·have hu:upV F M (.p b 0)=some (.p b 0):=upV_row hM (by simp);have hd:dnV 69 2 F M (.p b 0)=some (.p b 0):=dnV_row hM;have hst:=store_row hM 0 [.p b 0] (by simp) rfl;simp only[WX,B52,v_nck,nckV_p,l0,eqP_00,v_up,v_dn,hu,hd,hst]
 ·simp only[WX,B52,v_nck,nckV_p,l0,eqP_p0,eqP_pp];exact set_same hM
theorem room_le{n:Nat}(h:n≤1073741824):room n 1=true:=room_of (by omega) (by omega)
theorem r22(Φ:Nat→Option CF)(h:Φ 22=some c22)(h52:Φ 52=some c52){F:RO}{M0 M:Mem}{c0 c b bb:Nat}{l:List UInt8}(ok:Okm F M c)(hg:Gr c0 M0 c M)(hb:BldAt M c0 c b bb l)(s:List UInt8)(hr:room (l.length+s.length) 1=true):
 Calls Φ F 22 [.p b 0,sV s] M c fun _ M' c'=>∃bb',BldAt M' c0 c' b bb' (l++s)∧Gr c0 M0 c' M'∧c≤c'∧(∀x,x<c→x≠b→x≠bb→M'.get x=M.get x)∧(bb'=bb∨c≤bb'):=by
 obtain⟨k1,k2,k3,a,v,hM,ha,hbuf⟩:=hb
 refine calls_walk h ?_
 simp only[WX,B22]
 refine putE_to ((r52 Φ h52 hM ha).mono ?_)
 rintro v1 M1 c1 ⟨rfl,rfl⟩
 have hg1:=hg.set b (rowB 69 [.p b 0,v]) k1 k2 (Nat.le_refl _)
 have g1:(M.set b (rowB 69 [.p b 0,v])).get b=some (rowB 69 [.p b 0,v]):=get_same _ _ _
 have l1:load1 F (M.set b (rowB 69 [.p b 0,v])) b 1=some v:=load_row g1 1
 have hbuf1:BufAt (M.set b (rowB 69 [.p b 0,v])) c0 c1 bb v l:=by
  rcases hbuf with h|⟨a1,a2,n,a3,a4,a5⟩
  ·exact .inl h
  ·exact .inr ⟨a1,a2,n,a3,a4,by rw[get_ne _ _ (Ne.symm k3)];exact a5⟩
 simp only[WX,B22,v_nck,nckV_p,l1]
 refine putE_to ((buf_to (F:=F) (s:=s) hbuf1 hg1 hr).mono ?_)
 rintro v2 M2 c2 ⟨bb',hb2,hg2,hle,hfr,hbb⟩
 have g2:M2.get b=some (rowB 69 [.p b 0,v]):=by rw[hfr b (by omega) k3];exact g1
 obtain⟨o1,o2,_⟩:=buf_one hb2
 have hst:=store_row g2 1 [v2] (by simp) (by rw[allOne_cons,o1];rfl)
 simp only[WX,Nat.reduceAdd,B22,v_nck,nckV_p,o2,hst]
 have hne:b≠bb':=by rcases hbb with h|h<;>omega
 refine⟨bb',⟨k1,by omega,hne,_,_,get_same _ _ _,.inr rfl,?_⟩,hg2.set b _ k1 (by omega) (Nat.le_refl _),hle,fun x hx hxb hxbb=>?_,hbb⟩
 ·rcases hb2 with h|⟨a1,a2,n,a3,a4,a5⟩
  ·exact .inl h
  ·exact .inr ⟨a1,a2,n,a3,a4,by rw[get_ne _ _ (Ne.symm hne)];exact a5⟩
 ·rw[get_ne _ _ hxb,hfr x hx hxbb,get_ne _ _ hxb]
def usE(F:RO)(M:Mem)(c ty:Nat)(x n:V):RC:=e_us ty (.c x) (.c n) F M c .e
theorem x_us_eq{Φ:Nat→Option CF}{rd:Option Nat}{fn:Nat}{F:RO}(ty:Nat)(x n:X)(M:Mem)(c:Nat)(t:T):doE (.us ty x n) (K Φ rd fn F) M c t=usE F M c ty (x.ev t) (n.ev t):=Eq.trans rfl (Eq.refl _)
theorem usE_0{F:RO}(M:Mem)(c ty:Nat):usE F M c ty .p0 (.i .i64 0)= .k (.s 0 0) M c:=Eq.trans rfl (Eq.refl _)
theorem usE_p0{F:RO}(M:Mem)(c ty b o:Nat):usE F M c ty (.p b o) (.i .i64 0)= .k (.s 0 0) M c:=Eq.trans rfl (Eq.refl _)
theorem usE_buf{F:RO}{M:Mem}{b n:Nat}(c:Nat){l:List UInt8}(hM:M.get b=some (rowP 5 n (l.map bV)))(hn:l.length≤n)(hl:l≠[])(hl2:l.length≤1099511627776):
 ∃y,usE F M c 5 (.p b 0) (.i .i64 (l.length:Int))= .k (sV l) (M.set b y) c:=by
 have hld:=(rowP_cells (F:=F) hM (by rw[List.length_map];exact hn)).load (by
  intro e;rw[List.map_eq_nil_iff]at e;exact hl e)
 rw[List.length_map]at hld
 have h0:l.length≠0:=fun e=>hl (List.length_eq_zero_iff.1 e)
 refine⟨.cells 5 n false (if 0≤0+l.length then 0+l.length else 0) false [] (rowT (l.map bV)),?_⟩
 show e_us1 F M c 5 b 0 l.length=_
 unfold e_us1
 rw[beqN,decide_eq_false h0,cond_false]
 have ht:tyIs M b 5=true:=by unfold tyIs;rw[hM];rfl
 rw[ht,bleN,decide_eq_true hl2]
 show(match loadN F M b 0 l.length with|some vs=>e_us2 M c b 0 (bytesV vs)|none=>RC.f)=_
 rw[hld]
 show e_us2 M c b 0 (bytesV (l.map bV))=_
 rw[bytesV_s]
 have hf:freezeM M b 0 l.length=some (M.set b (.cells 5 n false (if 0≤0+l.length then 0+l.length else 0) false [] (rowT (l.map bV)))):=by
  unfold freezeM;rw[hM];show(bif false then none else fN (bif Nat.ble 0 (Nat.add 0 l.length)then Nat.add 0 l.length else 0) fun fz=>some (M.set b (.cells 5 n false fz false [] (rowT (l.map bV)))))=_;rw[cond_false,fN_eq,bleN];by_cases h:0≤0+l.length
  ·rw[decide_eq_true (show 0≤Nat.add 0 l.length from h),if_pos h];rfl
  ·exact absurd (Nat.zero_le _) h
 show(match freezeM M b 0 l.length with|some M=>fN l.length fun n=>fN (strN l) fun s=>RC.k (.s n s) M c|none=> .f)=_
 rw[hf]
 show(fN l.length fun n=>fN (strN l) fun s=>RC.k (.s n s) _ c)=_
 rw[fN_eq,fN_eq];rfl
theorem r29(Φ:Nat→Option CF)(h:Φ 29=some c29){F:RO}{M0 M:Mem}{c0 c b bb:Nat}{l:List UInt8}(ok:Okm F M c)(hg:Gr c0 M0 c M)(hb:BldAt M c0 c b bb l)(hl:l.length≤1099511627776):
 Calls Φ F 29 [.p b 0] M c fun r M' c'=>r=sV l∧Gr c0 M0 c' M'∧c≤c'∧(∀x,x≠bb→M'.get x=M.get x):=by
 obtain⟨k1,k2,k3,a,v,hM,ha,hbuf⟩:=hb
 refine calls_walk h ?_
 have l1:load1 F M b 1=some v:=load_row hM 1
 obtain⟨o1,o2,o1003⟩:=buf_one hbuf
 rcases hbuf with⟨rfl,rfl⟩|⟨a1,a2,n,⟨a3,a4⟩,rfl,a5⟩
 ·have hf:=ok.free;rw[List.length_nil]at o1003;simp only[WX,Nat.reducePow,Nat.reduceDiv,Nat.reduceMod,Nat.reduceBEq,wd_e1,B29,dq_nck,nckV_p,l1,dq_sd,sdV_l0,o1003,x_us_eq,usE_0,Int.ofNat_zero,hf];exact⟨rfl,hg.up (by omega),by omega,fun _ _=>trivial⟩
 ·by_cases hl0:l=[]
  ·subst hl0;have hf:=ok.free;rw[List.length_nil]at o1003;simp only[WX,Nat.reducePow,Nat.reduceDiv,Nat.reduceMod,Nat.reduceBEq,wd_e1,B29,dq_nck,nckV_p,l1,dq_sd,sdV_u a4,o1003,x_us_eq,usE_p0,Int.ofNat_zero,hf];exact⟨rfl,hg.up (by omega),by omega,fun _ _=>trivial⟩
  ·obtain⟨y,hy⟩:=usE_buf (F:=F) (c+12) a5 a3 hl0 hl;have hf:roFree (M.set bb y) F=true:=(ok.put (y:=y) a2 a5).free;simp only[WX,Nat.reducePow,Nat.reduceDiv,Nat.reduceMod,Nat.reduceBEq,wd_e1,B29,dq_nck,nckV_p,l1,dq_sd,sdV_u a4,o1003,x_us_eq,hy,hf];exact⟨(hg.set bb y a1 a2 (Nat.le_refl _)).up (by omega),by omega,fun x hx=>get_ne _ _ hx⟩
def b23_1:CC:=(.reg [(qq a5 (.mv z0)),(ee a6 (.call 52 [z5]))])
def b23_2:CC:=(.reg [(qq a7 (.mv z0)),(qq a8 (.mv z0)),(qq a9 (.nck z8)),(qq a10 (.fa 1 z9)),(qq a11 (.ld1 z10)),(qq a12 (.mv z1)),(aa a13 (.bsl 5 1 1 [(.i .u8 0)] [(0,z12)])),(ee a14 (.app 5 1 1 z11 z13)),(qq a15 (.nck z7)),(qq a16 (.fa 1 z15)),(ez (.st 1 z16 z14))])
def b23_3:CC:=(.seq (.reg [(qq a4 (.mv (.c .a0)))]) .ret)
def b23_4:CC:=(.seq (.reg [(qq a4 (.mv (.c .a0)))]) (.seq b23_1 (.seq b23_2 b23_3)))
def c23:CF:= .mk 5 [.t a4] b23_4
theorem e23(v0 v1:V):argTr 5 [v0,v1]=(.n (.n sk3 (some v1) sk3) (some v0) sk4):=rfl
def B23:=ai @e23 (ai (wu b23_1.eq_1) (ai (wu b23_2.eq_1) (ai (wu b23_3.eq_1) (wu b23_4.eq_1))))
theorem appV_sl{F:RO}{M:Mem}{c:Nat}{v y:V}{s:List UInt8}(hy:SlB F M c y s):appV F M c 5 1 1 v y=appV F M c 5 1 1 v (sV s):=by
 unfold appV
 rw[split_s,split_sl Nat.one_pos hy,List.length_map,flat_bytes]
theorem BufAt.keep{M M':Mem}{c0 c c' bb:Nat}{v:V}{l:List UInt8}(h:BufAt M c0 c bb v l)(hc:c≤c')(hM:c0≤bb→bb<c→M'.get bb=M.get bb):BufAt M' c0 c' bb v l:=by
 rcases h with h|⟨h1,h2,n,h1003,h1004,h1005⟩
 ·exact .inl h
 ·exact .inr ⟨h1,by omega,n,h1003,h1004,by rw[hM h1 h2];exact h1005⟩
theorem r23(Φ:Nat→Option CF)(h:Φ 23=some c23)(h52:Φ 52=some c52){F:RO}{M0 M:Mem}{c0 c b bb:Nat}{l:List UInt8}(ok:Okm F M c)(hg:Gr c0 M0 c M)(hb:BldAt M c0 c b bb l)(x:UInt8)(hr:room (l.length+1) 1=true):
 Calls Φ F 23 [.p b 0,bV x] M c fun _ M' c'=>∃bb',BldAt M' c0 c' b bb' (l++[x])∧Gr c0 M0 c' M'∧c≤c'∧(∀y,y<c→y≠b→y≠bb→M'.get y=M.get y)∧(bb'=bb∨c≤bb'):=by
 obtain⟨k1,k2,k3,a,v,hM,ha,hbuf⟩:=hb
 refine calls_walk h ?_
 simp only[WX,B23]
 refine putE_to ((r52 Φ h52 hM ha).mono ?_)
 rintro v1 M1 c1 ⟨rfl,rfl⟩
 have hg1:=hg.set b (rowB 69 [.p b 0,v]) k1 k2 (Nat.le_refl _)
 have g1:(M.set b (rowB 69 [.p b 0,v])).get b=some (rowB 69 [.p b 0,v]):=get_same _ _ _
 have l1:load1 F (M.set b (rowB 69 [.p b 0,v])) b 1=some v:=load_row g1 1
 have hbuf1:BufAt (M.set b (rowB 69 [.p b 0,v])) c0 c1 bb v l:=hbuf.keep (Nat.le_refl _) fun _ _=>get_ne _ _ (Ne.symm k3)
 have fb:flatten (bV x)=[bV x]:=rfl
 have ob:isOne (bV x)=true:=rfl
 simp only[WX,B23,v_nck,nckV_p,l1,fb,ob]
 have hM2:∀y,y≠b→(M.set b (rowB 69 [.p b 0,v])).get y=M.get y:=fun y hy=>get_ne _ _ hy
 generalize M.set b (rowB 69 [.p b 0,v])=M2 at hg1 g1 l1 hbuf1 hM2⊢
 have hg2:=hg1.set c1 (rowD [.i .u8 0] 5 [bV x]) (by have:=hg.le;omega) (Nat.lt_succ_self _) (Nat.le_succ _)
 have hy:SlB F (M2.set c1 (rowD [.i .u8 0] 5 [bV x])) (c1+1) (.l c1 0 1 1) [x]:=slD (d:=[.i .u8 0]) (ty:=5) (get_same _ _ _) (by omega) (fun e he=>by obtain⟨x,_,rfl⟩:=List.mem_map.1 he;rfl) rfl
 rw[appV_sl hy]
 have hbuf2:BufAt (M2.set c1 (rowD [.i .u8 0] 5 [bV x])) c0 (c1+1) bb v l:=hbuf1.keep (Nat.le_succ _) fun _ h=>get_ne _ _ (by omega)
 refine putE_to ((buf_to (F:=F) (s:=[x]) hbuf2 hg2 hr).mono ?_)
 rintro v3 M3 c1003 ⟨bb',hb3,hg3,hle,hfr,hbb⟩
 have g3:M3.get b=some (rowB 69 [.p b 0,v]):=by rw[hfr b (by omega) k3,get_ne _ _ (by omega)];exact g1
 obtain⟨o1,o2,_⟩:=buf_one hb3
 have hst:=store_row g3 1 [v3] (by simp) (by rw[allOne_cons,o1];rfl)
 simp only[WX,Nat.reduceAdd,B23,v_nck,nckV_p,o2,hst]
 have hne:b≠bb':=by rcases hbb with h|h<;>omega
 refine⟨bb',⟨k1,by omega,hne,_,_,get_same _ _ _,.inr rfl,hb3.keep (Nat.le_refl _) fun _ _=>get_ne _ _ (Ne.symm hne)⟩,hg3.set b _ k1 (by omega) (Nat.le_refl _),by omega,fun y hy hyb hyb2=>?_,by omega⟩
 rw[get_ne _ _ hyb,hfr y (by omega) hyb2,get_ne _ _ (by omega),hM2 y hyb]
def b96_1:CC:=(.reg [(qq a4 (.mv (x6 0)))])
def b96_2:CC:=(.reg [(qq a5 (.mv z0)),(qq a6 (.mv z1)),(qq a7 (.xib z5 z6)),(qq a4 (.mv z7))])
def c96:CF:= .mk 4 [.t a4] (.seq b96_1 (.seq b96_2 .ret))
theorem e96(v0 v1:V):argTr 4 [v0,v1]=(.n (.n sk2 (some v1) sk2) (some v0) sk3):=rfl
def B96:=ai @e96 (ai (wu b96_1.eq_1) (wu b96_2.eq_1))
def b69_1:CC:=(.reg [(qq a4 (.mv (x6 0)))])
def b69_2:CC:=(.reg [(qq a14 (.mv z1)),(qq a15 (.ln .str z14)),(qq a5 (.mv z15))])
def b69_3:CC:=(.reg [(qq a17 (.mv z5)),(qq a18 (.bi .eql z17 (x6 0))),(qq a19 (.mv z18)),⟨(some a20),.q (.mv z1),(some (a19,false))⟩,⟨(some a21),.q (.mv z0),(some (a19,false))⟩,⟨(some a22),.q (.bi .eql z20 z21),(some (a19,false))⟩,(qq a23 (.pk z19 xT z22)),(qq a16 (.mv z23))])
def b69_4:CC:=(.reg [(qq a4 (.mv (x6 0)))])
def b69_5:CC:=(.reg [(qq a25 (.mv z5)),(qq a26 (.bi .eql z25 (x6 1))),(qq a24 (.mv z26))])
def b69_6:CC:=(.reg [(qq a27 (.mv z0)),(qq a28 (.mv z1)),(qq a29 (.ixS z28 (x6 0))),(ee a30 (.call 96 [z27,z29])),(qq a4 (.mv z30))])
def b69_7:CC:=(.reg [(qq a32 (.mv z5)),(qq a33 (.mv z0)),(qq a34 (.ln .str z33)),(qq a35 (.bi .geq z32 z34)),(qq a31 (.mv z35))])
def b69_8:CC:=(.reg [(qq a4 (.mv (x6 (-1))))])
def b69_9:CC:=(.reg [(qq a37 (.mv z5)),(qq a38 (.ld1 (.c (.p 0 0)))),(qq a39 (.bi .leq z37 z38)),(qq a40 (.mv z39)),⟨(some a41),.q (.mv z0),(some (a40,true))⟩,⟨(some a42),.q (.ln .str z41),(some (a40,true))⟩,⟨(some a43),.q (.bi .leq z42 (x6 64)),(some (a40,true))⟩,(qq a44 (.pk z40 z43 xF)),(qq a36 (.mv z44))])
def b69_10:CC:=(.reg [(qq a45 (.mv z0)),(qq a46 (.mv z1)),(qq a47 (.bad)),(qq a4 (.mv z47))])
def b69_11:CC:=(.cond z36 (.seq b69_10 .ret) .skip)
def b69_12:CC:=(.cond z31 (.seq b69_8 .ret) (.seq b69_9 b69_11))
def b69_13:CC:=(.cond z24 (.seq b69_6 .ret) (.seq b69_7 b69_12))
def b69_14:CC:=(.cond z16 (.seq b69_4 .ret) (.seq b69_5 b69_13))
def b69_15:CC:=(.reg [(qq a48 (.mv z1)),(qq a49 (.ixS z48 (x6 0))),(qq a6 (.mv z49))])
def b69_16:CC:=(.reg [(qq a50 (.mv z1)),(qq a51 (.ixS z50 (x6 1))),(qq a7 (.mv z51))])
def b69_17:CC:=(.reg [(qq a8 (.mv (x6 0)))])
def b69_18:CC:=(.reg [(qq a52 (.mv z0)),(qq a53 (.ln .str z52)),(qq a54 (.mv z5)),(qq a55 (.bi .sub z53 z54)),(qq a56 (.bi .add z55 (x6 1))),(qq a9 (.mv z56))])
def b69_19:CC:=(.reg [(qq a10 (.mv (x6 0)))])
def b69_20:CC:=(.reg [(qq a57 (.mv z8)),(qq a58 (.mv z9)),(qq a59 (.bi .lss z57 z58))])
def b69_21:CC:=(.seq b69_20 (.cond z59 .skip (.exit 1)))
def b69_22:CC:=(.reg [(qq a60 (.mv z0)),(qq a61 (.mv z8)),(qq a62 (.ixS z60 z61)),(qq a63 (.mv z6)),(qq a64 (.bi .neq z62 z63))])
def b69_23:CC:=(.reg [(qq a65 (.mv z0)),(qq a66 (.mv z8)),(qq a67 (.bi .add z66 (x6 1))),(qq a68 (.mv z9)),(qq a69 (.slS z65 (some z67) (some z68))),(qq a70 (.mv z6)),(ee a71 (.call 96 [z69,z70])),(qq a11 (.mv z71))])
def b69_24:CC:=(.reg [(qq a72 (.mv z11)),(qq a73 (.bi .lss z72 (x6 0)))])
def b69_25:CC:=(.reg [(qq a4 (.mv (x6 (-1))))])
def b69_26:CC:=(.cond z73 (.seq b69_25 .ret) .skip)
def b69_27:CC:=(.reg [(qq a74 (.mv z8)),(qq a75 (.mv z11)),(qq a76 (.bi .add z75 (x6 1))),(qq a77 (.bi .add z74 z76)),(qq a8 (.mv z77))])
def b69_28:CC:=(.cond z64 (.seq b69_23 (.seq (.seq b69_24 b69_26) b69_27)) .skip)
def b69_29:CC:=(.reg [(qq a78 (.mv z0)),(qq a79 (.mv z8)),(qq a80 (.bi .add z79 (x6 1))),(qq a81 (.ixS z78 z80)),(qq a82 (.mv z7)),(qq a83 (.bi .eql z81 z82)),(qq a84 (.mv z83)),⟨(some a85),.q (.mv z0),(some (a84,true))⟩,⟨(some a86),.q (.mv z8),(some (a84,true))⟩,⟨(some a87),.q (.mv z8),(some (a84,true))⟩,⟨(some a88),.q (.mv z5),(some (a84,true))⟩,⟨(some a89),.q (.bi .add z87 z88),(some (a84,true))⟩,⟨(some a90),.q (.slS z85 (some z86) (some z89)),(some (a84,true))⟩,⟨(some a91),.q (.mv z1),(some (a84,true))⟩,⟨(some a92),.q (.bi .eql z90 z91),(some (a84,true))⟩,(qq a93 (.pk z84 z92 xF))])
def b69_30:CC:=(.reg [(qq a94 (.mv z8)),(qq a4 (.mv z94))])
def b69_31:CC:=(.cond z93 (.seq b69_30 .ret) .skip)
def b69_32:CC:=(.reg [(qq a95 (.mv z8)),(qq a96 (.bi .add z95 (x6 1))),(qq a8 (.mv z96))])
def b69_33:CC:=(.reg [(qq a97 (.mv z10)),(qq a98 (.bi .add z97 (x6 1))),(qq a10 (.mv z98))])
def b69_34:CC:=(.reg [(qq a99 (.mv z5)),(qq a100 (.ld1 (.c (.p 0 0)))),(qq a101 (.bi .leq z99 z100)),(qq a102 (.mv z101)),⟨(some a103),.q (.mv z10),(some (a102,true))⟩,⟨(some a104),.q (.mv z8),(some (a102,true))⟩,⟨(some a105),.e (.call 98 [z104]),(some (a102,true))⟩,⟨(some a106),.q (.bi .gtr z103 z105),(some (a102,true))⟩,(qq a107 (.pk z102 z106 xF))])
def b69_35:CC:=(.reg [(qq a108 (.mv z0)),(qq a109 (.mv z8)),(qq a110 (.slS z108 (some z109) none)),(qq a111 (.mv z1)),(qq a112 (.bad)),(qq a12 (.mv z112))])
def b69_36:CC:=(.reg [(qq a113 (.mv z12)),(qq a114 (.bi .geq z113 (x6 0)))])
def b69_37:CC:=(.reg [(qq a115 (.mv z12)),(qq a116 (.mv z8)),(qq a117 (.bi .add z115 z116)),(qq a4 (.mv z117))])
def b69_38:CC:=(.cond z114 (.seq b69_37 .ret) .skip)
def b69_39:CC:=(.reg [(qq a4 (.mv (x6 (-1))))])
def b69_40:CC:=(.seq b69_35 (.seq (.seq b69_36 b69_38) (.seq b69_39 .ret)))
def b69_41:CC:=(.reg [(qq a118 (.mv z5)),(qq a119 (.ld1 (.c (.p 0 0)))),(qq a120 (.bi .gtr z118 z119)),(qq a121 (.mv z120)),⟨(some a122),.q (.mv z10),(some (a121,true))⟩,⟨(some a123),.q (.mv z8),(some (a121,true))⟩,⟨(some a124),.q (.bi .shr z123 (.c (.i .u64 4))),(some (a121,true))⟩,⟨(some a125),.q (.bi .add (x6 4) z124),(some (a121,true))⟩,⟨(some a126),.q (.bi .geq z122 z125),(some (a121,true))⟩,(qq a127 (.pk z121 z126 xF)),(qq a128 (.mv z127)),⟨(some a129),.q (.mv z8),(some (a128,true))⟩,⟨(some a130),.q (.mv z9),(some (a128,true))⟩,⟨(some a131),.q (.bi .lss z129 z130),(some (a128,true))⟩,(qq a132 (.pk z128 z131 xF))])
def b69_42:CC:=(.reg [(qq a133 (.mv z0)),(qq a134 (.mv z8)),(qq a135 (.slS z133 (some z134) none)),(qq a136 (.mv z1)),(ee a137 (.call 99 [z135,z136])),(qq a13 (.mv z137))])
def b69_43:CC:=(.reg [(qq a138 (.mv z13)),(qq a139 (.bi .lss z138 (x6 0)))])
def b69_44:CC:=(.reg [(qq a4 (.mv (x6 (-1))))])
def b69_45:CC:=(.cond z139 (.seq b69_44 .ret) .skip)
def b69_46:CC:=(.reg [(qq a140 (.mv z8)),(qq a141 (.mv z13)),(qq a142 (.bi .add z140 z141)),(qq a4 (.mv z142))])
def b69_47:CC:=(.seq b69_42 (.seq (.seq b69_43 b69_45) (.seq b69_46 .ret)))
def b69_48:CC:=(.cond z132 b69_47 .skip)
def b69_49:CC:=(.cond z107 b69_40 (.seq b69_41 b69_48))
def b69_50:CC:=(.seq (.seq b69_29 b69_31) (.seq b69_32 (.seq b69_33 (.seq b69_34 b69_49))))
def b69_51:CC:=(.loop (.seq b69_21 (.block 2 (.seq (.seq b69_22 b69_28) b69_50))))
def b69_52:CC:=(.reg [(qq a4 (.mv (x6 (-1))))])
def b69_53:CC:=(.seq b69_18 (.seq b69_19 (.seq (.block 1 b69_51) (.seq b69_52 .ret))))
def b69_54:CC:=(.seq (.block 0 (.seq b69_3 b69_14)) (.seq b69_15 (.seq b69_16 (.seq b69_17 b69_53))))
def c69:CF:= .mk 8 [.t a4] (.seq b69_1 (.seq b69_2 b69_54))
theorem e69(v0 v1:V):argTr 8 [v0,v1]=(.n (.n sk6 (some v1) sk6) (some v0) sk7):=rfl
def B69:=ai @e69 (ai (wu b69_1.eq_1) (ai (wu b69_2.eq_1) (ai (wu b69_3.eq_1) (ai (wu b69_4.eq_1) (ai (wu b69_5.eq_1) (ai (wu b69_6.eq_1) (ai (wu b69_7.eq_1) (ai (wu b69_8.eq_1) (ai (wu b69_9.eq_1) (ai (wu b69_10.eq_1) (ai (wu b69_11.eq_1) (ai (wu b69_12.eq_1) (ai (wu b69_13.eq_1) (ai (wu b69_14.eq_1) (ai (wu b69_15.eq_1) (ai (wu b69_16.eq_1) (ai (wu b69_17.eq_1) (ai (wu b69_18.eq_1) (ai (wu b69_19.eq_1) (ai (wu b69_20.eq_1) (ai (wu b69_21.eq_1) (ai (wu b69_22.eq_1) (ai (wu b69_23.eq_1) (ai (wu b69_24.eq_1) (ai (wu b69_25.eq_1) (ai (wu b69_26.eq_1) (ai (wu b69_27.eq_1) (ai (wu b69_28.eq_1) (ai (wu b69_29.eq_1) (ai (wu b69_30.eq_1) (ai (wu b69_31.eq_1) (ai (wu b69_32.eq_1) (ai (wu b69_33.eq_1) (ai (wu b69_34.eq_1) (ai (wu b69_35.eq_1) (ai (wu b69_36.eq_1) (ai (wu b69_37.eq_1) (ai (wu b69_38.eq_1) (ai (wu b69_39.eq_1) (ai (wu b69_40.eq_1) (ai (wu b69_41.eq_1) (ai (wu b69_42.eq_1) (ai (wu b69_43.eq_1) (ai (wu b69_44.eq_1) (ai (wu b69_45.eq_1) (ai (wu b69_46.eq_1) (ai (wu b69_47.eq_1) (ai (wu b69_48.eq_1) (ai (wu b69_49.eq_1) (ai (wu b69_50.eq_1) (ai (wu b69_51.eq_1) (ai (wu b69_52.eq_1) (ai (wu b69_53.eq_1) (wu b69_54.eq_1))))))))))))))))))))))))))))))))))))))))))))))))))))))
def b47_1:CC:=(.reg [(qq a4 (.mv (.c (.s 0 0)))),(qq a5 (.mv (.c (.s 0 0)))),(qq a6 (.mv xF))])
def b47_2:CC:=(.reg [(qq a8 (.mv z0)),(qq a9 (.mv z1)),(ee a10 (.call 69 [z8,z9])),(qq a7 (.mv z10))])
def b47_3:CC:=(.reg [(qq a11 (.mv z7)),(qq a12 (.bi .geq z11 (x6 0)))])
def b47_4:CC:=(.dreg 12 [(0,0,(qq a13 (.mv z0))),(1,0,(qq a14 (.mv z7))),(2,3,(qq a15 (.slS z13 none (some z14)))),(3,0,(qq a16 (.mv z0))),(4,0,(qq a17 (.mv z7))),(5,0,(qq a18 (.mv z1))),(6,32,(qq a19 (.ln .str z18))),(7,112,(qq a20 (.bi .add z17 z19))),(8,248,(qq a21 (.slS z16 (some z20) none))),(9,7,(qq a4 (.mv z15))),(10,1023,(qq a5 (.mv z21))),(11,2047,(qq a6 (.mv xT)))])
def b47_5:CC:=(.seq b47_3 (.cond z12 (.seq b47_4 .ret) .skip))
def b47_6:CC:=(.reg [(qq a22 (.mv z0)),(qq a4 (.mv z22)),(qq a5 (.mv (.c (.s 0 0)))),(qq a6 (.mv xF))])
def c47:CF:= .mk 5 [.t a4,.t a5,.t a6] (.seq b47_1 (.seq (.seq b47_2 b47_5) (.seq b47_6 .ret)))
theorem e47(v0 v1:V):argTr 5 [v0,v1]=(.n (.n sk3 (some v1) sk3) (some v0) sk4):=rfl
def B47:=ai @e47 (ai (wu b47_1.eq_1) (ai (wu b47_2.eq_1) (ai (wu b47_3.eq_1) (ai (wu b47_4.eq_1) (ai (wu b47_5.eq_1) (wu b47_6.eq_1))))))
def b19_1:CC:=(.reg [(qq a4 (.mv (.c (.s 0 0)))),(qq a5 (.mv (.c (.s 0 0)))),(qq a6 (.mv xF))])
def b19_2:CC:=(.reg [(qq a7 (.mv z0)),(qq a8 (.mv z1)),(ee a9 (.call 47 [z7,z8])),(qq a10 (.ex 0 z9)),(qq a11 (.ex 1 z9)),(qq a12 (.ex 2 z9)),(qq a4 (.mv z10)),(qq a5 (.mv z11)),(qq a6 (.mv z12))])
def c19:CF:= .mk 4 [.t a4,.t a5,.t a6] (.seq b19_1 (.seq b19_2 .ret))
theorem e19(v0 v1:V):argTr 4 [v0,v1]=(.n (.n sk2 (some v1) sk2) (some v0) sk3):=rfl
def B19:=ai @e19 (ai (wu b19_1.eq_1) (wu b19_2.eq_1))
def b114_1:CC:=(.reg [(qq a4 (.mv xF))])
def b114_2:CC:=(.reg [(qq a5 (.mv z0)),(qq a6 (.ln .str z5)),(qq a7 (.mv z1)),(qq a8 (.ln .str z7)),(qq a9 (.bi .geq z6 z8)),(qq a10 (.mv z9)),⟨(some a11),.q (.mv z0),(some (a10,true))⟩,⟨(some a12),.q (.mv z1),(some (a10,true))⟩,⟨(some a13),.q (.ln .str z12),(some (a10,true))⟩,⟨(some a14),.q (.slS z11 none (some z13)),(some (a10,true))⟩,⟨(some a15),.q (.mv z1),(some (a10,true))⟩,⟨(some a16),.q (.bi .eql z14 z15),(some (a10,true))⟩,(qq a17 (.pk z10 z16 xF)),(qq a4 (.mv z17))])
def c114:CF:= .mk 5 [.t a4] (.seq b114_1 (.seq b114_2 .ret))
def b118_1:CC:=(.reg [(qq a4 (.mv (.c (.s 0 0))))])
def b118_2:CC:=(.reg [(qq a5 (.mv z0)),(qq a6 (.mv z1)),(ee a7 (.call 114 [z5,z6]))])
def b118_3:CC:=(.reg [(qq a8 (.mv z0)),(qq a9 (.mv z1)),(qq a10 (.ln .str z9)),(qq a11 (.slS z8 (some z10) none)),(qq a4 (.mv z11))])
def b118_4:CC:=(.seq b118_2 (.cond z7 (.seq b118_3 .ret) .skip))
def b118_5:CC:=(.reg [(qq a12 (.mv z0)),(qq a4 (.mv z12))])
def c118:CF:= .mk 4 [.t a4] (.seq b118_1 (.seq b118_4 (.seq b118_5 .ret)))
def b93_1:CC:=(.reg [(qq a4 (.mv (.c (.s 0 0))))])
def b93_2:CC:=(.reg [(qq a5 (.mv z0)),(qq a6 (.mv z1)),(ee a7 (.call 118 [z5,z6])),(qq a4 (.mv z7))])
def c93:CF:= .mk 4 [.t a4] (.seq b93_1 (.seq b93_2 .ret))
def asS:V→Option (List UInt8)
 | .s n x=>if strN (bl n x)=x then some (bl n x)else none
 |_=>none
def fnd(c:UInt8):List UInt8→Nat→Option Nat
 |[],_=>none
 |x::r,i=>if x=c then some i else fnd c r (i+1)
theorem fnd_lt{c:UInt8}:∀{l:List UInt8} {i k:Nat},fnd c l i=some k→i≤k∧k<i+l.length
 |[],i,k,h=>by cases h
 |x::r,i,k,h=>by
  unfold fnd at h;split at h
  ·obtain rfl:=Option.some.inj h;simp
  ·have:=fnd_lt h;rw[List.length_cons];omega
theorem findB_s(c:UInt8):∀(l:List UInt8) (i:Nat),findB c.toNat l.length (strN l) i=fnd c l i
 |[],i=>rfl
 |x::r,i=>by
  have hx:=UInt8.toNat_lt x;show(bif Nat.beq ((x.toNat+256*strN r)%256) c.toNat then some i else findB c.toNat r.length ((x.toNat+256*strN r)/256) (Nat.succ i))=_;rw[show(x.toNat+256*strN r)%256=x.toNat by omega,show(x.toNat+256*strN r)/256=strN r by omega,beqN,fnd];by_cases h:x=c
  ·subst h;rw[decide_eq_true rfl,if_pos rfl];rfl
  ·rw[decide_eq_false (fun e=>h (UInt8.toNat_inj.1 e)),if_neg h,cond_false];exact findB_s c r (i+1)
def xibV(x c:V):Option V:=(qop (.xib (.c x) (.c c)) [] .e .e).val
theorem v_xib{F:RO}(x c:X)(M:Mem)(t:T):(qop (.xib x c) F M t).val=xibV (x.ev t) (c.ev t):=Eq.trans rfl (Eq.refl _)
def idxZ:Option Nat→Int
 |some k=>(k:Int)
 |none=> -1
theorem xibV_s(l:List UInt8)(c:UInt8):xibV (sV l) (bV c)=some (.i .i64 (idxZ (fnd c l 0))):=by
 show(q_xib1 (findB (Nat.mod c.toNat 256) l.length (strN l) 0)).val=_
 have:=UInt8.toNat_lt c
 rw[show Nat.mod c.toNat 256=c.toNat from Nat.mod_eq_of_lt (by omega),findB_s]
 cases fnd c l 0<;>rfl
def asB:V→Option UInt8
 | .i .u8 (.ofNat n)=>if n<256 then some (UInt8.ofNat n)else none
 |_=>none
def h96:List V→Option V
 |[v,w]=>(asS v).bind fun l=>(asB w).bind fun b=>some (.i .i64 (idxZ (fnd b l 0)))
 |_=>none
theorem ixS0(b:UInt8):ixSV (sV [b]) (.i .i64 0)=some (bV b):=ixSs [b] .i64 0 (by simp)
def h69:List V→Option V
 |[v,w]=>(asS v).bind fun l=>(asS w).bind fun s=>match s with|[b]=>some (.i .i64 (idxZ (fnd b l 0)))|_=>none
 |_=>none
def cutV(c:UInt8)(l:List UInt8):V:=match fnd c l 0 with
 |some k=> .t [sV (l.take k),sV (l.drop (k+1)),.b true]
 |none=> .t [sV l,.s 0 0,.b false]
theorem dq_slS{F:RO}(x:X)(lo hi:Option X)(M:Mem)(t:T):dqR (.slS x lo hi) F M t=oV (slSV (x.ev t) (lo.map fun x=>x.ev t) (hi.map fun x=>x.ev t)):=by
 refine(dq_of ?_).trans (congrArg oV (v_slS (F:=F) x lo hi M t))
 intro F' M'
 refine qv_oV ?_
 show((onS (x.ev t) QR.f fun n s=>q_slS1 n s (optN t 0 lo) (optN t n hi))= .f∨ ∃y,(onS (x.ev t) QR.f fun n s=>q_slS1 n s (optN t 0 lo) (optN t n hi))= .v y)
 cases x.ev t with
 |s n s=>
  show QV (q_slS1 n s (optN t 0 lo) (optN t n hi));generalize optN t 0 lo=a;generalize optN t n hi=b;cases a with
  |none=>exact .inl rfl
  |some a=>
   cases b with
   |none=>exact .inl rfl
   |some b=>
    show QV (Bool.rec (motive:=fun _=>QR) .f (Bool.rec (motive:=fun _=>QR) .f (vS (b-a) (s/256^a%256^(b-a))) (Nat.ble b n)) (Nat.ble a b));cases Nat.ble a b with
    |false=>exact .inl rfl
    |true=>
     cases Nat.ble b n with
     |false=>exact .inl rfl
     |true=>exact .inr ⟨_,by show vS _ _=_;unfold vS;rw[fN_eq,fN_eq]⟩
 |_=>exact .inl rfl
def h47:List V→Option V
 |[v,w]=>(asS v).bind fun l=>(asS w).bind fun s=>match s with|[b]=>if l.length≤1073741824 then some (cutV b l)else none|_=>none
 |_=>none
theorem cutV_t(b:UInt8)(l:List UInt8):∃x y z,cutV b l= .t [x,y,z]:=by
 unfold cutV
 cases fnd b l 0<;>exact⟨_,_,_,rfl⟩
theorem r96(Φ:Nat→Option CF)(h:Φ 96=some c96){F:RO}{M:Mem}{c:Nat}(l:List UInt8)(b:UInt8):Calls Φ F 96 [sV l,bV b] M c fun v M' c'=>v= .i .i64 (idxZ (fnd b l 0))∧M'=M∧c≤c':=by
 refine calls_walk h ?_
 simp only[WX,B96,v_xib,xibV_s]
 exact Nat.le_refl _
theorem r69(Φ:Nat→Option CF)(h:Φ 69=some c69)(h96:Φ 96=some c96){F:RO}{M:Mem}{c:Nat}(ok:Okm F M c)(l:List UInt8)(b:UInt8):Calls Φ F 69 [sV l,sV [b]] M c fun v M' c'=>v= .i .i64 (idxZ (fnd b l 0))∧M'=M∧c≤c':=by
 refine calls_walk h ?_
 have e:((([b]:List UInt8).length:Nat):Int)=1:=rfl
 have d0:decide (((([b]:List UInt8).length:Nat):Int)=0)=false:=rfl
 have d1:decide (((([b]:List UInt8).length:Nat):Int)=1)=true:=rfl
 by_cases hl:[b]=l
 ·have dl:decide ([b]=l)=true:=decide_eq_true hl;have hf:fnd b l 0=some 0:=by rw[←hl];simp[fnd]
  simp only[WX,Int.reduceEq,B69,Int.ofNat_one,dl,hf];exact⟨rfl,Nat.le_refl _⟩
 ·have dl:decide ([b]=l)=false:=decide_eq_false hl;simp only[WX,Int.reduceEq,B69,Int.ofNat_one,dl,ixS0];refine putE_to ((r96 Φ h96 l b).mono ?_);rintro v1 M1 c1 ⟨rfl,rfl,hc⟩;simp only[WX];omega
theorem r47(Φ:Nat→Option CF)(h:Φ 47=some c47)(h69:Φ 69=some c69)(h96:Φ 96=some c96){F:RO}{M:Mem}{c:Nat}(ok:Okm F M c)(l:List UInt8)(b:UInt8)(hl:l.length≤1073741824):Calls Φ F 47 [sV l,sV [b]] M c fun v M' c'=>v=cutV b l∧M'=M∧c≤c':=by
 refine calls_walk h ?_
 unfold cutV
 cases hf:fnd b l 0 with
 |none=>
  have d:decide ((0:Int)≤idxZ none)=false:=rfl;simp only[WX,B47];refine putE_to ((r69 Φ h69 h96 ok l b).mono ?_);rintro v1 M1 c1 ⟨rfl,rfl,hc⟩;simp only[WX,B47,hf,d];exact hc
 |some k=>
  have hk:=(fnd_lt hf).2;have d:decide ((0:Int)≤(k:Int))=true:=decide_eq_true (by omega);have hz:idxZ (some k)=(k:Int):=rfl;have e:((([b]:List UInt8).length:Nat):Int)=1:=rfl;have q1:biV .add (.i .i64 (k:Int)) (.i .i64 1)=some (.i .i64 ((k+1:Nat):Int)):=by rw[i64_add _ _ (by omega) (by omega)];simp
  have s1:=sl_nh l .i64 k (by omega);have s2:=sl_ln l .i64 (k+1) (by omega);simp only[WX,B47];refine putE_to ((r69 Φ h69 h96 ok l b).mono ?_);rintro v1 M1 c1 ⟨rfl,rfl,hc⟩;have hfr:=(show Okm F M1 c1 from⟨fun x hx=>ok.hiM x (by omega),fun x hx=>ok.hiF x (by omega),ok.ap,by have:=ok.ge;omega⟩).free;simp only[WX,B47,hf,d,hz,Int.ofNat_one,q1,s1,s2,dq_slS];omega
theorem r19(Φ:Nat→Option CF)(h:Φ 19=some c19)(h47:Φ 47=some c47)(h69:Φ 69=some c69)(h96:Φ 96=some c96){F:RO}{M:Mem}{c:Nat}(ok:Okm F M c)(l:List UInt8)(b:UInt8)(hl:l.length≤1073741824):Calls Φ F 19 [sV l,sV [b]] M c fun v M' c'=>v=cutV b l∧M'=M∧c≤c':=by
 refine calls_walk h ?_
 simp only[WX,B19]
 refine putE_to ((r47 Φ h47 h69 h96 ok l b hl).mono ?_)
 rintro v1 M1 c1 ⟨rfl,rfl,hc⟩
 obtain⟨x,y,z,hcv⟩:=cutV_t b l
 rw[hcv]
 simp only[WX]
 exact hc
def b21_1:CC:=(.reg [(qq a3 (.mv z0)),(ee a4 (.call 22 [z1,z3]))])
def b21_2:CC:=(.reg [(ee a5 (.call 23 [z1,(.c (.i .u8 10))]))])
def c21:CF:= .mk 3 [] (.seq b21_1 b21_2)
theorem e21(v0 v1:V):argTr 3 [v0,v1]=(.n (.n sk1 (some v1) sk1) (some v0) sk2):=rfl
def B21:=ai @e21 (ai (wu b21_1.eq_1) (wu b21_2.eq_1))
def b28_1:CC:=(.reg [(qq a3 (.mv z0)),(qq a4 (.nck z3)),(qq a5 (.fa 1 z4)),(qq a6 (.ld1 z5)),(qq a7 (.ln .slice z6)),(qq a2 (.mv z7))])
def b28_2:CC:=(.seq (.reg [(qq a2 (.mv (x6 0)))]) (.seq b28_1 .ret))
def c28:CF:= .mk 4 [.t a2] b28_2
theorem e28(v0:V):argTr 4 [v0]=(.n sk3 (some v0) sk3):=rfl
def B28:=ai @e28 (ai (wu b28_1.eq_1) (wu b28_2.eq_1))
def b8_1:CC:=(.reg [(aa a1 (.bx 40 6 z0)),(qq a2 (.mv (.c (.s 0 0)))),(qq a3 (.mv (x6 0)))])
def b8_2:CC:=(.reg [(qq a17 (.ldn 6 z1)),(ee a18 (.call 9 [z17])),(qq a16 (.mv z18)),(qq a19 (.ex 0 z16)),(qq a20 (.ex 1 z16)),(qq a4 (.mv z19)),(qq a5 (.mv z20))])
def b8_3:CC:=(.reg [(qq a21 (.mv z5)),(qq a22 (.bi .neq z21 (x6 0)))])
def b8_4:CC:=(.reg [(qq a23 (.mv z5)),(qq a2 (.mv (.c (.s 0 0)))),(qq a3 (.mv z23))])
def b8_5:CC:=(.seq b8_3 (.cond z22 (.seq b8_4 .ret) .skip))
def b8_6:CC:=(.reg [(aa a6 (.al 69 [.p0,.l0]))])
def b8_7:CC:=(.reg [(qq a24 (.mkf 21 [] [z6])),(qq a7 (.mv z24))])
def b8_8:CC:=(.reg [(qq a25 (.mv z7)),(qq a26 (.fa 0 z1)),(qq a27 (.fa 0 z26)),(qq a28 (.fa 0 z27)),(qq a29 (.ld1 z28)),(qq a30 (.fa 0 z1)),(qq a31 (.fa 0 z30)),(qq a32 (.fa 1 z31)),(qq a33 (.ld1 z32)),(aa a34 (.bsl 3 2 1 [(.i .i64 0)] [(0,z29),(1,z33)])),(ee a35 (.call 24 [(.c (.s 7 28550371649741165)),z34])),(ee a36 (.cv z25 [z35]))])
def b8_9:CC:=(.reg [(qq a37 (.fa 0 z1)),(qq a38 (.fa 0 z37)),(qq a39 (.fa 2 z38)),(qq a40 (.ld1 z39)),(qq a41 (.ln .slice z40)),(qq a42 (.mv (x6 0)))])
def b8_10:CC:=(.reg [(qq a43 (.bi .lss z42 z41))])
def b8_11:CC:=(.reg [(qq a44 (.iaS 3 z40 z42)),(qq a45 (.ldn 3 z44)),(aa a9 (.al 78 [(.i .i64 0),(.i .i64 0),(.i .i64 0)])),(ez (.st 3 z9 z45))])
def b8_12:CC:=(.reg [(qq a46 (.mv z7)),(qq a47 (.fa 0 z9)),(qq a48 (.ld1 z47)),(qq a49 (.fa 1 z9)),(qq a50 (.ld1 z49)),(qq a51 (.fa 2 z9)),(qq a52 (.ld1 z51)),(aa a53 (.bsl 3 3 1 [(.i .i64 0)] [(0,z48),(1,z50),(2,z52)])),(ee a54 (.call 24 [(.c (.s 7 32772547957449569)),z53])),(ee a55 (.cv z46 [z54]))])
def b8_13:CC:=(.reg [(qq a56 (.bi .add z42 (x6 1))),(qq a42 (.mv z56))])
def b8_14:CC:=(.seq (.cond z43 .skip (.exit 0)) (.seq (.block 1 (.seq b8_11 b8_12)) b8_13))
def b8_15:CC:=(.reg [(qq a57 (.fa 0 z1)),(qq a58 (.fa 0 z57)),(qq a59 (.fa 3 z58)),(qq a60 (.ld1 z59)),(qq a61 (.ln .slice z60)),(qq a62 (.mv (x6 0)))])
def b8_16:CC:=(.reg [(qq a63 (.bi .lss z62 z61))])
def b8_17:CC:=(.cond z63 .skip (.exit 2))
def b8_18:CC:=(.reg [(qq a64 (.iaS 1 z60 z62)),(qq a65 (.ld1 z64)),(qq a11 (.mv z65))])
def b8_19:CC:=(.reg [(qq a66 (.mv z7)),(qq a67 (.mv z11)),(ee a68 (.call 25 [z67])),(qq a69 (.bi .add (.c (.s 8 2336630925664678512)) z68)),(ee a70 (.cv z66 [z69]))])
def b8_20:CC:=(.reg [(qq a71 (.bi .add z62 (x6 1))),(qq a62 (.mv z71))])
def b8_21:CC:=(.seq b8_16 (.seq b8_17 (.seq (.block 3 (.seq b8_18 b8_19)) b8_20)))
def b8_22:CC:=(.reg [(qq a72 (.fa 0 z1)),(qq a73 (.fa 4 z72)),(qq a74 (.ld1 z73)),(qq a75 (.ln .slice z74)),(qq a76 (.bi .gtr z75 (x6 0)))])
def b8_23:CC:=(.reg [(qq a77 (.mv z7)),(qq a78 (.fa 0 z1)),(qq a79 (.fa 4 z78)),(qq a80 (.ld1 z79)),(ee a81 (.call 26 [z80])),(qq a82 (.bi .add (.c (.s 5 139392020073)) z81)),(ee a83 (.cv z77 [z82]))])
def b8_24:CC:=(.seq b8_22 (.cond z76 b8_23 .skip))
def b8_25:CC:=(.reg [(qq a84 (.fa 5 z1)),(qq a85 (.ld1 z84)),(qq a86 (.ln .slice z85)),(qq a87 (.mv (x6 0)))])
def b8_26:CC:=(.reg [(qq a88 (.bi .lss z87 z86))])
def b8_27:CC:=(.cond z88 .skip (.exit 4))
def b8_28:CC:=(.reg [(qq a89 (.iaS 5 z85 z87)),(qq a90 (.ldn 5 z89)),(aa a13 (.al 45 [(.i .i64 0),(.i .i64 0),(.s 0 0),.l0,.l0])),(ez (.st 5 z13 z90))])
def b8_29:CC:=(.reg [(qq a92 (.ldn 5 z13)),(ee a93 (.call 27 [z92])),(qq a91 (.mv z93)),(qq a94 (.ex 0 z91)),(qq a95 (.ex 1 z91)),(qq a14 (.mv z94)),(qq a15 (.mv z95))])
def b8_30:CC:=(.reg [(qq a96 (.mv z7)),(qq a97 (.mv z14)),(ee a98 (.cv z96 [z97]))])
def b8_31:CC:=(.reg [(qq a99 (.bi .add z87 (x6 1))),(qq a87 (.mv z99))])
def b8_32:CC:=(.seq b8_27 (.seq (.block 5 (.seq b8_28 (.seq b8_29 b8_30))) b8_31))
def b8_33:CC:=(.reg [(ee a100 (.call 28 [z6])),(qq a101 (.bi .gtr z100 (x6 1048576)))])
def b8_34:CC:=(.reg [(qq a2 (.mv (.c (.s 0 0)))),(qq a3 (.mv (x6 3)))])
def b8_35:CC:=(.cond z101 (.seq b8_34 .ret) .skip)
def b8_36:CC:=(.reg [(ee a102 (.call 29 [z6])),(qq a2 (.mv z102)),(qq a3 (.mv (x6 0)))])
def b8_37:CC:=(.seq (.seq b8_25 (.block 4 (.loop (.seq b8_26 b8_32)))) (.seq (.seq b8_33 b8_35) (.seq b8_36 .ret)))
def b8_38:CC:=(.seq (.seq b8_15 (.block 2 (.loop b8_21))) (.seq b8_24 b8_37))
def b8_39:CC:=(.seq (.seq b8_9 (.block 0 (.loop (.seq b8_10 b8_14)))) b8_38)
def b8_40:CC:=(.seq (.seq b8_2 b8_5) (.seq b8_6 (.seq b8_7 (.seq b8_8 b8_39))))
def c8:CF:= .mk 7 [.t a2,.t a3] (.seq b8_1 b8_40)
theorem e8(v0:V):argTr 7 [v0]=(.n sk6 (some v0) sk6):=rfl
def B8:=ai @e8 (ai (wu b8_1.eq_1) (ai (wu b8_2.eq_1) (ai (wu b8_3.eq_1) (ai (wu b8_4.eq_1) (ai (wu b8_5.eq_1) (ai (wu b8_6.eq_1) (ai (wu b8_7.eq_1) (ai (wu b8_8.eq_1) (ai (wu b8_9.eq_1) (ai (wu b8_10.eq_1) (ai (wu b8_11.eq_1) (ai (wu b8_12.eq_1) (ai (wu b8_13.eq_1) (ai (wu b8_14.eq_1) (ai (wu b8_15.eq_1) (ai (wu b8_16.eq_1) (ai (wu b8_17.eq_1) (ai (wu b8_18.eq_1) (ai (wu b8_19.eq_1) (ai (wu b8_20.eq_1) (ai (wu b8_21.eq_1) (ai (wu b8_22.eq_1) (ai (wu b8_23.eq_1) (ai (wu b8_24.eq_1) (ai (wu b8_25.eq_1) (ai (wu b8_26.eq_1) (ai (wu b8_27.eq_1) (ai (wu b8_28.eq_1) (ai (wu b8_29.eq_1) (ai (wu b8_30.eq_1) (ai (wu b8_31.eq_1) (ai (wu b8_32.eq_1) (ai (wu b8_33.eq_1) (ai (wu b8_34.eq_1) (ai (wu b8_35.eq_1) (ai (wu b8_36.eq_1) (ai (wu b8_37.eq_1) (ai (wu b8_38.eq_1) (ai (wu b8_39.eq_1) (wu b8_40.eq_1))))))))))))))))))))))))))))))))))))))))
theorem r21(Φ:Nat→Option CF)(h:Φ 21=some c21)(h22:Φ 22=some c22)(h23:Φ 23=some c23)(h52:Φ 52=some c52){F:RO}{M0 M:Mem}{c0 c b bb:Nat}{l:List UInt8}(ok:Okm F M0 c0)(hg:Gr c0 M0 c M)(hb:BldAt M c0 c b bb l)(s:List UInt8)(hr:l.length+s.length+1≤1073741824):
 Calls Φ F 21 [sV s,.p b 0] M c fun _ M' c'=>∃bb',BldAt M' c0 c' b bb' (l++(s++[10]))∧Gr c0 M0 c' M'∧c≤c':=by
 refine calls_walk h ?_
 simp only[WX,B21]
 refine putE_to ((r22 Φ h22 h52 (hg.ok ok) hg hb s (room_le (by omega))).mono ?_)
 rintro v1 M1 c1 ⟨bb1,hb1,hg1,hle1,_,_⟩
 have e10:(V.i .u8 10)=bV 10:=rfl
 simp only[WX,B21,e10]
 refine putE_to ((r23 Φ h23 h52 (hg1.ok ok) hg1 hb1 10 (room_le (by rw[List.length_append];omega))).mono ?_)
 rintro v2 M2 c2 ⟨bb2,hb2,hg2,hle2,_,_⟩
 simp only[WX]
 exact⟨bb2,by rw[←List.append_assoc];exact hb2,hg2,by omega⟩
theorem r28(Φ:Nat→Option CF)(h:Φ 28=some c28){F:RO}{M:Mem}{c0 c b bb:Nat}{l:List UInt8}(hb:BldAt M c0 c b bb l):
 Calls Φ F 28 [.p b 0] M c fun r M' c'=>r= .i .i64 (l.length:Int)∧M'=M∧c'=c:=by
 obtain⟨k1,k2,k3,a,v,hM,ha,hbuf⟩:=hb
 refine calls_walk h ?_
 have l1:load1 F M b 1=some v:=load_row hM 1
 obtain⟨o1,o2,o3⟩:=buf_one hbuf
 simp only[WX,B28,v_nck,nckV_p,l1,o3]
theorem tx_end(Φ:Nat→Option CF)(h21:Φ 21=some c21)(h22:Φ 22=some c22)(h23:Φ 23=some c23)(h52:Φ 52=some c52)(h28:Φ 28=some c28)(h29:Φ 29=some c29){F:RO}{M0 M:Mem}{c0 c b bb bx:Nat}{l s:List UInt8}{n:Nat}{row:List V}{va:V}
 (h27:∀M c,Calls Φ F 27 [.g row] M c fun v M' c'=>v= .t [sV s,.b true]∧M'=M∧c'=c)
 (hrow:row.length=5) (hr1:allOne row=true)
 (ok:Okm F M0 c0) (hg:Gr c0 M0 c M) (hb:BldAt M c0 c b bb l) (hx:load1 F M bx 5=some va) (hs:SlAt F M0 c0 5 va (List.replicate n row))
 (hn:n≤1048576) (hsz:l.length+n*(s.length+1)≤1073741823) (u:List (Option V)):
 Wp b8_37 (K Φ none 8 F) (.mk ((.n (.n (.n (.n (uv7 u 63 31 95 15 79 47 111) (some (.f 21 [] [.p b 0])) (uv7 u 71 39 103 23 87 55 119)) (uO u 3) (.n (uv7 u 67 35 99 19 83 51 115) (uO u 11) (uv7 u 75 43 107 27 91 59 123))) (some (.p bx 0)) (.n (.n (uv7 u 65 33 97 17 81 49 113) (uO u 9) (uv7 u 73 41 105 25 89 57 121)) (uO u 5) (.n (uv7 u 69 37 101 21 85 53 117) (uO u 13) (uv7 u 77 45 109 29 93 61 125)))) (uO u 0) (.n (.n (.n (uv7 u 64 32 96 16 80 48 112) (uO u 8) (uv7 u 72 40 104 24 88 56 120)) (uO u 4) (.n (uv7 u 68 36 100 20 84 52 116) (uO u 12) (uv7 u 76 44 108 28 92 60 124))) (uO u 2) (.n (.n (uv7 u 66 34 98 18 82 50 114) (uO u 10) (uv7 u 74 42 106 26 90 58 122)) (some (.p b 0)) (.n (uv7 u 70 38 102 22 86 54 118) (uO u 14) (uv7 u 78 46 110 30 94 62 126)))))) [] M c) (endQ F [.t (.r .h),.t (.l (.l .h))] fun v M' c'=>v=(if l.length+n*(s.length+1)≤1048576 then .t [sV (l++(List.replicate n (s++[10])).flatten),.i .i64 0]else .t [.s 0 0,.i .i64 3])∧Gr c0 M0 c' M'):=by
 have nl:=hs.len
 rw[List.length_replicate]at nl
 simp only[WX,B8,hx,nl]
 obtain⟨I,hI⟩:∃I:Nat→St→Prop,∀k s',I k s'↔(∃(i c1 b1:Nat) (M1:Mem) (u:List (Option V)),k=n-i∧i≤n∧s'= .mk ((.n (.n (.n (.n (uv7 u 63 31 95 15 79 47 111) (some (.f 21 [] [.p b 0])) (.n (uv3 u 71 39 103) (uO u 23) (.n (.n .e (some (.i .i64 (i:Int))) .e) (uO u 55) (uv1 u 119)))) (uO u 3) (.n (uv7 u 67 35 99 19 83 51 115) (uO u 11) (uv7 u 75 43 107 27 91 59 123))) (uO u 1) (.n (.n (uv7 u 65 33 97 17 81 49 113) (uO u 9) (uv7 u 73 41 105 25 89 57 121)) (uO u 5) (.n (.n (uv3 u 69 37 101) (uO u 21) (.n (.n .e (some (va)) .e) (uO u 53) (uv1 u 117))) (uO u 13) (uv7 u 77 45 109 29 93 61 125)))) (uO u 0) (.n (.n (.n (uv7 u 64 32 96 16 80 48 112) (uO u 8) (uv7 u 72 40 104 24 88 56 120)) (uO u 4) (.n (uv7 u 68 36 100 20 84 52 116) (uO u 12) (uv7 u 76 44 108 28 92 60 124))) (uO u 2) (.n (.n (uv7 u 66 34 98 18 82 50 114) (uO u 10) (uv7 u 74 42 106 26 90 58 122)) (some (.p b 0)) (.n (.n (uv3 u 70 38 102) (uO u 22) (.n (.n .e (some (.i .i64 (n:Int))) .e) (uO u 54) (uv1 u 118))) (uO u 14) (uv7 u 78 46 110 30 94 62 126)))))) [] M1 c1∧Gr c0 M0 c1 M1∧BldAt M1 c0 c1 b b1 (l++(List.replicate i (s++[10])).flatten)):=⟨fun k s'=>_,fun _ _=>Iff.rfl⟩
 refine wp_while I ?_ n _ ((hI _ _).2 ⟨0,c,bb,M,[_,_,_,_,_,_,none,none,_,_,_,_,_,_,_,_,_,_,_,_,_,_,_,_,_,_,_,_,_,_,_,_,_,_,_,_,_,_,_,_,_,_,_,_,_,_,_,_,_,_,_,_,_,_,_,_,_,_,_,_,_,_,_,_,_,_,_,_,_,_,_,_,_,_,_,_,_,_,_,_,_,_,_,_,_,none,none,none,_,_,_,_,_,_,_,_,_,_,_,_,_,_,_,_,_,_,_,_,_,_,_,_,_,_,_,_,_,_,_,_,_,_,_,_,_,_,_],rfl,Nat.zero_le _,rfl,hg,by rw[List.replicate_zero,List.flatten_nil,List.append_nil];exact hb⟩)
 intro k s' hIs
 obtain⟨i,c1,b1,M1,u,rfl,hi,rfl,g1,hb1⟩:=(hI _ _).1 hIs
 clear hIs
 have q8:biV .add (.i .i64 (i:Int)) (.i .i64 1)=some (.i .i64 ((i+1:Nat):Int)):=by rw[i64_add _ _ (by omega) (by omega)];simp
 have len:∀k,((List.replicate k (s++[10])).flatten).length=k*(s.length+1):=by
  intro k;rw[List.length_flatten,List.map_replicate,List.sum_replicate_nat,List.length_append];rfl
 by_cases hlt:i<n
 ·have d1:decide ((i:Int)<(n:Int))=true:=decide_eq_true (by omega);have hs1:=hs.grow g1;obtain⟨pb,po,hpb,hia,hld⟩:=hs1.at i (by rw[List.length_replicate];exact hlt);have hia:=hia .i64;rw[List.getElem_replicate]at hld;have hld:=hld.load (by intro e;rw[e]at hrow;cases hrow);rw[hrow]at hld;have hrm:(i+1)*(s.length+1)≤n*(s.length+1):=Nat.mul_le_mul_right _ hlt
  have hz:∀r:List V,r.length=5→ ∃r0 r1 r2 r3 r4,r=[r0,r1,r2,r3,r4]:=fun r h=>by
   match r,h with
   |[r0,r1,r2,r3,r4],_=>exact⟨_,_,_,_,_,rfl⟩
  obtain⟨r0,r1,r2,r3,r4,rfl⟩:=hz row hrow;simp only[WX,Nat.reduceAdd,Nat.reduceLeDiff,B8,d1,hia,hld,hr1];refine putE_to ((h27 _ _).mono ?_);rintro v2 M2 c2 ⟨rfl,rfl,rfl⟩;simp only[WX,B8];have g2:=g1.set c1 (rowB 45 [r0,r1,r2,r3,r4]) g1.le (Nat.lt_succ_self _) (Nat.le_succ _);have hb2:=hb1.up (Nat.le_succ c1) (fun x hx=>get_ne M1 (rowB 45 [r0,r1,r2,r3,r4]) (show x≠c1 by omega));have hm:(i+1)*(s.length+1)=i*(s.length+1)+(s.length+1):=by rw[Nat.succ_mul]
  have hr2:(l++(List.replicate i (s++[10])).flatten).length+s.length+1≤1073741824:=by rw[List.length_append,len];omega
  refine putE_to ((r21 Φ h21 h22 h23 h52 ok g2 hb2 s hr2).mono ?_);rintro v3 M3 c3 ⟨b3,hb3,g3,hle3⟩;simp only[WX,B8,q8];refine⟨n-(i+1),by omega,(hI _ _).2 ⟨i+1,c3,b3,M3,[_,_,_,_,_,_,none,none,_,_,_,_,_,_,_,_,_,_,_,_,_,_,_,_,_,_,_,_,_,_,_,_,_,_,_,_,_,_,_,_,_,_,_,_,_,_,_,_,_,_,_,_,_,_,_,_,_,_,_,_,_,_,_,_,_,_,_,_,_,_,_,_,_,_,_,_,_,_,_,_,_,_,_,_,_,none,none,none,_,_,_,_,_,_,_,_,_,_,_,_,_,_,_,_,_,_,_,_,_,_,_,_,_,_,_,_,_,_,_,_,_,_,_,_,_,_,_],rfl,hlt,rfl,g3,?_⟩⟩;rw[List.replicate_succ',List.flatten_append,List.flatten_cons,List.flatten_nil,List.append_nil,←List.append_assoc];exact hb3
 ·obtain rfl:i=n:=by omega
  have d1:decide ((i:Int)<(i:Int))=false:=decide_eq_false (by omega);simp only[WX,B8,d1];refine putE_to ((r28 Φ h28 hb1).mono ?_);rintro v2 M2 c2 ⟨rfl,rfl,rfl⟩;have hlen:(l++(List.replicate i (s++[10])).flatten).length=l.length+i*(s.length+1):=by rw[List.length_append,len]
  rw[hlen];by_cases hbig:l.length+i*(s.length+1)≤1048576
  ·have d2:decide ((1048576:Int)<((l.length+i*(s.length+1):Nat):Int))=false:=decide_eq_false (by omega);simp only[WX,B8,d2];refine putE_to ((r29 Φ h29 (g1.ok ok) g1 hb1 (by rw[hlen];omega)).mono ?_);rintro v3 M3 c3 ⟨rfl,g3,hle3,_⟩;simp only[WX];exact⟨by rw[if_pos hbig],g3⟩
  ·have d2:decide ((1048576:Int)<((l.length+i*(s.length+1):Nat):Int))=true:=decide_eq_true (by omega);simp only[WX,B8,d2];exact⟨by rw[if_neg hbig],g1⟩
def b9_1:CC:=(.reg [(aa a1 (.bx 40 6 z0)),(qq a2 (.mv (x6 0))),(qq a3 (.mv (x6 0)))])
def b9_2:CC:=(.reg [(qq a8 (.fa 0 z1)),(qq a9 (.ldn 5 z8)),(ee a10 (.call 11 [z9])),(qq a11 (.un .not z10))])
def b9_3:CC:=(.reg [(qq a2 (.mv (x6 0))),(qq a3 (.mv (x6 2)))])
def b9_4:CC:=(.seq b9_2 (.cond z11 (.seq b9_3 .ret) .skip))
def b9_5:CC:=(.reg [(qq a12 (.fa 5 z1)),(qq a13 (.ld1 z12)),(qq a14 (.ln .slice z13)),(qq a15 (.mv (x6 0)))])
def b9_6:CC:=(.reg [(qq a16 (.bi .lss z15 z14))])
def b9_7:CC:=(.reg [(qq a17 (.mv z15)),(qq a18 (.iaS 5 z13 z15)),(qq a19 (.ldn 5 z18)),(aa a5 (.al 45 [(.i .i64 0),(.i .i64 0),(.s 0 0),.l0,.l0])),(qq a4 (.mv z17)),(ez (.st 5 z5 z19))])
def b9_8:CC:=(.reg [(qq a21 (.ldn 5 z5)),(ee a22 (.call 27 [z21])),(qq a20 (.mv z22)),(qq a23 (.ex 0 z20)),(qq a24 (.ex 1 z20)),(qq a6 (.mv z23)),(qq a7 (.mv z24))])
def b9_9:CC:=(.reg [(qq a25 (.mv z7)),(qq a26 (.un .not z25))])
def b9_10:CC:=(.reg [(qq a27 (.mv z4)),(qq a2 (.mv z27)),(qq a3 (.mv (x6 2)))])
def b9_11:CC:=(.seq b9_9 (.cond z26 (.seq b9_10 .ret) .skip))
def b9_12:CC:=(.reg [(qq a28 (.bi .add z15 (x6 1))),(qq a15 (.mv z28))])
def b9_13:CC:=(.seq (.cond z16 .skip (.exit 0)) (.seq (.block 1 (.seq b9_7 (.seq b9_8 b9_11))) b9_12))
def b9_14:CC:=(.reg [(qq a29 (.fa 5 z1)),(qq a30 (.ld1 z29)),(qq a31 (.ln .slice z30)),(qq a32 (.bi .gtr z31 (x6 4096)))])
def b9_15:CC:=(.reg [(qq a2 (.mv (x6 0))),(qq a3 (.mv (x6 3)))])
def b9_16:CC:=(.cond z32 (.seq b9_15 .ret) .skip)
def b9_17:CC:=(.reg [(qq a2 (.mv (x6 0))),(qq a3 (.mv (x6 0)))])
def b9_18:CC:=(.seq (.seq b9_5 (.block 0 (.loop (.seq b9_6 b9_13)))) (.seq (.seq b9_14 b9_16) (.seq b9_17 .ret)))
def c9:CF:= .mk 6 [.t a2,.t a3] (.seq b9_1 (.seq b9_4 b9_18))
theorem e9(v0:V):argTr 6 [v0]=(.n sk5 (some v0) sk5):=rfl
def B9:=ai @e9 (ai (wu b9_1.eq_1) (ai (wu b9_2.eq_1) (ai (wu b9_3.eq_1) (ai (wu b9_4.eq_1) (ai (wu b9_5.eq_1) (ai (wu b9_6.eq_1) (ai (wu b9_7.eq_1) (ai (wu b9_8.eq_1) (ai (wu b9_9.eq_1) (ai (wu b9_10.eq_1) (ai (wu b9_11.eq_1) (ai (wu b9_12.eq_1) (ai (wu b9_13.eq_1) (ai (wu b9_14.eq_1) (ai (wu b9_15.eq_1) (ai (wu b9_16.eq_1) (ai (wu b9_17.eq_1) (wu b9_18.eq_1))))))))))))))))))
theorem ck_end(Φ:Nat→Option CF){F:RO}{M0 M:Mem}{c0 c bx:Nat}{s:List UInt8}{n:Nat}{row:List V}{va:V}
 (h27:∀M c,Calls Φ F 27 [.g row] M c fun v M' c'=>v= .t [sV s,.b true]∧M'=M∧c'=c)
 (hrow:row.length=5) (hr1:allOne row=true)
 (ok:Okm F M0 c0) (hg:Gr c0 M0 c M) (hbx:bx<c) (hx:load1 F M bx 5=some va) (hs:SlAt F M0 c0 5 va (List.replicate n row))
 (hn:n≤1048576) (u:List (Option V)):
 Wp b9_18 (K Φ none 9 F) (.mk ((.n (.n (.n (uv7 u 31 15 47 7 39 23 55) (uO u 3) (uv7 u 35 19 51 11 43 27 59)) (some (.p bx 0)) (.n (uv7 u 33 17 49 9 41 25 57) (uO u 5) (uv7 u 37 21 53 13 45 29 61))) (uO u 0) (.n (.n (uv7 u 32 16 48 8 40 24 56) (uO u 4) (uv7 u 36 20 52 12 44 28 60)) (uO u 2) (.n (uv7 u 34 18 50 10 42 26 58) (uO u 6) (uv7 u 38 22 54 14 46 30 62))))) [] M c) (endQ F [.t (.r .h),.t (.l (.l .h))] fun v M' c'=>v=(if n≤4096 then .t [.i .i64 0,.i .i64 0]else .t [.i .i64 0,.i .i64 3])∧Gr c0 M0 c' M'):=by
 have nl:=hs.len
 rw[List.length_replicate]at nl
 simp only[WX,B9,hx,nl]
 obtain⟨I,hI⟩:∃I:Nat→St→Prop,∀k s',I k s'↔(∃(i c1:Nat) (M1:Mem) (u:List (Option V)),k=n-i∧i≤n∧s'= .mk ((.n (.n (.n (.n (.n (uv1 u 31) (some (.i .i64 (i:Int))) (uv1 u 47)) (uO u 7) (uv3 u 39 23 55)) (uO u 3) (uv7 u 35 19 51 11 43 27 59)) (some (.p bx 0)) (.n (uv7 u 33 17 49 9 41 25 57) (uO u 5) (.n (uv3 u 37 21 53) (some (va)) (uv3 u 45 29 61)))) (uO u 0) (.n (.n (uv7 u 32 16 48 8 40 24 56) (uO u 4) (uv7 u 36 20 52 12 44 28 60)) (uO u 2) (.n (uv7 u 34 18 50 10 42 26 58) (uO u 6) (.n (uv3 u 38 22 54) (some (.i .i64 (n:Int))) (uv3 u 46 30 62)))))) [] M1 c1∧Gr c0 M0 c1 M1∧Gr c M c1 M1):=⟨fun k s'=>_,fun _ _=>Iff.rfl⟩
 refine wp_while I ?_ n _ ((hI _ _).2 ⟨0,c,M,[_,none,_,_,_,_,_,_,_,_,_,_,_,none,none,none,_,_,_,_,_,_,_,_,_,_,_,_,_,_,_,_,_,_,_,_,_,_,_,_,_,_,_,_,_,_,_,_,_,_,_,_,_,_,_,_,_,_,_,_,_,_,_],rfl,Nat.zero_le _,rfl,hg,Gr.refl (hg.ok ok)⟩)
 intro k s' hIs
 obtain⟨i,c1,M1,u,rfl,hi,rfl,g1,gM⟩:=(hI _ _).1 hIs
 clear hIs
 have q8:biV .add (.i .i64 (i:Int)) (.i .i64 1)=some (.i .i64 ((i+1:Nat):Int)):=by rw[i64_add _ _ (by omega) (by omega)];simp
 by_cases hlt:i<n
 ·have d1:decide ((i:Int)<(n:Int))=true:=decide_eq_true (by omega);have hs1:=hs.grow g1;obtain⟨pb,po,hpb,hia,hld⟩:=hs1.at i (by rw[List.length_replicate];exact hlt);have hia:=hia .i64;rw[List.getElem_replicate]at hld;have hld:=hld.load (by intro e;rw[e]at hrow;cases hrow);rw[hrow]at hld
  have hz:∀r:List V,r.length=5→ ∃r0 r1 r2 r3 r4,r=[r0,r1,r2,r3,r4]:=fun r h=>by
   match r,h with
   |[r0,r1,r2,r3,r4],_=>exact⟨_,_,_,_,_,rfl⟩
  obtain⟨r0,r1,r2,r3,r4,rfl⟩:=hz row hrow;simp only[WX,Nat.reduceAdd,Nat.reduceLeDiff,B9,d1,hia,hld,hr1];refine putE_to ((h27 _ _).mono ?_);rintro v2 M2 c2 ⟨rfl,rfl,rfl⟩;simp only[WX,B9,q8];exact⟨n-(i+1),by omega,(hI _ _).2 ⟨i+1,_,_,[_,none,_,_,_,_,_,_,_,_,_,_,_,none,none,none,_,_,_,_,_,_,_,_,_,_,_,_,_,_,_,_,_,_,_,_,_,_,_,_,_,_,_,_,_,_,_,_,_,_,_,_,_,_,_,_,_,_,_,_,_,_,_],rfl,hlt,rfl,g1.set c1 (rowB 45 [r0,r1,r2,r3,r4]) g1.le (Nat.lt_succ_self _) (Nat.le_succ _),gM.set c1 (rowB 45 [r0,r1,r2,r3,r4]) gM.le (Nat.lt_succ_self _) (Nat.le_succ _)⟩⟩
 ·obtain rfl:i=n:=by omega
  have d1:decide ((i:Int)<(i:Int))=false:=decide_eq_false (by omega);have hx1:load1 F M1 bx 5=some va:=by rw[gM.load1 hbx];exact hx
  by_cases hbig:i≤4096
  ·have d2:decide ((4096:Int)<(i:Int))=false:=decide_eq_false (by omega);simp only[WX,B9,d1,hx1,nl,d2];exact⟨by rw[if_pos hbig],g1⟩
  ·have d2:decide ((4096:Int)<(i:Int))=true:=decide_eq_true (by omega);simp only[WX,B9,d1,hx1,nl,d2];exact⟨by rw[if_neg hbig],g1⟩
def b7_1:CC:=(.reg [(aa a2 (.al 40 [(.i .i64 0),(.i .i64 0),.l0,.l0,.l0,.l0])),(qq a3 (.mv (x6 0))),(qq a4 (.mv (x6 0)))])
def b7_2:CC:=(.reg [(aa a5 (.al 40 [(.i .i64 0),(.i .i64 0),.l0,.l0,.l0,.l0]))])
def b7_3:CC:=(.reg [(aa a6 (.al 45 [(.i .i64 0),(.i .i64 0),(.s 0 0),.l0,.l0]))])
def b7_4:CC:=(.reg [(qq a7 (.mv (x6 0)))])
def b7_5:CC:=(.reg [(qq a8 (.mv (.c (.s 0 0))))])
def b7_6:CC:=(.reg [(qq a9 (.mv xF))])
def b7_7:CC:=(.reg [(qq a10 (.mv (x6 0))),(qq a11 (.mv (.c (.s 0 0)))),(qq a12 (.mv xT))])
def b7_8:CC:=(.reg [(qq a13 (.mv z0)),(qq a14 (.ln .str z13)),(qq a15 (.bi .gtr z14 (x6 1048576)))])
def b7_9:CC:=(.reg [(qq a16 (.bld [(.i .i64 0),(.i .i64 0),.l0,.l0,.l0,.l0] [])),(ez (.st 6 z2 z16)),(qq a3 (.mv (x6 0))),(qq a4 (.mv (x6 3)))])
def b7_10:CC:=(.seq b7_8 (.cond z15 (.seq b7_9 .ret) .skip))
def b7_11:CC:=(.reg [(qq a18 (.mv z0)),(ee a19 (.call 18 [z18])),(qq a17 (.mv z19)),(qq a20 (.ex 0 z17)),(qq a21 (.ex 1 z17)),(qq a22 (.ex 2 z17)),(qq a23 (.ex 3 z17)),(qq a24 (.fa 0 z5)),(ez (.st 5 z24 z20)),(qq a10 (.mv z21)),(qq a11 (.mv z22)),(qq a9 (.mv z23))])
def b7_12:CC:=(.reg [(qq a25 (.mv z9)),(qq a26 (.un .not z25))])
def b7_13:CC:=(.seq b7_12 (.cond z26 (.goto 0) .skip))
def b7_14:CC:=(.reg [(qq a27 (.mv z11)),(qq a28 (.bi .neq z27 (.c (.s 0 0))))])
def b7_15:CC:=(.seq b7_14 (.cond z28 .skip (.exit 0)))
def b7_16:CC:=(.reg [(qq a32 (.mv z11)),(ee a33 (.call 19 [z32,(.c (.s 1 10))])),(qq a31 (.mv z33)),(qq a34 (.ex 0 z31)),(qq a35 (.ex 1 z31)),(qq a36 (.ex 2 z31)),(qq a8 (.mv z34)),(qq a11 (.mv z35)),(qq a12 (.mv z36))])
def b7_17:CC:=(.reg [(qq a38 (.mv z8)),(ee a39 (.call 20 [z38])),(qq a37 (.mv z39)),(qq a40 (.ex 0 z37)),(qq a41 (.ex 1 z37)),(ez (.st 5 z6 z40)),(qq a7 (.mv z41))])
def b7_18:CC:=(.reg [(qq a42 (.mv z12)),(qq a43 (.un .not z42)),(qq a44 (.mv z43)),⟨(some a45),.q (.mv z7),(some (a44,false))⟩,⟨(some a46),.q (.bi .neq z45 (x6 0)),(some (a44,false))⟩,(qq a47 (.pk z44 xT z46)),(qq a48 (.mv z47)),⟨(some a49),.q (.fa 5 z5),(some (a48,false))⟩,⟨(some a50),.q (.ld1 z49),(some (a48,false))⟩,⟨(some a51),.q (.ln .slice z50),(some (a48,false))⟩,⟨(some a52),.q (.bi .geq z51 (x6 4096)),(some (a48,false))⟩,(qq a53 (.pk z48 xT z52))])
def b7_19:CC:=(.seq b7_18 (.cond z53 (.goto 0) .skip))
def b7_20:CC:=(.reg [(qq a54 (.fa 5 z5)),(qq a55 (.ld1 z54)),(qq a56 (.ldn 5 z6)),(aa a57 (.bsl 45 1 5 [(.i .i64 0),(.i .i64 0),(.s 0 0),.l0,.l0] [(0,z56)])),(ee a58 (.app 45 5 80 z55 z57)),(qq a59 (.fa 5 z5)),(ez (.st 1 z59 z58))])
def b7_21:CC:=(.reg [(qq a29 (.mv z10)),(qq a30 (.bi .add z29 (x6 1))),(qq a10 (.mv z30))])
def b7_22:CC:=(.seq (.block 1 (.seq b7_16 (.seq (.seq b7_17 b7_19) b7_20))) b7_21)
def b7_23:CC:=(.reg [(qq a60 (.ldn 6 z5)),(ez (.st 6 z2 z60)),(qq a3 (.mv (x6 0))),(qq a4 (.mv (x6 0)))])
def b7_24:CC:=(.reg [(qq a61 (.bld [(.i .i64 0),(.i .i64 0),.l0,.l0,.l0,.l0] [])),(qq a62 (.mv z10)),(ez (.st 6 z2 z61)),(qq a3 (.mv z62)),(qq a4 (.mv (x6 4)))])
def b7_25:CC:=(.seq (.block 0 (.loop (.seq b7_15 b7_22))) (.seq (.seq b7_23 .ret) (.seq .skip (.seq b7_24 .ret))))
def b7_26:CC:=(.seq b7_6 (.seq b7_7 (.seq b7_10 (.seq (.seq b7_11 b7_13) b7_25))))
def b7_27:CC:=(.reg [(qq a61 (.bld [(.i .i64 0),(.i .i64 0),.l0,.l0,.l0,.l0] [])),(qq a62 (.mv z10)),(ez (.st 6 z2 z61)),(qq a3 (.mv z62)),(qq a4 (.mv (x6 4)))])
def b7_28:CC:=(.scope (.seq b7_2 (.seq b7_3 (.seq b7_4 (.seq b7_5 b7_26)))) (.tab 0 (.seq .skip (.seq b7_27 .ret)) .skip))
def c7:CF:= .mk 6 [.cn a2 6,.t a3,.t a4] (.seq b7_1 b7_28)
theorem e7(v0:V):argTr 6 [v0]=(.n sk5 (some v0) sk5):=rfl
def B7:=ai @e7 (ai (wu b7_1.eq_1) (ai (wu b7_2.eq_1) (ai (wu b7_3.eq_1) (ai (wu b7_4.eq_1) (ai (wu b7_5.eq_1) (ai (wu b7_6.eq_1) (ai (wu b7_7.eq_1) (ai (wu b7_8.eq_1) (ai (wu b7_9.eq_1) (ai (wu b7_10.eq_1) (ai (wu b7_11.eq_1) (ai (wu b7_12.eq_1) (ai (wu b7_13.eq_1) (ai (wu b7_14.eq_1) (ai (wu b7_15.eq_1) (ai (wu b7_16.eq_1) (ai (wu b7_17.eq_1) (ai (wu b7_18.eq_1) (ai (wu b7_19.eq_1) (ai (wu b7_20.eq_1) (ai (wu b7_21.eq_1) (ai (wu b7_22.eq_1) (ai (wu b7_23.eq_1) (ai (wu b7_24.eq_1) (ai (wu b7_25.eq_1) (ai (wu b7_26.eq_1) (ai (wu b7_27.eq_1) (wu b7_28.eq_1))))))))))))))))))))))))))))
theorem fnd_app{c:UInt8}{r:List UInt8}:∀{l:List UInt8} (i:Nat),c∉l→fnd c (l++c::r) i=some (i+l.length)
 |[],i,_=>by simp[fnd]
 |x::l,i,h=>by
  have hx:x≠c:=fun e=>h (e▸List.mem_cons_self ..);show(if x=c then some i else fnd c (l++c::r) (i+1))=_;rw[if_neg hx,fnd_app (i+1) fun hm=>h (List.mem_cons_of_mem _ hm),List.length_cons]
  congr 1;omega
theorem cut_app{c:UInt8}{l r:List UInt8}(h:c∉l):cutV c (l++c::r)= .t [sV l,sV r,.b true]:=by
 unfold cutV
 rw[fnd_app 0 h,Nat.zero_add]
 show V.t [sV ((l++c::r).take l.length),sV ((l++c::r).drop (l.length+1)),.b true]=_
 rw[List.take_left,←List.drop_drop,List.drop_left];rfl
theorem roundQ_gto(I:Nat→St→Prop)(n:Nat)(Q:Ex→St→Prop)(l:Nat)(s:St):roundQ I n Q (.gto l) s=Q (.gto l) s:=Eq.trans rfl (Eq.refl _)
theorem ps_end(Φ:Nat→Option CF)(h19:Φ 19=some c19)(h47:Φ 47=some c47)(h69:Φ 69=some c69)(h96:Φ 96=some c96){F:RO}{M0 M:Mem}{c0 c b2 b5 b6 n0:Nat}{line:List UInt8}{row r2:List V}{x0 x1 x2 x3 x4:V}{r6:List V}
 (h20:∀M c,Calls Φ F 20 [sV line] M c fun v M' c'=>v= .t [.g row,.i .i64 0]∧M'=M∧c'=c)
 (hrow:row.length=5) (hr1:allOne row=true) (hl:(10:UInt8)∉line) (hl2:line.length≤20000)
 (ok:Okm F M0 c0) (hg:Gr c0 M0 c M) (m2:M.get b2=some (rowB 40 r2)) (l2:r2.length=6) (m5:M.get b5=some (rowB 40 [x0,x1,x2,x3,x4,.l0])) (m6:M.get b6=some (rowB 45 r6)) (l6:r6.length=5)
 (k2:c0≤b2∧b2<c) (k5:c0≤b5∧b5<c) (k6:c0≤b6∧b6<c) (n56:b5≠b6) (n25:b2≠b5) (n26:b2≠b6) (hn0:n0≤100000) (Q:Ex→St→Prop)
 (hQ:∀u M' c',Gr c0 M0 c' M'→M'.get b2=some (rowB 40 r2)→Q (.gto 0) (.mk ((.n (.n (.n (uv7 u 31 15 47 7 39 23 55) (uO u 3) (uv7 u 35 19 51 11 43 27 59)) (uO u 1) (.n (uv7 u 33 17 49 9 41 25 57) (uO u 5) (uv7 u 37 21 53 13 45 29 61))) (uO u 0) (.n (.n (uv7 u 32 16 48 8 40 24 56) (uO u 4) (uv7 u 36 20 52 12 44 28 60)) (some (.p b2 0)) (.n (.n (uv3 u 34 18 50) (some (.i .i64 ((n0+4096:Nat):Int))) (uv3 u 42 26 58)) (uO u 6) (uv7 u 38 22 54 14 46 30 62))))) [] M' c')) (u:List (Option V)):
 Wp b7_25 (K Φ none 7 F) (.mk ((.n (.n (.n (uv7 u 31 15 47 7 39 23 55) (uO u 3) (.n (uv3 u 35 19 51) (some (sV (List.replicate 4097 (line++[10])).flatten)) (uv3 u 43 27 59))) (uO u 1) (.n (uv7 u 33 17 49 9 41 25 57) (some (.p b5 0)) (uv7 u 37 21 53 13 45 29 61))) (uO u 0) (.n (.n (uv7 u 32 16 48 8 40 24 56) (uO u 4) (uv7 u 36 20 52 12 44 28 60)) (some (.p b2 0)) (.n (.n (uv3 u 34 18 50) (some (.i .i64 (n0:Int))) (uv3 u 42 26 58)) (some (.p b6 0)) (uv7 u 38 22 54 14 46 30 62))))) [] M c) Q:=by
 simp only[WX,B7]
 obtain⟨I,hI⟩:∃I:Nat→St→Prop,∀k s',I k s'↔(∃(i c1 ab:Nat) (M1:Mem) (r6:List V) (va:V) (u:List (Option V)),k=4097-i∧i≤4096∧s'= .mk ((.n (.n (.n (uv7 u 31 15 47 7 39 23 55) (uO u 3) (.n (uv3 u 35 19 51) (some (sV (List.replicate (4097-i) (line++[10])).flatten)) (uv3 u 43 27 59))) (uO u 1) (.n (uv7 u 33 17 49 9 41 25 57) (some (.p b5 0)) (uv7 u 37 21 53 13 45 29 61))) (uO u 0) (.n (.n (uv7 u 32 16 48 8 40 24 56) (uO u 4) (uv7 u 36 20 52 12 44 28 60)) (some (.p b2 0)) (.n (.n (uv3 u 34 18 50) (some (.i .i64 ((n0+i:Nat):Int))) (uv3 u 42 26 58)) (some (.p b6 0)) (uv7 u 38 22 54 14 46 30 62))))) [] M1 c1∧Gr c0 M0 c1 M1∧c≤c1∧M1.get b2=some (rowB 40 r2)∧M1.get b5=some (rowB 40 [x0,x1,x2,x3,x4,va])∧M1.get b6=some (rowB 45 r6)∧r6.length=5∧AccAt M1 c0 c1 ab 45 5 va (List.replicate i row)∧ab≠b2∧ab≠b5∧ab≠b6):=⟨fun k s'=>_,fun _ _=>Iff.rfl⟩
 refine wp_while I ?_ 4097 _ ((hI _ _).2 ⟨0,c,c,M,r6,.l0,[_,_,none,_,_,none,none,_,_,_,none,none,_,_,_,_,_,_,_,_,_,_,_,_,_,_,_,_,_,_,_,_,_,_,_,_,_,_,_,_,_,_,_,_,_,_,_,_,_,_,_,_,_,_,_,_,_,_,_,_,_,_,_],rfl,Nat.zero_le _,rfl,hg,Nat.le_refl _,m2,m5,m6,l6,AccAt.nil,by omega,by omega,by omega⟩)
 intro k s' hIs
 obtain⟨i,c1,ab,M1,r6,va,u,rfl,hi,rfl,g1,hc1,m2,m5,m6,l6,hA,a2,a5,a6⟩:=(hI _ _).1 hIs
 clear hIs
 have q8:biV .add (.i .i64 ((n0+i:Nat):Int)) (.i .i64 1)=some (.i .i64 ((n0+(i+1):Nat):Int)):=by rw[i64_add _ _ (by omega) (by omega)];simp;omega
 have hrest:(List.replicate (4097-i) (line++[10])).flatten=line++10::(List.replicate (4097-(i+1)) (line++[10])).flatten:=by
  rw[show 4097-i=(4097-(i+1))+1 by omega,List.replicate_succ,List.flatten_cons];simp
 have hne:biV .neq (sV (List.replicate (4097-i) (line++[10])).flatten) (.s 0 0)=some (.b true):=by
  have h0:(List.replicate (4097-i) (line++[10])).flatten≠[]:=by rw[hrest];simp
  exact(bi_sne _ []).trans (by rw[decide_eq_false h0];rfl)
 have hlen:(List.replicate (4097-i) (line++[10])).flatten.length≤1073741824:=by
  rw[List.length_flatten,List.map_replicate,List.sum_replicate_nat,List.length_append];have:(4097-i)*(line.length+[(10:UInt8)].length)≤4097*20001:=Nat.mul_le_mul (by omega) (by simp;omega);omega
 have hcut:=cut_app (r:=(List.replicate (4097-(i+1)) (line++[10])).flatten) hl
 simp only[WX,B7,hne]
 have len:Okm F M1 c1:=g1.ok ok
 refine putE_to ((r19 Φ h19 h47 h69 h96 len _ 10 hlen).mono ?_)
 rintro v1 M2 c2 ⟨rfl,rfl,hc2⟩
 rw[hrest,hcut]
 simp only[WX,B7]
 refine putE_to ((h20 _ _).mono ?_)
 rintro v2 M3 c3 ⟨rfl,rfl,rfl⟩
 have g2:Gr c0 M0 c3 M3:=g1.up hc2
 have hz:∀r:List V,r.length=5→ ∃r0 r1 r2 r3 r4,r=[r0,r1,r2,r3,r4]:=fun r h=>by
  match r,h with
  |[r0,r1,r2,r3,r4],_=>exact⟨_,_,_,_,_,rfl⟩
 have dz:decide ((0:Int)≠0)=false:=rfl
 obtain⟨w0,w1,w2,w3,w4,rfl⟩:=hz row hrow
 obtain⟨y0,y1,y2,y3,y4,rfl⟩:=hz r6 l6
 have st6:=store_row m6 0 [w0,w1,w2,w3,w4] (by simp) hr1
 rw[show over [y0,y1,y2,y3,y4] 0 [w0,w1,w2,w3,w4]=[w0,w1,w2,w3,w4]from rfl]at st6
 simp only[WX,Nat.reduceAdd,B7,st6]
 have g3:=g2.set b6 (rowB 45 [w0,w1,w2,w3,w4]) k6.1 (by omega) (Nat.le_refl _)
 have e2:(M3.set b6 (rowB 45 [w0,w1,w2,w3,w4])).get b2=some (rowB 40 r2):=by rw[get_ne _ _ n26];exact m2
 have e5:(M3.set b6 (rowB 45 [w0,w1,w2,w3,w4])).get b5=some (rowB 40 [x0,x1,x2,x3,x4,va]):=by rw[get_ne _ _ n56];exact m5
 have e6:(M3.set b6 (rowB 45 [w0,w1,w2,w3,w4])).get b6=some (rowB 45 [w0,w1,w2,w3,w4]):=get_same _ _ _
 have hA3:AccAt (M3.set b6 (rowB 45 [w0,w1,w2,w3,w4])) c0 c3 ab 45 5 va (List.replicate i [w0,w1,w2,w3,w4]):=hA.up hc2 fun _=>get_ne _ _ a6
 generalize M3.set b6 (rowB 45 [w0,w1,w2,w3,w4])=M4 at g3 e2 e5 e6 hA3⊢
 have ok4:Okm F M4 c3:=g3.ok ok
 have l5:load1 F M4 b5 5=some va:=load_row e5 5
 have nl:=hA3.sl (F:=F).len
 rw[List.length_replicate]at nl
 by_cases hlast:i=4096
 ·subst hlast;have d1:decide ((4096:Int)≤((4096:Nat):Int))=true:=by decide
  simp only[WX,Nat.reduceAdd,dz,l5,nl,d1,wp_goto,seqQ_gto,blockQ_gto,roundQ_gto];exact hQ [_,_,none,_,_,_,_,_,_,_,none,_,_,_,_,_,_,_,_,_,_,_,_,_,_,_,_,_,_,_,_,_,_,_,_,_,_,_,_,_,_,_,_,_,_,_,_,_,_,_,_,_,_,_,_,_,_,_,_,_,_,_,_] M4 c3 g3 e2
 ·have d1:decide ((4096:Int)≤(i:Int))=false:=decide_eq_false (by omega);have ld6:loadN F M4 b6 0 5=some [w0,w1,w2,w3,w4]:=loadN_row e6 5 rfl;have hG:flatten (V.g [w0,w1,w2,w3,w4])=[w0,w1,w2,w3,w4]:=rfl;have h1':(isOne w0&&(isOne w1&&(isOne w2&&(isOne w3&&isOne w4))))=true:=by
   rw[allOne_cons,allOne_cons,allOne_cons,allOne_cons,allOne_cons,allOne_nil,Bool.and_true]at hr1;exact hr1
  simp only[WX,Nat.reduceAdd,B7,dz,l5,nl,d1,ld6,hG,h1'];have gY:=(Gr.refl ok4).set c3 (rowD [.i .i64 0,.i .i64 0,.s 0 0,.l0,.l0] 45 [w0,w1,w2,w3,w4]) (Nat.le_refl _) (Nat.lt_succ_self _) (Nat.le_succ _);have g4:=g3.trans gY;have hy:SlAt F (M4.set c3 (rowD [.i .i64 0,.i .i64 0,.s 0 0,.l0,.l0] 45 [w0,w1,w2,w3,w4])) (c3+1) 5 (.l c3 0 1 1) [[w0,w1,w2,w3,w4]]:=slD (d:=[.i .i64 0,.i .i64 0,.s 0 0,.l0,.l0]) (ty:=45) (get_same _ _ _) (by omega) (fun e he=>by rw[List.mem_singleton.1 he];rfl) rfl;refine putE_to ((appV_to (bytes:=80) (hA3.gr gY) g4 (by decide) hy hr1 (room_of (by rw[List.length_replicate];show(3*(i+1)+2000)*80≤_;omega) (by rw[List.length_replicate];show i+1≤_;omega))).mono ?_);rintro v4 M5 c5 ⟨ab',hA5,g5,hc5,hfr,hab⟩;have m5':M5.get b5=some (rowB 40 [x0,x1,x2,x3,x4,va]):=by rw[hfr b5 (by omega) (Ne.symm a5),get_ne _ _ (by omega)];exact e5
  have o5:isOne v4=true∧flatten v4=[v4]:=by
   rcases hA5.2 with⟨_,rfl⟩|⟨_,_,rfl,_⟩<;>exact⟨rfl,rfl⟩
  have st5:=store_row m5' 5 [v4] (by simp) (by rw[allOne_cons,o5.1];rfl);rw[show over [x0,x1,x2,x3,x4,va] 5 [v4]=[x0,x1,x2,x3,x4,v4]from rfl]at st5;have fv:=o5.2;simp only[WX,B7,st5,q8,fv];have hne':ab'≠b2∧ab'≠b5∧ab'≠b6:=by rcases hab with h|h<;>omega
  refine⟨4097-(i+1),by omega,(hI _ _).2 ⟨i+1,c5,ab',M5.set b5 (rowB 40 [x0,x1,x2,x3,x4,v4]),[w0,w1,w2,w3,w4],v4,[_,_,none,_,_,none,none,_,_,_,none,none,_,_,_,_,_,_,_,_,_,_,_,_,_,_,_,_,_,_,_,_,_,_,_,_,_,_,_,_,_,_,_,_,_,_,_,_,_,_,_,_,_,_,_,_,_,_,_,_,_,_,_],rfl,by omega,rfl,g5.set b5 _ k5.1 (by omega) (Nat.le_refl _),by omega,?_,get_same _ _ _,?_,rfl,?_,hne'⟩⟩
  ·rw[get_ne _ _ n25,hfr b2 (by omega) (Ne.symm a2),get_ne _ _ (by omega)];exact e2
  ·rw[get_ne _ _ (Ne.symm n56),hfr b6 (by omega) (Ne.symm a6),get_ne _ _ (by omega)];exact e6
  ·rw[List.replicate_succ'];exact hA5.up (Nat.le_refl _) fun _=>get_ne _ _ hne'.2.1
end
end Go.Proofs.YtakeaojhkcbheaaGreatDoor.Ev
