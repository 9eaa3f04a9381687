/- What is proved here: pieces of the evaluator's soundness: if the evaluator comes to a value, the model's run comes to it, for every world and tape; no conditions beyond the hypotheses of each theorem. -/
import Derived.Test.YtdnddpmjnlagfaaGreatDoorEv2
import GoSem.ClaimChange
import Derived.Lib.LaidTab
import GoSem.ClaimJoined
set_option linter.unusedSimpArgs false
set_option linter.unusedVariables false
set_option linter.defProp false
namespace Go.Proofs.YtdnddpmjnlagfaaGreatDoor.Ev
open Go
noncomputable section
structure uB(P:Program)(E:cE)(F:RO)(m:Nat→Option bq)(c:Nat→Prop)(w:World):Prop where
 has:∀b blk,(m b=some blk∨(m b=none∧aV F b=some blk))→c b∧f6 c blk∧ ∃o,w.heap[E.ρ b]?=some o∧eY P E b blk o
 inj:∀b b',(m b≠none∨aV F b≠none)→(m b'≠none∨aV F b'≠none)→E.ρ b=E.ρ b'→b=b'
 apart:∀b,(aV F b).isSome→m b=none
structure zI(P:Program)(F:RO)(E:cE)(m:Nat→Option bq)(c:Nat→Prop)(w:World)(E':cE)(m':Nat→Option bq)(c':Nat→Prop)(w':World):Prop where
 ext:pT c E E'
 le:∀b,c b→c' b
 rel:uB P E' F m' c' w'
 own:∀b,m' b≠none→(∃b0,m b0≠none∧E.ρ b0=E'.ρ b)∨w.heap.size≤E'.ρ b
 frame:∀r,r<w.heap.size→(∀b,m b≠none→E.ρ b≠r)→w'.heap[r]?=w.heap[r]?
 size:w.heap.size≤w'.heap.size
 os:w'.os=w.os
 output:w'.output=w.output
 tape:w'.tape=w.tape
section
variable{P:Program}{E E' E₁ E₂:cE}{F F1:RO}{M M' M1:Mem}{m m' m₁ m₂:Nat→Option bq}{c c' c₁ c₂:Nat→Prop}{w w' w₁ w₂:World}
theorem zI.trans(h:zI P F E m c w E₁ m₁ c₁ w₁)(h':zI P F E₁ m₁ c₁ w₁ E₂ m₂ c₂ w₂):zI P F E m c w E₂ m₂ c₂ w₂ where
 ext:=h.ext.trans h'.ext h.le
 le:=fun b hb=>h'.le b (h.le b hb)
 rel:=h'.rel
 own:=by
  intro b hb;rcases h'.own b hb with⟨b1,h1,e1⟩|h1
  ·rcases h.own b1 h1 with⟨b0,h0,e0⟩|h0
   ·exact .inl ⟨b0,h0,e0.trans e1⟩
   ·exact .inr (e1▸h0)
  ·exact .inr (bn h.size h1)
 frame:=by
  intro r hr hn;rw[h'.frame r (Nat.lt_of_lt_of_le hr h.size),h.frame r hr hn];intro b1 h1 e;rcases h.own b1 h1 with⟨b0,h0,e0⟩|h0
  ·exact hn b0 h0 (e0.trans e)
  ·omega
 size:=bn h.size h'.size
 os:=h'.os.trans h.os
 output:=h'.output.trans h.output
 tape:=h'.tape.trans h.tape
theorem pF{b:Nat}{blk:bq}(h:look F M b=some blk):M.get b=some blk∨(M.get b=none∧aV F b=some blk):=by
 cases hm:M.get b with
 |none=>rw[aC hm]at h;exact .inr ⟨rfl,h⟩
 |some x=>rw[aq hm]at h;exact .inl h
theorem xV{b:Nat}{blk:bq}(h:M.get b=some blk∨(M.get b=none∧aV F b=some blk)):look F M b=some blk:=by
 rcases h with h|h
 ·exact aq h
 ·rw[aC h.1];exact h.2
theorem uB.of(h:jl P E F M c w)(hm:∀b,m b=M.get b):uB P E F m c w where
 has:=fun b blk hb=>h.has b blk (xV (by rw[←hm b];exact hb))
 inj:=fun b b' hb hb'=>by
  have key:∀x,(m x≠none∨aV F x≠none)→(look F M x).isSome:=by
   intro x hx;rw[hm x]at hx;cases hM:M.get x with
   |some y=>rw[aq hM];rfl
   |none=>
    rw[aC hM];rcases hx with hx|hx
    ·exact absurd hM hx
    ·cases hr:aV F x with
     |none=>exact absurd hr hx
     |some _=>rfl
  exact h.inj b b' (key b hb) (key b' hb')
 apart:=fun b hb=>by rw[hm b];exact h.apart b hb
theorem jl.ofM(h:uB P E F m c w)(hm:∀b,m b=M.get b):jl P E F M c w where
 has:=fun b blk hb=>h.has b blk (by rw[hm b];exact pF hb)
 inj:=fun b b' hb hb'=>by
  have key:∀x,(look F M x).isSome→(m x≠none∨aV F x≠none):=by
   intro x hx;obtain⟨y,hy⟩:=bm.1 hx;rw[hm x];rcases pF hy with h1|h1
   ·exact .inl (by rw[h1];exact(fun h=>by cases h))
   ·exact .inr (by rw[h1.2];exact(fun h=>by cases h))
  exact h.inj b b' (key b hb) (key b' hb')
 apart:=fun b hb=>by rw[←hm b];exact h.apart b hb
theorem uB.part(h:uB P E F m c w)(sub:∀b blk,M1.get b=some blk→m b=some blk)
 (ro:∀b blk,aV F1 b=some blk→(m b=some blk∧M1.get b=none)∨aV F b=some blk):jl P E F1 M1 c w:=by
 have key:∀b blk,look F1 M1 b=some blk→m b=some blk∨(m b=none∧aV F b=some blk):=by
  intro b blk hb;rcases pF hb with h1|h1
  ·exact .inl (sub b blk h1)
  ·rcases ro b blk h1.2 with h2|h2
   ·exact .inl h2.1
   ·exact .inr ⟨h.apart b (by rw[h2];rfl),h2⟩
 have key2:∀b,(look F1 M1 b).isSome→m b≠none∨aV F b≠none:=by
  intro b hb;obtain⟨y,hy⟩:=bm.1 hb;rcases key b y hy with h1|h1
  ·exact .inl (by rw[h1];exact(fun h=>by cases h))
  ·exact .inr (by rw[h1.2];exact(fun h=>by cases h))
 refine⟨fun b blk hb=>h.has b blk (key b blk hb),fun b b' hb hb'=>h.inj b b' (key2 b hb) (key2 b' hb'),fun b hb=>?_⟩
 obtain⟨y,hy⟩:=bm.1 hb
 rcases ro b y hy with h2|h2
 ·exact h2.2
 ·cases hM:M1.get b with
  |none=>rfl
  |some z=>
   have:=h.apart b (by rw[h2];rfl);rw[sub b z hM]at this;cases this
theorem uB.step(h:uB P E F m c w)(sub:∀b blk,M1.get b=some blk→m b=some blk)
 (new:∀b,(aV F b).isSome→M'.get b=none) (hS:lw P F1 E M1 c w E' M' c' w'):zI P F E m c w E' (ed M1 M' m) c' w':=by
 have kept:∀b blk,M1.get b=none→(m b=some blk∨(m b=none∧aV F b=some blk))→c b∧f6 c blk∧ ∃o,w'.heap[E.ρ b]?=some o∧eY P E b blk o:=by
  intro b blk hn hb;obtain⟨h1,h2,o,h3,h4⟩:=h.has b blk hb;refine⟨h1,h2,o,?_,h4⟩;rw[hS.frame (E.ρ b) (Array.getElem?_eq_some_iff.1 h3).1,h3];intro b1 hb1 e;obtain⟨y,hy⟩:=bm.1 hb1;have hb':m b≠none∨aV F b≠none:=by
   rcases hb with hb|hb
   ·exact .inl (by rw[hb];exact(fun h=>by cases h))
   ·exact .inr (by rw[hb.2];exact(fun h=>by cases h))
  have:=h.inj b1 b (.inl (by rw[sub b1 y hy];exact(fun h=>by cases h))) hb' e;rw[this,hn]at hy;cases hy
 have hlt:∀b,(m b≠none∨aV F b≠none)→E.ρ b<w.heap.size∧c b:=by
  intro b hb;have:∃blk,m b=some blk∨(m b=none∧aV F b=some blk):=by
   cases hm:m b with
   |some y=>exact⟨y,.inl rfl⟩
   |none=>
    rcases hb with hb|hb
    ·exact absurd hm hb
    ·cases hr:aV F b with
     |none=>exact absurd hr hb
     |some y=>exact⟨y,.inr ⟨rfl,rfl⟩⟩
  obtain⟨blk,hblk⟩:=this;obtain⟨h1,_,o,h3,_⟩:=h.has b blk hblk;exact⟨(Array.getElem?_eq_some_iff.1 h3).1,h1⟩
 have split:∀b,(ed M1 M' m b≠none∨aV F b≠none)→(M1.get b=none∧(m b≠none∨aV F b≠none))∨M'.get b≠none:=by
  intro b hb;rcases hb with hb|hb
  ·unfold ed at hb;split at hb
   ·rename_i hc;exact .inl ⟨hc.1,.inl hc.2⟩
   ·exact .inr hb
  ·left;refine⟨?_,.inr hb⟩;have:=h.apart b (by cases hr:aV F b with|none=>exact absurd hr hb|some _=>rfl);cases hM:M1.get b with
   |none=>rfl
   |some y=>rw[sub b y hM]at this;cases this
 refine⟨hS.ext,hS.le,⟨?_,?_,?_⟩,?_,?_,hS.size,hS.os,hS.output,hS.tape⟩
 ·intro b blk hb;have fin:M1.get b=none→(m b=some blk∨(m b=none∧aV F b=some blk))→c' b∧f6 c' blk∧ ∃o,w'.heap[E'.ρ b]?=some o∧eY P E' b blk o:=by
   intro hn hk;obtain⟨h1,h2,o,h3,h4⟩:=kept b blk hn hk;exact⟨hS.le b h1,fq hS.le blk h2,o,by rw[hS.ext.ρ b h1];exact h3,h4.ext hS.ext h1 h2⟩
  rcases hb with hb|hb
  ·unfold ed at hb;split at hb
   ·rename_i hc;exact fin hc.1 (.inl hb)
   ·exact hS.rel.has b blk (aq hb)
  ·have hap:=h.apart b (by rw[hb.2];rfl);refine fin ?_ (.inr ⟨hap,hb.2⟩);cases hM:M1.get b with
   |none=>rfl
   |some y=>rw[sub b y hM]at hap;cases hap
 ·intro b b' hb hb' e;rcases split b hb with⟨h1,h2⟩|h1
  ·obtain⟨l1,l2⟩:=hlt b h2;rcases split b' hb' with⟨h1',h2'⟩|h1'
   ·obtain⟨l1',l2'⟩:=hlt b' h2';rw[hS.ext.ρ b l2,hS.ext.ρ b' l2']at e;exact h.inj b b' h2 h2' e
   ·exfalso;rw[hS.ext.ρ b l2]at e;rcases hS.own b' (by cases hM:M'.get b' with|none=>exact absurd hM h1'|some _=>rfl)with⟨b0,h0,e0⟩|h0
    ·obtain⟨y,hy⟩:=bm.1 h0;have:=h.inj b0 b (.inl (by rw[sub b0 y hy];exact(fun h=>by cases h))) h2 (e0.trans e.symm);rw[this,h1]at hy;cases hy
    ·omega
  ·rcases split b' hb' with⟨h1',h2'⟩|h1'
   ·exfalso;obtain⟨l1',l2'⟩:=hlt b' h2';rw[hS.ext.ρ b' l2']at e;rcases hS.own b (by cases hM:M'.get b with|none=>exact absurd hM h1|some _=>rfl)with⟨b0,h0,e0⟩|h0
    ·obtain⟨y,hy⟩:=bm.1 h0;have:=h.inj b0 b' (.inl (by rw[sub b0 y hy];exact(fun h=>by cases h))) h2' (e0.trans e);rw[this,h1']at hy;cases hy
    ·omega
   ·have hs:∀x,M'.get x≠none→(look F1 M' x).isSome:=by
     intro x hx;cases hM:M'.get x with
     |none=>exact absurd hM hx
     |some y=>rw[aq hM];rfl
    exact hS.rel.inj b b' (hs b h1) (hs b' h1') e
 ·intro b hb;unfold ed;rw[ab (fun hc=>hc.2 (h.apart b hb))];exact new b hb
 ·intro b hb;rcases split b (.inl hb)with⟨h1,h2⟩|h1
  ·obtain⟨l1,l2⟩:=hlt b h2;left;refine⟨b,?_,(hS.ext.ρ b l2).symm⟩;unfold ed at hb;split at hb
   ·exact hb
   ·rcases h2 with h2|h2
    ·exact h2
    ·exact absurd (new b (by cases hr:aV F b with|none=>exact absurd hr h2|some _=>rfl)) hb
  ·rcases hS.own b (by cases hM:M'.get b with|none=>exact absurd hM h1|some _=>rfl)with⟨b0,h0,e0⟩|h0
   ·obtain⟨y,hy⟩:=bm.1 h0;exact .inl ⟨b0,by rw[sub b0 y hy];exact(fun h=>by cases h),e0⟩
   ·exact .inr h0
 ·intro r hr hn;refine hS.frame r hr fun b hb=>hn b ?_;obtain⟨y,hy⟩:=bm.1 hb;rw[sub b y hy];exact(fun h=>by cases h)
theorem Qo(m:Nat→Option bq):ed .e .e m=m:=by
 funext b
 unfold ed
 split
 ·rfl
 ·rename_i h;cases hm:m b with
  |none=>rfl
  |some y=>exact absurd ⟨rfl,by rw[hm];exact(fun h=>by cases h)⟩ h
theorem E4(m:Nat→Option bq)(b:Nat)(blk:bq)(h:m b=none):ed .e (Tr.set .e b blk) m=jW m b blk:=by
 funext x
 unfold ed jW
 by_cases e:x=b
 ·rw[ac e,ab (fun hc=>hc.2 (by rw[e];exact h)),Tr.get_set,ac e]
 ·rw[ab e];split
  ·rfl
  ·rename_i hc;rw[Tr.get_set,ab e];cases hm:m x with
   |none=>rfl
   |some y=>exact absurd ⟨rfl,by rw[hm];exact(fun h=>by cases h)⟩ hc
end
structure SM(P:Program)(F:RO)(rd:Option Nat)(nt base:Nat)(d:List Nat)(E:cE)(c:Nat→Prop)(w:World)(a:Act)(s:SS)(rem:Nat→Prop):Prop where
 rel:uB P E F s.m c w
 glob:∀g,g<1000→E.ρ g=g∧E.β g=0
 big:∀g,g<1000→c g
 tr:rB E s.t a.tmps
 bt:Xh c s.t
 fr:fZ c s.ct
 le:base≤s.ct
 res:∀i,rem i→ ¬c (base+i)∧base+i<s.ct
 df:a.defers=d.map fun b=>{target:= .collected (E.ρ b),args:=#[]}
 dc:∀b∈d,c b
 sz:nt≤a.tmps.size
 rd:∀l,rd=some l→c l
section
variable{P:Program}{E E':cE}{F:RO}{c c':Nat→Prop}{nt base:Nat}{w w':World}{a:Act}{rd:Option Nat}{d:List Nat}{s s':SS}{rem rem':Nat→Prop}{k:Kn}
theorem SM.next(h:SM P F rd nt base d E c w a s rem){m':Nat→Option bq}(hS:zI P F E s.m c w E' m' c' w'){ct':Nat}(hfr:fZ c' ct')(hle:s.ct≤ct')(hres:∀i,rem' i→ ¬c' (base+i)∧base+i<ct')
 {dst:Option Nat} (hd:sW nt dst=true) {v:V} (hb:bd c' v):SM P F rd nt base d E' c' w' (a.put dst (conc E' v)) ⟨setT s.t (dst.map bk) v,m',ct'⟩ rem':=by
 refine⟨hS.rel,fun g hg=>?_,fun g hg=>hS.le g (h.big g hg),uC (h.tr.ext hS.ext h.bt) (fun j hj=>?_) rfl,zZ (fun p=>dp hS.le _ (h.bt p)) hb,hfr,bn h.le hle,hres,?_,fun b hb=>hS.le b (h.dc b hb),by rw[Act.put_size];exact h.sz,fun l hl=>hS.le l (h.rd l hl)⟩
 ·rw[hS.ext.ρ g (h.big g hg),hS.ext.β g (h.big g hg)];exact h.glob g hg
 ·subst hj;have:j<nt:=by simpa [sW]using hd
  exact Nat.lt_of_lt_of_le this h.sz
 ·rw[Act.put_defers,h.df];apply List.map_congr_left;intro b hb;rw[hS.ext.ρ b (h.dc b hb)]
theorem SM.cx(h:SM P F rd nt base d E c w a s rem){F1:RO}{M1:Mem}(hr:jl P E F1 M1 c w):Cx P E F1 M1 c w s.t a:=⟨hr,h.glob,h.big,h.tr,h.bt⟩
theorem ci0(hcall:mN P k)(hy:kj P k)(h:SM P k.F rd nt base d E c w a s rem){l:io}(hrem:rem l.i)(hT:Tn k base k.F l s s'){ops:Array Oper}{o:Oper}(ho:ops[l.i]?=some o)(hco:yu P nt ops o=some l.co)
 {K:Act→World→Prop} {Q:Exit→Act→World→Prop}
 (hK:∀E' c' a' w',zI P k.F E s.m c w E' s'.m c' w'→(∀b,c' b→c b∨(base≤b∧b<s'.ct))→s.ct≤s'.ct→SM P k.F rd nt base d E' c' w' a' s' (fun j=>rem j∧j≠l.i)→K a' w'):
 wpOpIn (cP E rd) 0 P ops Q l.i K a w:=by
 obtain⟨hd,g,op,hcoe,hg,hop⟩:=vj hco
 have hgu:=Ct h.tr hg
 unfold wpOpIn
 simp only[ho]
 rw[hgu]
 rw[p9]at hT
 obtain⟨hcan,rfl⟩:=hT
 have hdst:l.co.dst=o.dst.map bk:=by rw[hcoe];rfl
 have hguard:l.co.guard=g:=by rw[hcoe];rfl
 have hopc:l.co.op=op:=by rw[hcoe];rfl
 have hrelE:jl P E [] .e c w:=h.rel.part (fun b blk hb=>by cases hb) (fun b blk hb=>by cases hb)
 have quiet:∀(F1:RO) (E':cE) (c':Nat→Prop) (w':World) (v:V),lw P F1 E .e c w E' .e c' w'→j2 c s.ct c' s.ct→bd c' v→l.val=v→l.mem base s.m=s.m→l.ctr s.ct=s.ct→K (a.put o.dst (conc E' v)) w':=by
  intro F1 E' c' w' v hS hG hb hv hm hc;have hS':=h.rel.step (F1:=F1) (M1:= .e) (M':= .e) (fun b blk hb=>by cases hb) (fun _ _=>rfl) hS;rw[Qo]at hS'
  have hcc:∀b,c' b→c b:=fun b hb=>by
   rcases hG.new b hb with h1|h1
   ·exact h1
   ·omega
  refine hK E' c' _ w' (by rw[hm];exact hS') (fun b hb=> .inl (hcc b hb)) (by rw[hc];exact ah _) ?_;rw[hdst,hv,hm,hc];exact h.next hS' (h.fr.grow hG) (ah _) (fun i hi=>⟨fun hx=>(h.res i hi.1).1 (hcc _ hx),(h.res i hi.1).2⟩) hd hb
 unfold PA at hcan
 cases hk:l.k with
 |skip=>
  rw[hk]at hcan;rw[hguard]at hcan;rw[ab (by rw[hcan];exact(fun h=>by cases h))];refine⟨fun _ _=>trivial,?_⟩;exact quiet [] E c w undef (.refl hrelE) (.refl _ _) trivial (by unfold io.val;rw[hk]) (by unfold io.mem;rw[hk]) (by unfold io.ctr;rw[hk])
 |qv v=>
  rw[hk]at hcan;rw[hguard,hopc]at hcan;obtain⟨h1,q,rfl,h3⟩:=hcan;rw[ac h1];rcases hop with hop|hop
  ·refine ao0 (rd:=rd) (ct:=s.ct) (h.cx hrelE) hop h3 K Q fun E' c' w' hS hG hb=>?_;exact quiet [] E' c' w' v hS hG hb (by unfold io.val;rw[hk]) (by unfold io.mem;rw[hk]) (by unfold io.ctr;rw[hk])
  ·injection hop with hop;subst hop;cases h3
 |qr v b=>
  rw[hk]at hcan;rw[hguard,hopc]at hcan;obtain⟨h1,q,blk,rfl,h3,h4⟩:=hcan;rw[ac h1];have hrelb:jl P E [(b,blk)] .e c w:=by
   refine h.rel.part (fun b blk hb=>by cases hb) (fun b' blk' hb=>?_);rw[cM]at hb;split at hb
   ·rename_i e;have e':b=b':=e;obtain rfl:=af hb;subst e';rcases h3 with h3|h3
    ·exact .inl ⟨h3,rfl⟩
    ·exact .inr h3.2
   ·cases hb
  rcases hop with hop|hop
  ·refine ao0 (rd:=rd) (ct:=s.ct) (h.cx hrelb) hop h4 K Q fun E' c' w' hS hG hb=>?_;exact quiet _ E' c' w' v hS hG hb (by unfold io.val;rw[hk]) (by unfold io.mem;rw[hk]) (by unfold io.ctr;rw[hk])
  ·injection hop with hop;subst hop;cases h4
 |al v blk=>
  rw[hk]at hcan;rw[hguard,hopc]at hcan;obtain⟨h1,ao,rfl,h3⟩:=hcan;rw[ac h1];rcases hop with hop|hop
  ·have hfree:=h.res l.i hrem;obtain⟨E',w',hr,hS,_,hb⟩:=ay9 (h.cx hrelE) hop hfree.1 (c':=fun b=>c b∨b=base+l.i) (.inr rfl) (fun _ h=> .inl h) h3;have hmn:s.m (base+l.i)=none:=by
    cases hm:s.m (base+l.i)with
    |none=>rfl
    |some y=>exact absurd (h.rel.has _ y (.inl hm)).1 hfree.1
   have hnF:aV k.F (base+l.i)=none:=by
    cases hm:aV k.F (base+l.i)with
    |none=>rfl
    |some y=>exact absurd (h.rel.has _ y (.inr ⟨hmn,hm⟩)).1 hfree.1
   have hS':=h.rel.step (F1:=[]) (M1:= .e) (M':=Tr.set .e (base+l.i) blk) (fun b blk hb=>by cases hb) (fun b hb=>by
    rw[Tr.get_set];by_cases e:b=base+l.i
    ·rw[e,hnF]at hb;cases hb
    ·rw[ab e];rfl) hS
   rw[E4 s.m _ blk hmn]at hS';have hm:l.mem base s.m=jW s.m (base+l.i) blk:=by unfold io.mem;rw[hk]
   have hc:l.ctr s.ct=s.ct:=by unfold io.ctr;rw[hk]
   have hv:l.val=v:=by unfold io.val;rw[hk]
   refine⟨fun _ _=>trivial,?_⟩;rw[Oper.semAt_eq _ _ _ (ft hop),hr];refine hK E' _ _ w' (by rw[hm];exact hS') (fun b hb=>?_) (by rw[hc];exact ah _) ?_
   ·rcases hb with hb|hb
    ·exact .inl hb
    ·exact .inr (by rw[hb];exact⟨by omega,by rw[hc];exact hfree.2⟩)
   ·rw[hdst,hv,hm,hc];refine h.next hS' (fun b hb hc=>?_) (ah _) (fun i hi=>⟨fun hx=>?_,(h.res i hi.1).2⟩) hd hb
    ·rcases hc with hc|hc
     ·exact h.fr b hb hc
     ·have:=hfree.2;omega
    ·rcases hx with hx|hx
     ·exact(h.res i hi.1).1 hx
     ·exact hi.2 (by omega)
  ·cases hop
 |ef v M1 F1 M' ct ct'=>
  rw[hk]at hcan;rw[hguard,hopc]at hcan;obtain⟨h1,h0,eo,rfl,hef⟩:=hcan;rw[ac h1];rcases hop with hop|hop
  ·have hrel1:jl P E F1 M1 c w:=h.rel.part hef.sub hef.ro;have hfr:fZ c ct:=by rw[←h0];exact h.fr
   refine bP9 (rd:=rd) hcall hy (h.cx hrel1) hfr hop hef.run K Q fun E' c' w' hS hG hb=>?_;have hS':=h.rel.step hef.sub hef.new hS;have hm:l.mem base s.m=ed M1 M' s.m:=by unfold io.mem;rw[hk]
   have hc:l.ctr s.ct=ct':=by unfold io.ctr;rw[hk]
   have hv:l.val=v:=by unfold io.val;rw[hk]
   have hle:=h.le;have hGle:=hG.le;refine hK E' c' _ w' (by rw[hm];exact hS') (fun b hb=>?_) (by rw[hc,h0];exact hGle) ?_
   ·rcases hG.new b hb with h2|h2
    ·exact .inl h2
    ·exact .inr (by rw[hc];exact⟨by omega,h2.2⟩)
   ·rw[hdst,hv,hm,hc];refine h.next hS' (hfr.grow hG) (by rw[h0];exact hGle) (fun i hi=>?_) hd hb
    have:=h.res i hi.1;refine⟨fun hx=>?_,by omega⟩;rcases hG.new _ hx with h2|h2
    ·exact this.1 h2
    ·omega
  ·cases hop
theorem yX(ms:List Nat):∀(es:List Edge) (x:Nat),testBit (mask1 ms es) x=true↔ ∃e∈es,Region.binds .any e=true∧(e.on=x∨testBit ((ms[e.on]?).getD 0) x=true):=by
 have key:∀m i,testBit m i=Nat.testBit m i:=by
  intro m i;show Nat.beq (m/2^i%2) 1=Nat.testBit m i;rw[bp,Nat.testBit_eq_decide_div_mod_eq]
 intro es
 induction es with
 |nil=>intro x;rw[key];simp[mask1]
 |cons e r ih=>
  intro x;rw[mask1];cases hb:Region.binds .any e with
  |true=>
   rw[cond_true,key];show Nat.testBit ((2^e.on|||(ms[e.on]?).getD 0)|||mask1 ms r) x=true↔_;rw[Nat.testBit_or,Nat.testBit_or,Bool.or_eq_true,Bool.or_eq_true,←key (mask1 ms r),ih,Nat.testBit_two_pow,←key];constructor
   ·rintro((h|h)|⟨e',h1,h2⟩)
    ·exact⟨e,by simp,hb,.inl (by simpa using h)⟩
    ·exact⟨e,by simp,hb,.inr h⟩
    ·exact⟨e',bz _ h1,h2⟩
   ·rintro⟨e',h1,h2,h3⟩;rcases bj.1 h1 with rfl|h1
    ·rcases h3 with h3|h3
     ·exact .inl (.inl (by simpa using h3))
     ·exact .inl (.inr h3)
    ·exact .inr ⟨e',h1,h2,h3⟩
  |false=>
   rw[cond_false,ih];constructor
   ·rintro⟨e',h1,h2⟩;exact⟨e',bz _ h1,h2⟩
   ·rintro⟨e',h1,h2,h3⟩;rcases bj.1 h1 with rfl|h1
    ·rw[hb]at h2;cases h2
    ·exact⟨e',h1,h2,h3⟩
theorem FU{m n x:Nat}(h:m<2^n)(hx:testBit m x=true):x<n:=by
 have key:testBit m x=Nat.testBit m x:=by
  show Nat.beq (m/2^x%2) 1=Nat.testBit m x;rw[bp,Nat.testBit_eq_decide_div_mod_eq]
 rw[key]at hx
 rcases Nat.lt_or_ge x n with h1|h1
 ·exact h1
 ·have:m<2^x:=Nat.lt_of_lt_of_le h (Nat.pow_le_pow_right (by omega) h1);rw[Nat.testBit_lt_two_pow this]at hx;cases hx
structure ay4(P:Program)(nt:Nat)(ops:Array Oper)(ms:List Nat)(l:io)(o:Oper):Prop where
 op:ops[l.i]?=some o
 co:yu P nt ops o=some l.co
 mask:l.mask=mask1 ms o.after.toList
 self:testBit l.mask l.i=false
 lt:l.mask<2^ops.size
theorem b69(hcall:mN P k)(hy:kj P k){ops:Array Oper}{ms:List Nat}(hms:∀(j:Nat) (o:Oper),ops[j]?=some o→ms[j]?=some (mask1 ms o.after.toList)){Q:Exit→Act→World→Prop}{s':SS}:
 ∀(fuel:Nat) (L:List io) (listed:Array Bool) (E:cE) (c:Nat→Prop) (w:World) (a:Act) (s:SS),L.length≤fuel→sI k base k.F L s s'→L.Pairwise (uA base)→
 SM P k.F rd nt base d E c w a s (fun j=>∃l∈L,l.i=j)→listed.size=ops.size→(∀j,j<ops.size→(listed.getD j true=false↔ ∃l∈L,l.i=j))→
 (∀(j:Nat) (o:Oper),ops[j]?=some o→listed.getD j false=true→ ∀x,testBit (mask1 ms o.after.toList) x=true→listed.getD x false=true)→
 (∀l∈L,∃o,ay4 P nt ops ms l o)→
 (∀E' c' a' w',zI P k.F E s.m c w E' s'.m c' w'→(∀b,c' b→c b∨(base≤b∧b<s'.ct))→s.ct≤s'.ct→SM P k.F rd nt base d E' c' w' a' s' (fun _=>False)→Q .normal a' w')→
 zI P k.F E s.m c w E s.m c w→wpAnyIn (cP E rd) 0 P .any ops Q fuel listed a w:=by
 intro fuel
 induction fuel with
 |zero=>
  intro L listed E c w a s hlen hC hPW hSM hsz hun hdown hlab hQ hrefl;have hL:L=[]:=by cases L<;>simp_all
  subst hL;have hs:s=s':=hC;subst hs;refine⟨?_,?_⟩
  ·rw[List.eq_nil_iff_forall_not_mem];intro j hj;obtain⟨h0,o,ho,_⟩:=mem_ready.1 hj;have hjlt:j<ops.size:=(Array.getElem?_eq_some_iff.1 ho).1;obtain⟨l,hl,_⟩:=(hun j hjlt).1 h0;cases hl
  ·refine hQ E c a w hrefl (fun b hb=> .inl hb) (ah _) ?_;exact{hSM with res:=fun i hi=>hi.elim}
 |succ fuel ih=>
  intro L listed E c w a s hlen hC hPW hSM hsz hun hdown hlab hQ hrefl;refine⟨?_,?_⟩
  ·intro hr;cases L with
   |nil=>
    have hs:s=s':=hC;subst hs;refine hQ E c a w hrefl (fun b hb=> .inl hb) (ah _) ?_;exact{hSM with res:=fun i hi=>hi.elim}
   |cons h r=>
    exfalso;obtain⟨o,hlo⟩:=hlab h (bK ..);have hlt:h.i<ops.size:=(Array.getElem?_eq_some_iff.1 hlo.op).1;have:h.i∈Region.ready .any ops listed:=by
     refine mem_ready.2 ⟨(hun h.i hlt).2 ⟨h,bK ..,rfl⟩,o,hlo.op,fun e he hb=>?_⟩;have htb:testBit h.mask e.on=true:=by
      rw[hlo.mask];exact(yX ms _ _).2 ⟨e,by simpa using he,hb,.inl rfl⟩
     have helt:=FU hlo.lt htb;cases hg:listed.getD e.on false with
     |true=>rfl
     |false=>
      exfalso;have hg':listed.getD e.on true=false:=by
       have h1:e.on<listed.size:=by omega
       simp[Array.getD,h1]at hg⊢;exact hg
      obtain⟨l,hl,hli⟩:=(hun e.on helt).1 hg';rcases bj.1 hl with rfl|hl
      ·rw[←hli,hlo.self]at htb;cases htb
      ·have:=((List.pairwise_cons.1 hPW).1 l hl).1;rw[hli,htb]at this;cases this
    rw[hr]at this;cases this
  ·intro i hi;obtain⟨h0,oi,hoi,hall⟩:=mem_ready.1 hi;have hilt:i<ops.size:=(Array.getElem?_eq_some_iff.1 hoi).1;obtain⟨y,hyL,rfl⟩:=(hun i hilt).1 h0;obtain⟨L1,L2,rfl⟩:=List.append_of_mem hyL;obtain⟨o,hlo⟩:=hlab y hyL;have hoo:o=oi:=by have:=hlo.op;rw[hoi]at this;exact(af this).symm
   subst hoo
   have hmy:∀x,testBit y.mask x=true→listed.getD x false=true:=by
    intro x hx;rw[hlo.mask]at hx;obtain⟨e,he,hb,hx⟩:=(yX ms _ _).1 hx;have hle:=hall e (by simpa using he) hb;rcases hx with hx|hx
    ·rw[←hx];exact hle
    ·have helt:e.on<ops.size:=by
      rcases Nat.lt_or_ge e.on listed.size with h1|h1
      ·omega
      ·have h2:¬e.on<listed.size:=by omega
       simp[Array.getD,h2]at hle
     have hoe:ops[e.on]?=some ops[e.on]:=Array.getElem?_eq_some_iff.2 ⟨helt,rfl⟩;rw[hms e.on _ hoe]at hx;exact hdown e.on _ hoe hle x hx
   have hpw1:∀x∈L1,uA base x y:=by
    intro x hx;exact(List.pairwise_append.1 hPW).2.2 x hx y (bK ..)
   have hunl:∀x∈L1++y::L2,listed.getD x.i true=false:=by
    intro x hx;obtain⟨ox,hox⟩:=hlab x hx;exact(hun x.i (Array.getElem?_eq_some_iff.1 hox.op).1).2 ⟨x,hx,rfl⟩
   have hap:∀x∈L1,GW base x y:=by
    intro x hx;rcases(hpw1 x hx).2.2 with hb|hb
    ·exfalso;have h1:=hmy _ hb;have h2:=hunl x (List.mem_append_left _ hx);rcases Nat.lt_or_ge x.i listed.size with h3|h3
     ·simp[Array.getD,h3]at h1 h2;rw[h1]at h2;cases h2
     ·have h4:¬x.i<listed.size:=by omega
      simp[Array.getD,h4]at h1
    ·exact hb
   obtain⟨s1,hT,hC'⟩:=sI.move L1 s hap hC;refine ci0 hcall hy hSM ⟨y,hyL,rfl⟩ hT hlo.op hlo.co fun E' c' a' w' hS hnew hct hSM'=>?_;have hPW':(L1++L2).Pairwise (uA base):=hPW.sublist (List.Sublist.append_left (List.sublist_cons_self ..) _);have hmem:∀x,x∈L1++L2→x∈L1++y::L2:=by
    intro x hx;rcases List.mem_append.1 hx with hx|hx
    ·exact List.mem_append_left _ hx
    ·exact List.mem_append_right _ (bz _ hx)
   have hne:∀x,x∈L1++L2→x.i≠y.i:=by
    intro x hx;rcases List.mem_append.1 hx with hx|hx
    ·exact(hpw1 x hx).2.1
    ·have:=(List.pairwise_cons.1 (List.pairwise_append.1 hPW).2.1).1 x hx;exact fun e=>this.2.1 e.symm
   have hback:∀x,x∈L1++y::L2→x.i≠y.i→x∈L1++L2:=by
    intro x hx hxi;rcases List.mem_append.1 hx with hx|hx
    ·exact List.mem_append_left _ hx
    ·rcases bj.1 hx with rfl|hx
     ·exact absurd rfl hxi
     ·exact List.mem_append_right _ hx
   have hfe:cP E rd=cP E' rd:=(gv hS.ext hSM.rd).symm;rw[hfe];refine ih (L1++L2) (listed.setIfInBounds y.i true) E' c' w' a' s1 ?_ hC' hPW' ?_ (by simpa using hsz) ?_ ?_ (fun l hl=>hlab l (hmem l hl)) ?_ ?_
   ·simp only[bw,aX]at hlen⊢;omega
   ·refine{hSM' with res:=fun j hj=>?_};obtain⟨x,hx,hxj⟩:=hj;exact hSM'.res j ⟨⟨x,hmem x hx,hxj⟩,by rw[←hxj];exact hne x hx⟩
   ·intro j hj;by_cases e:j=y.i
    ·subst e;constructor
     ·intro h;simp[Array.getD,hsz,hilt]at h
     ·rintro⟨x,hx,hxj⟩;exact absurd hxj (hne x hx)
    ·rw[getD_set_ne true (Ne.symm e),hun j hj];constructor
     ·rintro⟨x,hx,hxj⟩;exact⟨x,hback x hx (by rw[hxj];exact e),hxj⟩
     ·rintro⟨x,hx,hxj⟩;exact⟨x,hmem x hx,hxj⟩
   ·intro j oj hoj hl x hx;by_cases e:j=y.i
    ·subst e;have:oj=o:=by rw[hlo.op]at hoj;exact(af hoj).symm
     subst this;rw[←hlo.mask]at hx;exact getD_set_true (hmy x hx)
    ·rw[getD_set_ne false (Ne.symm e)]at hl;exact getD_set_true (hdown j oj hoj hl x hx)
   ·intro E2 c2 a2 w2 hS2 hnew2 hct2 hSM2;refine hQ E2 c2 a2 w2 (hS.trans hS2) (fun b hb=>?_) (bn hct hct2) hSM2;rcases hnew2 b hb with h1|h1
    ·rcases hnew b h1 with h2|h2
     ·exact .inl h2
     ·exact .inr ⟨h2.1,by omega⟩
    ·exact .inr h1
   ·exact⟨.refl _ _,fun _ h=>h,hS.rel,fun b hb=> .inl ⟨b,hb,rfl⟩,fun _ _ _=>rfl,ah _,rfl,rfl,rfl⟩
end
theorem ER{ops:Array Oper}{cos:List CO}{n:Nat}{l:List (Nat×Nat×CO)}(h:yy ops cos= .dreg n l):
 n=ops.size∧l=oJ (Region.before ops).toList cos ops.size 0∧CV ops.toList (Region.before ops).toList ops.size l=true:=by
 unfold yy XM at h
 cases hr:CV ops.toList (Region.before ops).toList ops.size (oJ (Region.before ops).toList cos ops.size 0)with
 |false=>rw[hr]at h;cases h
 |true=>
  rw[hr,cond_true]at h;injection h with h1 h2
  subst h1 h2;exact⟨rfl,rfl,hr⟩
theorem yt(ms:List Nat)(cos:List CO):∀(fuel done:Nat),(oJ ms cos fuel done).length≤fuel
 |0,_=>ah _
 |fuel+1,done=>by
  rw[oJ];split
  ·rw[aX];have:=yt ms cos fuel;exact Nat.succ_le_succ (this _)
  ·simp
theorem rH(ms:List Nat)(cos:List CO):∀(fuel done:Nat) (i m:Nat) (o:CO),(i,m,o)∈oJ ms cos fuel done→cos[i]?=some o∧ms[i]?=some m
 |0,_,_,_,_,h=>by cases h
 |fuel+1,done,i,m,o,h=>by
  rw[oJ]at h;split at h
  ·rename_i o' m' i' hpick;rcases bj.1 h with h|h
   ·injection h with h1 h2;injection h2 with h2 h3
    subst h1 h2 h3;have hmem:((o,m),i)∈(cos.zip ms).zipIdx:=by
     split at hpick
     ·rename_i r hr;obtain rfl:=af hpick;exact(List.mem_filter.1 (List.mem_of_find?_eq_some hr)).1
     ·exact(List.mem_filter.1 (List.mem_of_mem_head? hpick)).1
    have h1:=List.mem_zipIdx_iff_getElem?.1 hmem;have h2:(cos.zip ms)[i]?=some (o,m):=h1;rw[List.getElem?_zip_eq_some]at h2;exact h2
   ·exact rH ms cos fuel _ i m o h
  ·cases h
theorem vk{P:Program}{nt:Nat}{ops:Array Oper}:∀(l:List Oper) (cos:List CO),mV P nt ops l=some cos→ ∀(i:Nat) (co:CO),cos[i]?=some co→ ∃o,l[i]?=some o∧yu P nt ops o=some co
 |[],cos,h,i,co,hi=>by
  obtain rfl:=af h;cases hi
 |o::l,cos,h,i,co,hi=>by
  rw[mV]at h;split at h
  ·rename_i c r h1 h2;obtain rfl:=af h;cases i with
   |zero=>exact⟨o,rfl,by simp at hi;rw[←hi];exact h1⟩
   |succ i=>exact vk l r h2 i co (by simpa using hi)
  ·cases h
theorem mW{ms:List Nat}{n:Nat}{ops:List Oper}:∀{l:List (Nat×Nat×CO)},uj ms n ops l=true→ ∀x∈l,A5 ms n ops x=true
 |[],_,_,h=>by cases h
 |z::r,h,y,hy=>by
  simp only[uj,aD]at h;rcases bj.1 hy with rfl|hy
  ·exact h.1
  ·exact mW h.2 y hy
theorem sZ{ms:List Nat}{n:Nat}{ops:List Oper}{x:Nat×Nat×CO}(h:A5 ms n ops x=true):∃o,ops[x.1]?=some o∧x.2.1=mask1 ms o.after.toList∧testBit x.2.1 x.1=false∧x.2.1<2^n:=by
 unfold A5 at h
 split at h
 ·cases h
 ·rename_i o ho;rw[bp,dY]at h;simp only[aD,Bool.not_eq_true',decide_eq_true_eq]at h;exact⟨o,ho,h.1,h.2.1,h.2.2⟩
theorem pz{i:Nat}:∀{l:List (Nat×Nat×CO)},vH i l=true→ ∃m o,(i,m,o)∈l
 |[],h=>by cases h
 |(j,m,o)::r,h=>by
  rw[vH,bp]at h;by_cases e:j=i
  ·exact⟨m,o,by rw[e];simp⟩
  ·simp[e]at h;obtain⟨m',o',h'⟩:=pz h;exact⟨m',o',bz _ h'⟩
theorem lL{l:List (Nat×Nat×CO)}:∀{n:Nat},qk l n=true→ ∀i,i<n→vH i l=true
 |0,_,_,h=>by omega
 |n+1,h,i,hi=>by
  simp only[qk,aD]at h;by_cases e:i=n
  ·rw[e];exact h.1
  ·exact lL h.2 i (by omega)
theorem ah7{P:Program}(hm:P.follows .mixedOrders=true){k:Kn}(hcall:mN P k)(hy:kj P k):b59 P k:=by
 intro F rd nt id ops cos hcos n l hd t d M ct e t' d' M' ct' hx E c w a h Q hQ
 obtain⟨rfl,hl,hreg⟩:=ER hd
 unfold CV at hreg
 rw[aD,aD]at hreg
 obtain⟨hel,hcov,hpairs⟩:=hreg
 have hx':vm d (jo (rR k F) ct l (.mk t M (ct+ops.size) [] []))= .k e (.mk t' d' M' ct'):=by
  have:fN (Nat.add ct ops.size) (fun c'=>vm d (jo (rR k F) ct l (.mk t M c' [] [])))= .k e (.mk t' d' M' ct'):=hx
  rwa [aN]at this
 cases hdo:jo (rR k F) ct l (.mk t M (ct+ops.size) [] [])with
 |none=>rw[hdo]at hx';cases hx'
 |some ds=>
  obtain⟨t2,M2,c2,p2,r2⟩:=ds;rw[hdo,vm,Tr.force_eq]at hx';injection hx' with g1 g2;injection g2 with g2 g3 g4 g5
  subst g1 g2 g3 g4 g5;have hkF:(rR k F).F=F:=Yn k F;have hI0:DK ct (rR k F).F M []:=⟨fun _ _ _ h=>(by cases h),.nil,fun _ _ _ h=>(by cases h)⟩
  obtain⟨L,hL,hC,hPW,hI,_⟩:=vn l t M (ct+ops.size) [] [] t2 M2 c2 p2 r2 hdo hpairs hI0 (fun q hq=>by cases hq);have hLl:∀x∈L,x.trip∈l:=fun x hx=>by rw[←hL];exact List.mem_map_of_mem hx
  have hlab:∀x∈L,∃o,ay4 P nt ops (Region.before ops).toList x o:=by
   intro x hx;have hm1:=hLl x hx;obtain⟨o,ho,hmask,hself,hlt⟩:=sZ (mW hel _ hm1);have hcm:=rH _ _ _ _ _ _ _ (by rw[←hl];exact hm1);obtain⟨o2,ho2,hco⟩:=vk _ _ hcos x.i x.co hcm.1;have:o2=o:=by rw[show ops.toList[x.i]?=some o from ho]at ho2;exact(af ho2).symm
   subst this;have ho3:ops.toList[x.i]?=some o2:=ho;exact⟨o2,by simpa using ho3,hco,hmask,hself,hlt⟩
  have hms:∀(j:Nat) (o:Oper),ops[j]?=some o→(Region.before ops).toList[j]?=some (mask1 (Region.before ops).toList o.after.toList):=by
   intro j o hj;obtain⟨m,co,hmem⟩:=pz (lL hcov j (Array.getElem?_eq_some_iff.1 hj).1);obtain⟨o2,ho2,hmask,_,_⟩:=sZ (mW hel _ hmem);have hcm:=rH _ _ _ _ _ _ _ (by rw[←hl];exact hmem);have:o2=o:=by
    have h1:ops.toList[j]?=some o2:=ho2;have h2:ops.toList[j]?=some o:=by simpa using hj
    rw[h1]at h2;exact af h2
   subst this;rw[hcm.2];exact congrArg some hmask
  have hidx:∀j,(∃x∈L,x.i=j)↔j<ops.size:=by
   intro j;constructor
   ·rintro⟨x,hx,rfl⟩;obtain⟨o,ho⟩:=hlab x hx;exact(Array.getElem?_eq_some_iff.1 ho.op).1
   ·intro hj;obtain⟨m,co,hmem⟩:=pz (lL hcov j hj);rw[←hL]at hmem;obtain⟨x,hx,hxe⟩:=List.mem_map.1 hmem;exact⟨x,hx,by injection hxe⟩
  have hlen:L.length≤ops.size:=by
   have:L.length=l.length:=by rw[←hL];simp
   rw[this,hl];exact yt _ _ _ _
  refine wpIn_region_any hm ?_;have hmem0:∀b,(sk t M (ct+ops.size) []).m b=M.get b:=fun b=>rfl;have hrel0:uB P E F (sk t M (ct+ops.size) []).m c {w with drawn:=w.drawn+1}:=uB.of (h.cx.rel.world (w':={w with drawn:=w.drawn+1}) rfl) hmem0
  have hSM:SM P (rR k F).F rd nt ct d E c {w with drawn:=w.drawn+1} a (sk t M (ct+ops.size) []) (fun j=>∃x∈L,x.i=j):=by
   rw[hkF];refine⟨hrel0,h.cx.glob,h.cx.big,h.cx.tr,h.cx.bt,fun b hb=>h.fr b ?_,Nat.le_add_right _ _,fun i hi=>?_,h.df,h.dc,h.sz,h.rd⟩
   ·have:ct+ops.size≤b:=hb;omega
   ·have h1:=(hidx i).1 hi;exact⟨h.fr _ (Nat.le_add_right _ _),by show ct+i<ct+ops.size;omega⟩
  have hcall':mN P (rR k F):=by
   intro F' f args M ct v M' ct' hc;exact hcall F' f args M ct v M' ct' (by cases k;exact hc)
  have hy':kj P (rR k F):=by
   intro F' l args M ct v M' ct' hc;exact hy F' l args M ct v M' ct' (by cases k;exact hc)
  refine b69 hcall' hy' hms ops.size L (Array.replicate ops.size false) E c _ a _ hlen hC hPW hSM (by simp) ?_ ?_ hlab ?_ ?_
  ·intro j hj;rw[hidx j];simp[Array.getD,hj]
  ·intro j o hj hl';exfalso;have hjs:=(Array.getElem?_eq_some_iff.1 hj).1;simp[Array.getD,hjs]at hl'
  ·intro E' c' a' w' hS hnew hct hSM';rw[hkF]at hS hSM';refine hQ a' w' ⟨E',c',?_,?_,?_⟩
   ·have hfin:∀b,(sk t2 M2 c2 p2).m b=(dP p2 M2).get b:=fun b=>(kN p2 M2 hI.nd b).symm;refine⟨hS.ext,hS.le,jl.ofM hS.rel hfin,?_,?_,hS.size,hS.os,hS.output,hS.tape⟩
    ·intro b hb;rcases hS.own b (by rw[hfin b];intro e;rw[e]at hb;cases hb)with⟨b0,h0,e0⟩|h0
     ·refine .inl ⟨b0,?_,e0⟩;have h1:M.get b0≠none:=h0;cases hM:M.get b0 with
      |none=>exact absurd hM h1
      |some _=>rfl
     ·exact .inr h0
    ·intro r hr hn;refine hS.frame r hr fun b hb=>hn b ?_;have h1:M.get b≠none:=hb;cases hM:M.get b with
     |none=>exact absurd hM h1
     |some _=>rfl
   ·refine⟨?_,hnew⟩;have:ct+ops.size≤c2:=hct;omega
   ·have hfin:∀b,(sk t2 M2 c2 p2).m b=(dP p2 M2).get b:=fun b=>(kN p2 M2 hI.nd b).symm;exact⟨⟨jl.ofM hS.rel hfin,hSM'.glob,hSM'.big,hSM'.tr,hSM'.bt⟩,hSM'.fr,hSM'.df,hSM'.dc,hSM'.sz,hSM'.rd⟩
  ·rw[hkF];exact⟨.refl _ _,fun _ h=>h,hrel0,fun b hb=> .inl ⟨b,hb,rfl⟩,fun _ _ _=>rfl,ah _,rfl,rfl,rfl⟩
theorem vv{P:Program}(hm:P.follows .mixedOrders=true){Φ:Nat→Option CF}(hΦ:fo P Φ)(n:Nat):BI P (exec Φ n):=
 (aj5 hΦ (fun ex hex rd fn F=>ah7 hm (ir hΦ hex rd fn F) (xf hex rd fn F)) n).1
def E0:cE:=⟨fun b=>b,fun _=>0,fun _=>0⟩
def c0(b:Nat):Prop:=b<1000
def isT:RC→Bool
 | .k (.b true) _ _=>true
 |_=>false
theorem Yi{r:RC}(h:isT r=true):∃M c,r= .k (.b true) M c:=by
 unfold isT at h
 split at h
 ·exact⟨_,_,rfl⟩
 ·cases h
theorem al1{P:Program}{F:RO}{E E':cE}{c c':Nat→Prop}{w w':World}{M':Mem}(h:lw P F E .e c w E' M' c' w')(may:MemPlace→Prop):w.keptBut w' may:=by
 refine⟨h.os,h.output,fun i hi=>?_⟩
 have e:w'.heap[i]?=w.heap[i]?:=h.frame i hi (fun b hb=>by cases hb)
 rw[e]
 cases w.heap[i]? with
 |none=>rfl
 |some o=>
  cases o with
  |cells a t fr=>exact⟨rfl,rfl,rfl,fun _ _=>rfl⟩
  |map es cl=>exact .inr ⟨rfl,rfl⟩
  |_=>rfl
def pY(p:Nat→CF→Prop):Tr CF→Prop
 | .e=>True
 | .n l v r=>(match v with|none=>True|some c=>p 0 c)∧pY (fun j=>p (2*j+1)) l∧pY (fun j=>p (2*j+2)) r
theorem pY.get:∀(t:Tr CF) (p:Nat→CF→Prop),pY p t→ ∀k c,t.get k=some c→p k c
 | .e,p,_,k,c,h=>by cases h
 | .n l v r,p,ht,k,c,h=>by
   rw[Tr.get_n]at h;obtain⟨h0,h1,h2⟩:=ht;by_cases e:k=0
   ·rw[ac e]at h;subst e;rw[h]at h0;exact h0
   ·rw[ab e]at h;by_cases e2:k%2=0
    ·rw[ac e2]at h;have:=pY.get r _ h2 _ _ h;rw[show 2*(k/2-1)+2=k by omega]at this;exact this
    ·rw[ab e2]at h;have:=pY.get l _ h1 _ _ h;rw[show 2*(k/2)+1=k by omega]at this;exact this
abbrev bZ(P:Program)(k:Nat)(cf:CF):Prop:=bB2 P k cf
theorem YJ{P:Program}{t:Tr CF}(h:pY (bZ P) t):fo P (fun k=>t.get k):=fun k c hk=>pY.get t _ h k c hk
def LR(a b:Rs):Prop:=a= .f∨a=b
def LC(a b:RC):Prop:=a= .f∨a=b
def LO{α:Type}(a b:Option α):Prop:=a=none∨a=b
def k9(ex ex':xz):Prop:=∀rd fn F c s,LR (ex rd fn F c s) (ex' rd fn F c s)
section
variable{Φ:Nat→Option CF}{ex ex':xz}{rd:Option Nat}{fn:Nat}{F:RO}
theorem Xw(h:k9 ex ex')(F:RO)(f:Nat)(args:List V)(M:Mem)(c:Nat)(o:Option CF):LC (cu ex F f args M c o) (cu ex' F f args M c o):=by
 cases o with
 |none=>exact .inl rfl
 |some cf=>
  cases cf with
  |orc g=>exact .inr rfl
  |mk n res body=>
   show LC (n8 res F (ex none f F body (.mk (bh n args) [] M c))) (n8 res F (ex' none f F body (.mk (bh n args) [] M c)));rcases h none f F body (.mk (bh n args) [] M c)with e|e
   ·rw[e];exact .inl rfl
   ·rw[e];exact .inr rfl
theorem uZ(h:k9 ex ex')(f:Nat)(args:List V)(M:Mem)(c:Nat):LC (mo (.mk Φ ex rd fn F) f args M c) (mo (.mk Φ ex' rd fn F) f args M c):=Xw h F f args M c _
theorem Pw(h:k9 ex ex')(l fn':Nat)(body:CC)(t:T)(M:Mem)(c:Nat)(lp:Lp):LC (sF (.mk Φ ex rd fn F) l fn' body t M c lp) (sF (.mk Φ ex' rd fn F) l fn' body t M c lp):=by
 cases lp with
 |f=>exact .inl rfl
 |k s pe fn2 tm ps a b d=>
  cases s with
  |ready=>
   show LC ((M.set l (.loop .busy pe fn2 tm ps a b d)).force fun M=>nM l (ex (some l) fn' F body (.mk t [] M c))) ((M.set l (.loop .busy pe fn2 tm ps a b d)).force fun M=>nM l (ex' (some l) fn' F body (.mk t [] M c)));rw[Tr.force_eq,Tr.force_eq];rcases h (some l) fn' F body (.mk t [] (M.set l (.loop .busy pe fn2 tm ps a b d)) c)with e|e
   ·rw[e];exact .inl rfl
   ·rw[e];exact .inr rfl
  |_=>exact .inl rfl
theorem a09(h:k9 ex ex')(l fn':Nat)(body:CC)(r:Rs):LC (nL (.mk Φ ex rd fn F) l fn' body r) (nL (.mk Φ ex' rd fn F) l fn' body r):=by
 cases r with
 |f=>exact .inl rfl
 |k e s=>
  cases e with
  |nrm=>
   obtain⟨t,d,M,c⟩:=s;cases d with
   |nil=>exact Pw (Φ:=Φ) (rd:=rd) (fn:=fn) h l fn' body t M c _
   |cons _ _=>exact .inl rfl
  |_=>exact .inl rfl
theorem av8(h:k9 ex ex')(l fn':Nat)(asg body:CC)(M:Mem)(c:Nat)(o:Option T):LC (GA (.mk Φ ex rd fn F) l fn' asg body M c o) (GA (.mk Φ ex' rd fn F) l fn' asg body M c o):=by
 cases o with
 |none=>exact .inl rfl
 |some t=>
  show LC (nL (.mk Φ ex rd fn F) l fn' body (ex (some l) fn' F asg (.mk t [] M c))) (nL (.mk Φ ex' rd fn F) l fn' body (ex' (some l) fn' F asg (.mk t [] M c)));rcases h (some l) fn' F asg (.mk t [] M c)with e|e
  ·rw[e];exact .inl rfl
  ·rw[e];exact a09 h l fn' body _
theorem Xz(h:k9 ex ex')(l:Nat)(args:List V)(M:Mem)(c:Nat)(lp:Lp):LC (sR (.mk Φ ex rd fn F) l args M c lp) (sR (.mk Φ ex' rd fn F) l args M c lp):=by
 cases lp with
 |f=>exact .inl rfl
 |k s pe fn2 tm ps a b d=>
  cases s with
  |ready=>exact av8 h l fn2 a b M c _
  |_=>exact .inl rfl
theorem Xy(h:k9 ex ex')(v:V)(args:List V)(M:Mem)(c:Nat):LC (sQ (.mk Φ ex rd fn F) v args M c) (sQ (.mk Φ ex' rd fn F) v args M c):=by
 cases v with
 |f g a b=>exact uZ (Φ:=Φ) (rd:=rd) (fn:=fn) h g _ M c
 |y l=>exact Xz h l args M c _
 |_=>exact .inl rfl
theorem Xx(h:k9 ex ex')(v:V)(args:List V)(M:Mem)(c:Nat):LC (mU (.mk Φ ex rd fn F) v args M c) (mU (.mk Φ ex' rd fn F) v args M c):=by
 cases v with
 |f g a b=>exact uZ (Φ:=Φ) (rd:=rd) (fn:=fn) h g _ M c
 |_=>exact .inl rfl
theorem XJ(h:k9 ex ex')(o:EO)(M:Mem)(c:Nat)(t:T):LC (gG o (.mk Φ ex rd fn F) M c t) (gG o (.mk Φ ex' rd fn F) M c t):=by
 cases o with
 |call f as0=>exact uZ (Φ:=Φ) (rd:=rd) (fn:=fn) h f _ M c
 |cv f as0=>exact Xy h _ _ M c
 |_=>exact .inr rfl
theorem Zm(h:k9 ex ex')(o:OK)(dst:Option aH)(t:T)(d:List Nat)(M:Mem)(c:Nat):LO (sop o (.mk Φ ex rd fn F) dst t d M c) (sop o (.mk Φ ex' rd fn F) dst t d M c):=by
 cases o with
 |q o=>exact .inr rfl
 |a o=>exact .inr rfl
 |e o=>
  show LO (xZ dst t d (gG o (.mk Φ ex rd fn F) M c t)) (xZ dst t d (gG o (.mk Φ ex' rd fn F) M c t));rcases XJ (Φ:=Φ) (rd:=rd) (fn:=fn) (F:=F) h o M c t with e|e
  ·rw[e];exact .inl rfl
  ·rw[e];exact .inr rfl
theorem Z9(h:k9 ex ex')(o:CO)(s:St):LO (eD o (.mk Φ ex rd fn F) s) (eD o (.mk Φ ex' rd fn F) s):=by
 obtain⟨dst,op,g⟩:=o
 obtain⟨t,d,M,c⟩:=s
 cases g with
 |none=>exact Zm h op dst t d M c
 |some g=>
  show LO (s_w op (.mk Φ ex rd fn F) dst t d M c (wanted t (some g))) (s_w op (.mk Φ ex' rd fn F) dst t d M c (wanted t (some g)));cases wanted t (some g)with
  |false=>exact .inr rfl
  |true=>exact Zm h op dst t d M c
theorem zm(h:k9 ex ex'):∀(ops:List CO) (s:St),LO (du ops (.mk Φ ex rd fn F) s) (du ops (.mk Φ ex' rd fn F) s)
 |[],s=> .inr rfl
 |o::r,s=>by
  show LO (lZ (du r) (.mk Φ ex rd fn F) (eD o (.mk Φ ex rd fn F) s)) (lZ (du r) (.mk Φ ex' rd fn F) (eD o (.mk Φ ex' rd fn F) s));rcases Z9 (Φ:=Φ) (rd:=rd) (fn:=fn) (F:=F) h o s with e|e
  ·rw[e];exact .inl rfl
  ·rw[e];cases eD o (.mk Φ ex' rd fn F) s with
   |none=>exact .inl rfl
   |some s1=>exact zm h r s1
theorem ah1(h:k9 ex ex')(e:EO)(dst:Option aH)(t:T)(c:Nat)(pend:List (Nat×Nat×bq))(reads:List (Nat×Nat))(p:Pr):
 LO (rK e (.mk Φ ex rd fn F) dst t c pend reads p) (rK e (.mk Φ ex' rd fn F) dst t c pend reads p):=by
 obtain⟨F',M,saved⟩:=p
 show LO (bif cz F' M pend then lM F' dst t pend reads saved (gG e (.mk Φ ex rd fn F') M c t)else none) (bif cz F' M pend then lM F' dst t pend reads saved (gG e (.mk Φ ex' rd fn F') M c t)else none)
 cases cz F' M pend with
 |false=>exact .inl rfl
 |true=>
  rcases XJ (Φ:=Φ) (rd:=rd) (fn:=fn) (F:=F') h e M c t with e|e
  ·rw[e];exact .inl rfl
  ·rw[e];exact .inr rfl
theorem ba8(h:k9 ex ex')(base:Nat)(x:Nat×Nat×CO)(s:DS):LO (ui (.mk Φ ex rd fn F) base x s) (ui (.mk Φ ex' rd fn F) base x s):=by
 obtain⟨i,mask,dst,op,g⟩:=x
 obtain⟨t,M,c,pend,reads⟩:=s
 show LO (bif wanted t g then XG (.mk Φ ex rd fn F) base i mask dst op t M c pend reads else _) (bif wanted t g then XG (.mk Φ ex' rd fn F) base i mask dst op t M c pend reads else _)
 cases wanted t g with
 |false=>exact .inr rfl
 |true=>
  cases op with
  |q o=>exact .inr rfl
  |a o=>exact .inr rfl
  |e o=>
   show LO (Cc o (.mk Φ ex rd fn F) mask dst t c reads (jf mask pend M)) (Cc o (.mk Φ ex' rd fn F) mask dst t c reads (jf mask pend M));obtain⟨M1,p1⟩:=jf mask pend M;exact ah1 h o dst t c p1 reads _
theorem L4(h:k9 ex ex')(base:Nat):∀(ops:List (Nat×Nat×CO)) (s:DS),LO (jo (.mk Φ ex rd fn F) base ops s) (jo (.mk Φ ex' rd fn F) base ops s)
 |[],s=> .inr rfl
 |o::r,s=>by
  rw[jo,jo];rcases ba8 (Φ:=Φ) (rd:=rd) (fn:=fn) (F:=F) h base o s with e|e
  ·rw[e];exact .inl rfl
  ·rw[e];cases ui (.mk Φ ex' rd fn F) base o s with
   |none=>exact .inl rfl
   |some s1=>exact L4 h base r s1
theorem C0(h:k9 ex ex')(c:CC)(s:St):LR (mS (.mk Φ ex rd fn F) c s) (mS (.mk Φ ex' rd fn F) c s):=h rd fn F c s
theorem Mz(h:k9 ex ex')(f:X)(ps:List aH)(asg body:CC)(t:T)(d:List Nat)(M:Mem)(l dn:Nat):LR (pK f ps asg body (.mk Φ ex rd fn F) t d M l dn) (pK f ps asg body (.mk Φ ex' rd fn F) t d M l dn):=by
 show LR ((M.set l (.loop .ready .none fn t ps asg body dn)).force fun M=>fN (Nat.succ l) fun c=>nv t d l (mU (.mk Φ ex rd fn F) (f.ev t) [.y l] M c)) ((M.set l (.loop .ready .none fn t ps asg body dn)).force fun M=>fN (Nat.succ l) fun c=>nv t d l (mU (.mk Φ ex' rd fn F) (f.ev t) [.y l] M c))
 rw[Tr.force_eq,Tr.force_eq,aN,aN]
 rcases Xx (Φ:=Φ) (rd:=rd) (fn:=fn) (F:=F) h (f.ev t) [.y l] (M.set l (.loop .ready .none fn t ps asg body dn)) (Nat.succ l)with e|e
 ·rw[e];exact .inl rfl
 ·rw[e];exact .inr rfl
theorem ap1(h:k9 ex ex')(f:X)(ps:List aH)(asg body:CC)(t:T)(d:List Nat)(M:Mem)(l:Nat)(lp:Lp):LR (P8 f ps asg body (.mk Φ ex rd fn F) t d M l lp) (P8 f ps asg body (.mk Φ ex' rd fn F) t d M l lp):=by
 cases lp with
 |f=>exact .inl rfl
 |k s pe fn2 tm ps' a b dn=>exact Mz h f ps asg body t d M l dn
theorem Co(h:k9 ex ex'):∀(c:CC) (s:St),LR (b5 c (.mk Φ ex rd fn F) s) (b5 c (.mk Φ ex' rd fn F) s):=by
 intro c
 induction c with
 |skip=>exact fun s=> .inr rfl
 |reg ops=>
  intro s;show LR (qP (du ops (.mk Φ ex rd fn F) s)) (qP (du ops (.mk Φ ex' rd fn F) s));rcases zm (Φ:=Φ) (rd:=rd) (fn:=fn) (F:=F) h ops s with e|e
  ·rw[e];exact .inl rfl
  ·rw[e];exact .inr rfl
 |dreg n ops=>
  intro s;obtain⟨t,d,M,c⟩:=s;show LR (fN (Nat.add c n) fun c'=>vm d (jo (.mk Φ ex rd fn F) c ops (.mk t M c' [] []))) (fN (Nat.add c n) fun c'=>vm d (jo (.mk Φ ex' rd fn F) c ops (.mk t M c' [] [])));rw[aN,aN];rcases L4 (Φ:=Φ) (rd:=rd) (fn:=fn) (F:=F) h c ops (.mk t M (Nat.add c n) [] [])with e|e
  ·rw[e];exact .inl rfl
  ·rw[e];exact .inr rfl
 |seq a b iha ihb=>
  intro s;show LR (lf (b5 b) (.mk Φ ex rd fn F) (b5 a (.mk Φ ex rd fn F) s)) (lf (b5 b) (.mk Φ ex' rd fn F) (b5 a (.mk Φ ex' rd fn F) s));rcases iha s with e|e
  ·rw[e];exact .inl rfl
  ·rw[e];cases b5 a (.mk Φ ex' rd fn F) s with
   |f=>exact .inl rfl
   |k e s1=>
    cases e with
    |nrm=>exact ihb s1
    |_=>exact .inr rfl
 |cond x a b iha ihb=>
  intro s;show LR (jI x a b (b5 a) (b5 b) (.mk Φ ex rd fn F) s) (jI x a b (b5 a) (b5 b) (.mk Φ ex' rd fn F) s);unfold jI;cases x.ev (stT s)with
  |b v=>
   cases v with
   |true=>exact iha s
   |false=>exact ihb s
  |_=>exact .inl rfl
 |block id b ih=>
  intro s;show LR (fL id (b5 b (.mk Φ ex rd fn F) s)) (fL id (b5 b (.mk Φ ex' rd fn F) s));rcases ih s with e|e
  ·rw[e];exact .inl rfl
  ·rw[e];exact .inr rfl
 |loop b ih=>
  intro s;show LR (gV b (.mk Φ ex rd fn F) (b5 b (.mk Φ ex rd fn F) s)) (gV b (.mk Φ ex' rd fn F) (b5 b (.mk Φ ex' rd fn F) s));rcases ih s with e|e
  ·rw[e];exact .inl rfl
  ·rw[e];cases b5 b (.mk Φ ex' rd fn F) s with
   |f=>exact .inl rfl
   |k e s1=>
    cases e with
    |nrm=>exact C0 (Φ:=Φ) h _ s1
    |_=>exact .inr rfl
 |rf f ps a b _ _=>
  intro s;obtain⟨t,d,M,c⟩:=s;cases rd with
  |some l=>exact ap1 h f ps a b t d M c _
  |none=>
   show LR ((M.set c (.defs false)).force fun M=>fN (Nat.succ c) fun c'=>pK f ps a b (.mk Φ ex none fn F) t (c::d) M c' c) ((M.set c (.defs false)).force fun M=>fN (Nat.succ c) fun c'=>pK f ps a b (.mk Φ ex' none fn F) t (c::d) M c' c);rw[Tr.force_eq,Tr.force_eq,aN,aN];exact Mz h f ps a b t (c::d) _ _ c
 |exit id=>exact fun s=> .inr rfl
 |scope b tbl ihb _=>
  intro s;show LR (js tbl (.mk Φ ex rd fn F) (b5 b (.mk Φ ex rd fn F) s)) (js tbl (.mk Φ ex' rd fn F) (b5 b (.mk Φ ex' rd fn F) s));rcases ihb s with e|e
  ·rw[e];exact .inl rfl
  ·rw[e];cases b5 b (.mk Φ ex' rd fn F) s with
   |f=>exact .inl rfl
   |k e s1=>
    cases e with
    |gto l=>
     show LR (sg tbl (.mk Φ ex rd fn F) s1 (kB l tbl)) (sg tbl (.mk Φ ex' rd fn F) s1 (kB l tbl));cases kB l tbl with
     |none=>exact .inl rfl
     |some c=>exact C0 (Φ:=Φ) h _ s1
    |_=>exact .inr rfl
 |tab l c r _ _=>exact fun s=> .inr rfl
 |goto l=>exact fun s=> .inr rfl
 |ret=>exact fun s=> .inr rfl
 |bad=>exact fun s=> .inr rfl
end
theorem Ld(Φ:Nat→Option CF):∀(n:Nat),k9 (exec Φ n) (exec Φ (n+1))
 |0=>fun rd fn F c s=> .inl rfl
 |n+1=>fun rd fn F c s=>Co (Ld Φ n) c s
theorem rN(Φ:Nat→Option CF){n:Nat}(m:Nat):k9 (exec Φ n) (exec Φ (n+m)):=by
 induction m with
 |zero=>exact fun rd fn F c s=> .inr rfl
 |succ m ih=>
  intro rd fn F c s;rcases ih rd fn F c s with h|h
  ·exact .inl h
  ·rcases Ld Φ (n+m) rd fn F c s with h2|h2
   ·exact .inl (h.trans h2)
   ·exact .inr (h.trans h2)
def VR(a:Nat→Rs)(b:Rs):Prop:=b= .f∨ ∃n,∀m,n≤m→a m=b
def VC(a:Nat→RC)(b:RC):Prop:=b= .f∨ ∃n,∀m,n≤m→a m=b
def VO{α:Type}(a:Nat→Option α)(b:Option α):Prop:=b=none∨ ∃n,∀m,n≤m→a m=b
def yi(ex:Nat→xz)(ex':xz):Prop:=∀rd fn F c s,VR (fun m=>ex m rd fn F c s) (ex' rd fn F c s)
section
variable{Φ:Nat→Option CF}{ex:Nat→xz}{ex':xz}{rd:Option Nat}{fn:Nat}{F:RO}
theorem ag2(h:yi ex ex')(F:RO)(f:Nat)(args:List V)(M:Mem)(c:Nat)(o:Option CF):VC (fun m=>cu (ex m) F f args M c o) (cu ex' F f args M c o):=by
 cases o with
 |none=>exact .inl rfl
 |some cf=>
  cases cf with
  |orc g=>exact .inr ⟨0,fun m hm=>rfl⟩
  |mk n res body=>
   show VC (fun m=>n8 res F (ex m none f F body (.mk (bh n args) [] M c))) (n8 res F (ex' none f F body (.mk (bh n args) [] M c)));rcases h none f F body (.mk (bh n args) [] M c)with e|⟨n,e⟩
   ·rw[e];exact .inl rfl
   ·exact .inr ⟨n,fun m hm=>congrArg (n8 res F) (e m hm)⟩
theorem A3(h:yi ex ex')(f:Nat)(args:List V)(M:Mem)(c:Nat):VC (fun m=>mo (.mk Φ (ex m) rd fn F) f args M c) (mo (.mk Φ ex' rd fn F) f args M c):=ag2 h F f args M c _
theorem aa0(h:yi ex ex')(l fn':Nat)(body:CC)(t:T)(M:Mem)(c:Nat)(lp:Lp):VC (fun m=>sF (.mk Φ (ex m) rd fn F) l fn' body t M c lp) (sF (.mk Φ ex' rd fn F) l fn' body t M c lp):=by
 cases lp with
 |f=>exact .inl rfl
 |k s pe fn2 tm ps a b d=>
  cases s with
  |ready=>
   show VC (fun m=>(M.set l (.loop .busy pe fn2 tm ps a b d)).force fun M=>nM l (ex m (some l) fn' F body (.mk t [] M c))) ((M.set l (.loop .busy pe fn2 tm ps a b d)).force fun M=>nM l (ex' (some l) fn' F body (.mk t [] M c)));simp only[Tr.force_eq];rcases h (some l) fn' F body (.mk t [] (M.set l (.loop .busy pe fn2 tm ps a b d)) c)with e|⟨n,e⟩
   ·rw[e];exact .inl rfl
   ·exact .inr ⟨n,fun m hm=>congrArg (nM l) (e m hm)⟩
  |_=>exact .inl rfl
theorem av7(h:yi ex ex')(l fn':Nat)(body:CC)(r:Rs):VC (fun m=>nL (.mk Φ (ex m) rd fn F) l fn' body r) (nL (.mk Φ ex' rd fn F) l fn' body r):=by
 cases r with
 |f=>exact .inl rfl
 |k e s=>
  cases e with
  |nrm=>
   obtain⟨t,d,M,c⟩:=s;cases d with
   |nil=>exact aa0 (Φ:=Φ) (rd:=rd) (fn:=fn) h l fn' body t M c _
   |cons _ _=>exact .inl rfl
  |_=>exact .inl rfl
theorem by6(h:yi ex ex')(l fn':Nat)(asg body:CC)(M:Mem)(c:Nat)(o:Option T):VC (fun m=>GA (.mk Φ (ex m) rd fn F) l fn' asg body M c o) (GA (.mk Φ ex' rd fn F) l fn' asg body M c o):=by
 cases o with
 |none=>exact .inl rfl
 |some t=>
  show VC (fun m=>nL (.mk Φ (ex m) rd fn F) l fn' body (ex m (some l) fn' F asg (.mk t [] M c))) (nL (.mk Φ ex' rd fn F) l fn' body (ex' (some l) fn' F asg (.mk t [] M c)));rcases h (some l) fn' F asg (.mk t [] M c)with e|⟨n,e⟩
  ·rw[e];exact .inl rfl
  ·rcases av7 (Φ:=Φ) (rd:=rd) (fn:=fn) (F:=F) h l fn' body (ex' (some l) fn' F asg (.mk t [] M c))with e2|⟨n2,e2⟩
   ·exact .inl e2
   ·exact .inr ⟨max n n2,fun m hm=>by
     have h1:=e m (bn (Nat.le_max_left _ _) hm);have h2:=e2 m (bn (Nat.le_max_right _ _) hm);simp only at h1 h2⊢;rw[h1,h2]⟩
theorem ag5(h:yi ex ex')(l:Nat)(args:List V)(M:Mem)(c:Nat)(lp:Lp):VC (fun m=>sR (.mk Φ (ex m) rd fn F) l args M c lp) (sR (.mk Φ ex' rd fn F) l args M c lp):=by
 cases lp with
 |f=>exact .inl rfl
 |k s pe fn2 tm ps a b d=>
  cases s with
  |ready=>exact by6 h l fn2 a b M c _
  |_=>exact .inl rfl
theorem ag4(h:yi ex ex')(v:V)(args:List V)(M:Mem)(c:Nat):VC (fun m=>sQ (.mk Φ (ex m) rd fn F) v args M c) (sQ (.mk Φ ex' rd fn F) v args M c):=by
 cases v with
 |f g a b=>exact A3 (Φ:=Φ) (rd:=rd) (fn:=fn) h g _ M c
 |y l=>exact ag5 h l args M c _
 |_=>exact .inl rfl
theorem ag3(h:yi ex ex')(v:V)(args:List V)(M:Mem)(c:Nat):VC (fun m=>mU (.mk Φ (ex m) rd fn F) v args M c) (mU (.mk Φ ex' rd fn F) v args M c):=by
 cases v with
 |f g a b=>exact A3 (Φ:=Φ) (rd:=rd) (fn:=fn) h g _ M c
 |_=>exact .inl rfl
theorem aY3(h:yi ex ex')(o:EO)(M:Mem)(c:Nat)(t:T):VC (fun m=>gG o (.mk Φ (ex m) rd fn F) M c t) (gG o (.mk Φ ex' rd fn F) M c t):=by
 cases o with
 |call f as0=>exact A3 (Φ:=Φ) (rd:=rd) (fn:=fn) h f _ M c
 |cv f as0=>exact ag4 h _ _ M c
 |_=>exact .inr ⟨0,fun m hm=>rfl⟩
theorem b16(h:yi ex ex')(o:OK)(dst:Option aH)(t:T)(d:List Nat)(M:Mem)(c:Nat):VO (fun m=>sop o (.mk Φ (ex m) rd fn F) dst t d M c) (sop o (.mk Φ ex' rd fn F) dst t d M c):=by
 cases o with
 |q o=>exact .inr ⟨0,fun m hm=>rfl⟩
 |a o=>exact .inr ⟨0,fun m hm=>rfl⟩
 |e o=>
  show VO (fun m=>xZ dst t d (gG o (.mk Φ (ex m) rd fn F) M c t)) (xZ dst t d (gG o (.mk Φ ex' rd fn F) M c t));rcases aY3 (Φ:=Φ) (rd:=rd) (fn:=fn) (F:=F) h o M c t with e|⟨n,e⟩
  ·rw[e];exact .inl rfl
  ·exact .inr ⟨n,fun m hm=>congrArg (xZ dst t d) (e m hm)⟩
theorem ap6(h:yi ex ex')(o:CO)(s:St):VO (fun m=>eD o (.mk Φ (ex m) rd fn F) s) (eD o (.mk Φ ex' rd fn F) s):=by
 obtain⟨dst,op,g⟩:=o
 obtain⟨t,d,M,c⟩:=s
 cases g with
 |none=>exact b16 h op dst t d M c
 |some g=>
  show VO (fun m=>s_w op (.mk Φ (ex m) rd fn F) dst t d M c (wanted t (some g))) (s_w op (.mk Φ ex' rd fn F) dst t d M c (wanted t (some g)));cases wanted t (some g)with
  |false=>exact .inr ⟨0,fun m hm=>rfl⟩
  |true=>exact b16 h op dst t d M c
theorem D0(h:yi ex ex'):∀(ops:List CO) (s:St),VO (fun m=>du ops (.mk Φ (ex m) rd fn F) s) (du ops (.mk Φ ex' rd fn F) s)
 |[],s=> .inr ⟨0,fun m hm=>rfl⟩
 |o::r,s=>by
  show VO (fun m=>lZ (du r) (.mk Φ (ex m) rd fn F) (eD o (.mk Φ (ex m) rd fn F) s)) (lZ (du r) (.mk Φ ex' rd fn F) (eD o (.mk Φ ex' rd fn F) s));rcases ap6 (Φ:=Φ) (rd:=rd) (fn:=fn) (F:=F) h o s with e|⟨n,e⟩
  ·rw[e];exact .inl rfl
  ·cases hs:eD o (.mk Φ ex' rd fn F) s with
   |none=>exact .inl rfl
   |some s1=>
    rw[hs]at e;rcases D0 h r s1 with e2|⟨n2,e2⟩
    ·exact .inl e2
    ·exact .inr ⟨max n n2,fun m hm=>by
      have h1:=e m (bn (Nat.le_max_left _ _) hm);have h2:=e2 m (bn (Nat.le_max_right _ _) hm);simp only at h1 h2⊢;rw[h1];exact h2⟩
theorem ba9(h:yi ex ex')(e:EO)(dst:Option aH)(t:T)(c:Nat)(pend:List (Nat×Nat×bq))(reads:List (Nat×Nat))(p:Pr):
 VO (fun m=>rK e (.mk Φ (ex m) rd fn F) dst t c pend reads p) (rK e (.mk Φ ex' rd fn F) dst t c pend reads p):=by
 obtain⟨F',M,saved⟩:=p
 show VO (fun m=>bif cz F' M pend then lM F' dst t pend reads saved (gG e (.mk Φ (ex m) rd fn F') M c t)else none) (bif cz F' M pend then lM F' dst t pend reads saved (gG e (.mk Φ ex' rd fn F') M c t)else none)
 cases cz F' M pend with
 |false=>exact .inl rfl
 |true=>
  rcases aY3 (Φ:=Φ) (rd:=rd) (fn:=fn) (F:=F') h e M c t with e|⟨n,e⟩
  ·rw[e];exact .inl rfl
  ·exact .inr ⟨n,fun m hm=>congrArg (lM F' dst t pend reads saved) (e m hm)⟩
theorem bO5(h:yi ex ex')(base:Nat)(x:Nat×Nat×CO)(s:DS):VO (fun m=>ui (.mk Φ (ex m) rd fn F) base x s) (ui (.mk Φ ex' rd fn F) base x s):=by
 obtain⟨i,mask,dst,op,g⟩:=x
 obtain⟨t,M,c,pend,reads⟩:=s
 show VO (fun m=>bif wanted t g then XG (.mk Φ (ex m) rd fn F) base i mask dst op t M c pend reads else _) (bif wanted t g then XG (.mk Φ ex' rd fn F) base i mask dst op t M c pend reads else _)
 cases wanted t g with
 |false=>exact .inr ⟨0,fun m hm=>rfl⟩
 |true=>
  cases op with
  |q o=>exact .inr ⟨0,fun m hm=>rfl⟩
  |a o=>exact .inr ⟨0,fun m hm=>rfl⟩
  |e o=>
   show VO (fun m=>Cc o (.mk Φ (ex m) rd fn F) mask dst t c reads (jf mask pend M)) (Cc o (.mk Φ ex' rd fn F) mask dst t c reads (jf mask pend M));obtain⟨M1,p1⟩:=jf mask pend M;exact ba9 h o dst t c p1 reads _
theorem XF(h:yi ex ex')(base:Nat):∀(ops:List (Nat×Nat×CO)) (s:DS),VO (fun m=>jo (.mk Φ (ex m) rd fn F) base ops s) (jo (.mk Φ ex' rd fn F) base ops s)
 |[],s=> .inr ⟨0,fun m hm=>rfl⟩
 |o::r,s=>by
  simp only[jo];rcases bO5 (Φ:=Φ) (rd:=rd) (fn:=fn) (F:=F) h base o s with e|⟨n,e⟩
  ·rw[e];exact .inl rfl
  ·cases hs:ui (.mk Φ ex' rd fn F) base o s with
   |none=>exact .inl rfl
   |some s1=>
    rw[hs]at e;rcases XF h base r s1 with e2|⟨n2,e2⟩
    ·exact .inl e2
    ·exact .inr ⟨max n n2,fun m hm=>by
      have h1:=e m (bn (Nat.le_max_left _ _) hm);have h2:=e2 m (bn (Nat.le_max_right _ _) hm);simp only at h1 h2⊢;rw[h1];exact h2⟩
theorem Hb(h:yi ex ex')(c:CC)(s:St):VR (fun m=>mS (.mk Φ (ex m) rd fn F) c s) (mS (.mk Φ ex' rd fn F) c s):=h rd fn F c s
theorem Z0(h:yi ex ex')(f:X)(ps:List aH)(asg body:CC)(t:T)(d:List Nat)(M:Mem)(l dn:Nat):VR (fun m=>pK f ps asg body (.mk Φ (ex m) rd fn F) t d M l dn) (pK f ps asg body (.mk Φ ex' rd fn F) t d M l dn):=by
 show VR (fun m=>(M.set l (.loop .ready .none fn t ps asg body dn)).force fun M=>fN (Nat.succ l) fun c=>nv t d l (mU (.mk Φ (ex m) rd fn F) (f.ev t) [.y l] M c)) ((M.set l (.loop .ready .none fn t ps asg body dn)).force fun M=>fN (Nat.succ l) fun c=>nv t d l (mU (.mk Φ ex' rd fn F) (f.ev t) [.y l] M c))
 simp only[Tr.force_eq,aN]
 rcases ag3 (Φ:=Φ) (rd:=rd) (fn:=fn) (F:=F) h (f.ev t) [.y l] (M.set l (.loop .ready .none fn t ps asg body dn)) (Nat.succ l)with e|⟨n,e⟩
 ·rw[e];exact .inl rfl
 ·exact .inr ⟨n,fun m hm=>congrArg (nv t d l) (e m hm)⟩
theorem bi3(h:yi ex ex')(f:X)(ps:List aH)(asg body:CC)(t:T)(d:List Nat)(M:Mem)(l:Nat)(lp:Lp):VR (fun m=>P8 f ps asg body (.mk Φ (ex m) rd fn F) t d M l lp) (P8 f ps asg body (.mk Φ ex' rd fn F) t d M l lp):=by
 cases lp with
 |f=>exact .inl rfl
 |k s pe fn2 tm ps' a b dn=>exact Z0 h f ps asg body t d M l dn
theorem aj4(h:yi ex ex'):∀(c:CC) (s:St),VR (fun m=>b5 c (.mk Φ (ex m) rd fn F) s) (b5 c (.mk Φ ex' rd fn F) s):=by
 intro c
 induction c with
 |skip=>exact fun s=> .inr ⟨0,fun m hm=>rfl⟩
 |reg ops=>
  intro s;show VR (fun m=>qP (du ops (.mk Φ (ex m) rd fn F) s)) (qP (du ops (.mk Φ ex' rd fn F) s));rcases D0 (Φ:=Φ) (rd:=rd) (fn:=fn) (F:=F) h ops s with e|⟨n,e⟩
  ·rw[e];exact .inl rfl
  ·exact .inr ⟨n,fun m hm=>congrArg qP (e m hm)⟩
 |dreg k ops=>
  intro s;obtain⟨t,d,M,c⟩:=s;show VR (fun m=>fN (Nat.add c k) fun c'=>vm d (jo (.mk Φ (ex m) rd fn F) c ops (.mk t M c' [] []))) (fN (Nat.add c k) fun c'=>vm d (jo (.mk Φ ex' rd fn F) c ops (.mk t M c' [] [])));simp only[aN];rcases XF (Φ:=Φ) (rd:=rd) (fn:=fn) (F:=F) h c ops (.mk t M (Nat.add c k) [] [])with e|⟨n,e⟩
  ·rw[e];exact .inl rfl
  ·exact .inr ⟨n,fun m hm=>congrArg (vm d) (e m hm)⟩
 |seq a b iha ihb=>
  intro s;show VR (fun m=>lf (b5 b) (.mk Φ (ex m) rd fn F) (b5 a (.mk Φ (ex m) rd fn F) s)) (lf (b5 b) (.mk Φ ex' rd fn F) (b5 a (.mk Φ ex' rd fn F) s));rcases iha s with e|⟨n,e⟩
  ·rw[e];exact .inl rfl
  ·cases hs:b5 a (.mk Φ ex' rd fn F) s with
   |f=>exact .inl rfl
   |k x s1=>
    rw[hs]at e;cases x with
    |nrm=>
     rcases ihb s1 with e2|⟨n2,e2⟩
     ·exact .inl e2
     ·exact .inr ⟨max n n2,fun m hm=>by
       have h1:=e m (bn (Nat.le_max_left _ _) hm);have h2:=e2 m (bn (Nat.le_max_right _ _) hm);simp only at h1 h2⊢;rw[h1];exact h2⟩
    |_=>exact .inr ⟨n,fun m hm=>congrArg (lf (b5 b) (.mk Φ (ex m) rd fn F)) (e m hm)⟩
 |cond x a b iha ihb=>
  intro s;show VR (fun m=>jI x a b (b5 a) (b5 b) (.mk Φ (ex m) rd fn F) s) (jI x a b (b5 a) (b5 b) (.mk Φ ex' rd fn F) s);unfold jI;cases x.ev (stT s)with
  |b v=>
   cases v with
   |true=>exact iha s
   |false=>exact ihb s
  |_=>exact .inl rfl
 |block id b ih=>
  intro s;show VR (fun m=>fL id (b5 b (.mk Φ (ex m) rd fn F) s)) (fL id (b5 b (.mk Φ ex' rd fn F) s));rcases ih s with e|⟨n,e⟩
  ·rw[e];exact .inl rfl
  ·exact .inr ⟨n,fun m hm=>congrArg (fL id) (e m hm)⟩
 |loop b ih=>
  intro s;show VR (fun m=>gV b (.mk Φ (ex m) rd fn F) (b5 b (.mk Φ (ex m) rd fn F) s)) (gV b (.mk Φ ex' rd fn F) (b5 b (.mk Φ ex' rd fn F) s));rcases ih s with e|⟨n,e⟩
  ·rw[e];exact .inl rfl
  ·cases hs:b5 b (.mk Φ ex' rd fn F) s with
   |f=>exact .inl rfl
   |k x s1=>
    rw[hs]at e;cases x with
    |nrm=>
     rcases Hb (Φ:=Φ) (rd:=rd) (fn:=fn) (F:=F) h (.loop b) s1 with e2|⟨n2,e2⟩
     ·exact .inl e2
     ·exact .inr ⟨max n n2,fun m hm=>by
       have h1:=e m (bn (Nat.le_max_left _ _) hm);have h2:=e2 m (bn (Nat.le_max_right _ _) hm);simp only at h1 h2⊢;rw[h1];exact h2⟩
    |_=>exact .inr ⟨n,fun m hm=>congrArg (gV b (.mk Φ (ex m) rd fn F)) (e m hm)⟩
 |rf f ps a b _ _=>
  intro s;obtain⟨t,d,M,c⟩:=s;cases rd with
  |some l=>exact bi3 h f ps a b t d M c _
  |none=>
   show VR (fun m=>(M.set c (.defs false)).force fun M=>fN (Nat.succ c) fun c'=>pK f ps a b (.mk Φ (ex m) none fn F) t (c::d) M c' c) ((M.set c (.defs false)).force fun M=>fN (Nat.succ c) fun c'=>pK f ps a b (.mk Φ ex' none fn F) t (c::d) M c' c);simp only[Tr.force_eq,aN];exact Z0 h f ps a b t (c::d) _ _ c
 |exit id=>exact fun s=> .inr ⟨0,fun m hm=>rfl⟩
 |scope b tbl ihb _=>
  intro s;show VR (fun m=>js tbl (.mk Φ (ex m) rd fn F) (b5 b (.mk Φ (ex m) rd fn F) s)) (js tbl (.mk Φ ex' rd fn F) (b5 b (.mk Φ ex' rd fn F) s));rcases ihb s with e|⟨n,e⟩
  ·rw[e];exact .inl rfl
  ·cases hs:b5 b (.mk Φ ex' rd fn F) s with
   |f=>exact .inl rfl
   |k x s1=>
    rw[hs]at e;cases x with
    |gto l=>
     have hj:VR (fun m=>sg tbl (.mk Φ (ex m) rd fn F) s1 (kB l tbl)) (sg tbl (.mk Φ ex' rd fn F) s1 (kB l tbl)):=by
      cases kB l tbl with
      |none=>exact .inl rfl
      |some c=>exact Hb (Φ:=Φ) h _ s1
     rcases hj with e2|⟨n2,e2⟩
     ·exact .inl e2
     ·exact .inr ⟨max n n2,fun m hm=>by
       have h1:=e m (bn (Nat.le_max_left _ _) hm);have h2:=e2 m (bn (Nat.le_max_right _ _) hm);simp only at h1 h2⊢;rw[h1];exact h2⟩
    |_=>exact .inr ⟨n,fun m hm=>congrArg (js tbl (.mk Φ (ex m) rd fn F)) (e m hm)⟩
 |tab l c r _ _=>exact fun s=> .inr ⟨0,fun m hm=>rfl⟩
 |goto l=>exact fun s=> .inr ⟨0,fun m hm=>rfl⟩
 |ret=>exact fun s=> .inr ⟨0,fun m hm=>rfl⟩
 |bad=>exact fun s=> .inr ⟨0,fun m hm=>rfl⟩
end
open Classical in
def iu(Φ:Nat→Option CF):xz:=fun rd fn F c s=>if h:∃n,exec Φ n rd fn F c s≠ .f then exec Φ (Classical.choose h) rd fn F c s else .f
theorem A4{Φ:Nat→Option CF}{n:Nat}{rd:Option Nat}{fn:Nat}{F:RO}{c:CC}{s:St}(h:exec Φ n rd fn F c s≠ .f):iu Φ rd fn F c s=exec Φ n rd fn F c s:=by
 have hx:∃n,exec Φ n rd fn F c s≠ .f:=⟨n,h⟩
 unfold iu
 rw[dif_pos hx]
 have hc:=Classical.choose_spec hx
 rcases rN Φ (n:=n) (Classical.choose hx) rd fn F c s with e1|e1
 ·exact absurd e1 h
 ·rcases rN Φ (n:=Classical.choose hx) n rd fn F c s with e2|e2
  ·exact absurd e2 hc
  ·rw[e1,e2,Nat.add_comm]
theorem yx(Φ:Nat→Option CF)(rd:Option Nat)(fn:Nat)(F:RO)(c:CC)(s:St):iu Φ rd fn F c s= .f∨ ∃n,iu Φ rd fn F c s=exec Φ n rd fn F c s:=by
 by_cases hx:∃n,exec Φ n rd fn F c s≠ .f
 ·exact .inr ⟨_,by unfold iu;rw[dif_pos hx]⟩
 ·exact .inl (by unfold iu;rw[dif_neg hx])
theorem Y1(Φ:Nat→Option CF)(n:Nat):k9 (exec Φ n) (iu Φ):=by
 intro rd fn F c s
 by_cases h:exec Φ n rd fn F c s= .f
 ·exact .inl h
 ·exact .inr (A4 h).symm
theorem bb1(Φ:Nat→Option CF)(rd:Option Nat)(fn:Nat)(F:RO)(c:CC)(s:St):LR (iu Φ rd fn F c s) (b5 c (.mk Φ (iu Φ) rd fn F) s):=by
 by_cases hx:∃n,exec Φ n rd fn F c s≠ .f
 ·obtain⟨n,hn⟩:=hx;rw[A4 hn];cases n with
  |zero=>exact .inl rfl
  |succ n=>exact Co (Y1 Φ n) c s
 ·exact .inl (by unfold iu;rw[dif_neg hx])
theorem bO6(Φ:Nat→Option CF):yi (exec Φ) (iu Φ):=by
 intro rd fn F c s
 rcases yx Φ rd fn F c s with h|⟨n,h⟩
 ·exact .inl h
 ·by_cases hf:iu Φ rd fn F c s= .f
  ·exact .inl hf
  ·refine .inr ⟨n,fun m hm=>?_⟩;have:exec Φ m rd fn F c s≠ .f:=by
    obtain⟨k,rfl⟩:∃k,m=n+k:=⟨m-n,by omega⟩
    rcases rN Φ (n:=n) k rd fn F c s with e|e
    ·exact absurd (h.trans e) hf
    ·rw[←e,←h];exact hf
   exact(A4 this).symm
theorem EL(Φ:Nat→Option CF)(rd:Option Nat)(fn:Nat)(F:RO)(c:CC)(s:St):iu Φ rd fn F c s=b5 c (.mk Φ (iu Φ) rd fn F) s:=by
 rcases bb1 Φ rd fn F c s with h|h
 ·rcases aj4 (Φ:=Φ) (rd:=rd) (fn:=fn) (F:=F) (bO6 Φ) c s with h2|⟨n,h2⟩
  ·rw[h,h2]
  ·have h3:exec Φ (n+1) rd fn F c s=b5 c (.mk Φ (iu Φ) rd fn F) s:=h2 n (ah _);by_cases hf:b5 c (.mk Φ (iu Φ) rd fn F) s= .f
   ·rw[h,hf]
   ·rw[←h3];exact A4 (by rw[h3];exact hf)
 ·exact h
theorem EM{P:Program}(hm:P.follows .mixedOrders=true){Φ:Nat→Option CF}(hΦ:fo P Φ):BI P (iu Φ):=by
 intro rd fn F cc t d M ct e t' d' M' ct' h
 rcases yx Φ rd fn F cc (.mk t d M ct)with h1|⟨n,h1⟩
 ·rw[h1]at h;cases h
 ·rw[h1]at h;exact vv hm hΦ n rd fn F cc t d M ct e t' d' M' ct' h
structure rA(F0:RO)(M0:Mem)(F:RO)(M:Mem):Prop where
 m:∀b blk,M0.get b=some blk→M.get b=some blk
 f:∀b blk,aV F0 b=some blk→look F M b=some blk
 ap:∀b,(aV F0 b).isSome→M0.get b=none
theorem rA.look{F0:RO}{M0:Mem}{F:RO}{M:Mem}(h:rA F0 M0 F M){b:Nat}{blk:bq}(hb:look F0 M0 b=some blk):look F M b=some blk:=by
 cases hm:M0.get b with
 |some x=>
  rw[aq hm]at hb;obtain rfl:=af hb;exact aq (h.m b _ hm)
 |none=>
  rw[aC hm]at hb;exact h.f b blk hb
theorem rA.rel{P:Program}{E:cE}{F0 F:RO}{M0 M:Mem}{c:Nat→Prop}{w:World}(h:rA F0 M0 F M)(hr:jl P E F M c w):jl P E F0 M0 c w where
 has:=fun b blk hb=>hr.has b blk (h.look hb)
 inj:=by
  intro b b' h1 h2 e;obtain⟨x,hx⟩:=bm.1 h1;obtain⟨y,hy⟩:=bm.1 h2;exact hr.inj b b' (by rw[h.look hx];rfl) (by rw[h.look hy];rfl) e
 apart:=h.ap
theorem jl.lt{P:Program}{E:cE}{F:RO}{M:Mem}{c:Nat→Prop}{w:World}(h:jl P E F M c w){b:Nat}(hb:(look F M b).isSome):E.ρ b<w.heap.size:=by
 obtain⟨x,hx⟩:=bm.1 hb
 obtain⟨_,_,o',ho',_⟩:=h.has b x hx
 exact(Array.getElem?_eq_some_iff.1 ho').1
theorem lw.framed{P:Program}{E E':cE}{F0 F:RO}{M0 M M1 N:Mem}{c c':Nat→Prop}{w w':World}(hsub:rA F0 M0 F M)(hr:jl P E F M c w)(hS:lw P F0 E M0 c w E' M1 c' w')
 (hN:∀b blk,N.get b=some blk→M1.get b=some blk∨(M.get b=some blk∧M0.get b=none)):lw P F E M c w E' N c' w':=by
 have old:∀b blk,look F M b=some blk→M0.get b=none→c b∧f6 c blk∧E'.ρ b=E.ρ b∧ ∃o,w'.heap[E'.ρ b]?=some o∧eY P E' b blk o:=by
  intro b blk hb h0;obtain⟨hcb,hbd,o,ho,hB⟩:=hr.has b blk hb;have e:=hS.ext.ρ b hcb;refine⟨hcb,hbd,e,o,?_,hB.ext hS.ext hcb hbd⟩;rw[e,hS.frame _ (Array.getElem?_eq_some_iff.1 ho).1,ho];intro b0 hb0 e0;obtain⟨x0,hx0⟩:=bm.1 hb0;have:b0=b:=hr.inj b0 b (by rw[aq (hsub.m b0 x0 hx0)];rfl) (by rw[hb];rfl) e0;subst this;rw[h0]at hx0;cases hx0
 have new_old:∀b b' blk',(M1.get b).isSome→look F M b'=some blk'→M0.get b'=none→E'.ρ b≠E.ρ b':=by
  intro b b' blk' h1 h2 h0 e;rcases hS.own b h1 with⟨b0,hb0,e0⟩|hge
  ·obtain⟨x0,hx0⟩:=bm.1 hb0;have:b0=b':=hr.inj b0 b' (by rw[aq (hsub.m b0 x0 hx0)];rfl) (by rw[h2];rfl) (e0.trans e);subst this;rw[h0]at hx0;cases hx0
  ·have:=hr.lt (b:=b') (by rw[h2];rfl);omega
 have fM0:∀b,(aV F b).isSome→M0.get b=none:=by
  intro b hb;cases h:M0.get b with
  |none=>rfl
  |some x=>have:=hr.apart b hb;rw[hsub.m b x h]at this;cases this
 have fM:∀b blk,aV F b=some blk→look F M b=some blk:=fun b blk hb=>by rw[aC (hr.apart b (by rw[hb];rfl))];exact hb
 have nocommon:∀b blk',look F M b=some blk'→M0.get b=none→M1.get b=none:=by
  intro b blk' h2 h0;cases h1:M1.get b with
  |none=>rfl
  |some x=>
   exfalso;have:=new_old b b blk' (by rw[h1];rfl) h2 h0;exact this (old b blk' h2 h0).2.2.1
 have lookN:∀b blk,look F N b=some blk→M1.get b=some blk∨(look F M b=some blk∧M0.get b=none):=by
  intro b blk hb;cases h:N.get b with
  |some x=>
   rw[aq h]at hb;obtain rfl:=af hb;rcases hN b _ h with h1|⟨h1,h2⟩
   ·exact .inl h1
   ·exact .inr ⟨aq h1,h2⟩
  |none=>
   rw[aC h]at hb;exact .inr ⟨fM b blk hb,fM0 b (by rw[hb];rfl)⟩
 refine⟨hS.ext,hS.le,⟨?_,?_,?_⟩,?_,?_,hS.size,hS.os,hS.output,hS.tape⟩
 ·intro b blk hb;rcases lookN b blk hb with h1|⟨h1,h2⟩
  ·exact hS.rel.has b blk (aq h1)
  ·obtain⟨a1,a2,_,a3⟩:=old b blk h1 h2;exact⟨hS.le b a1,fq hS.le _ a2,a3⟩
 ·intro b b' h1 h2 e;obtain⟨x,hx⟩:=bm.1 h1;obtain⟨y,hy⟩:=bm.1 h2;rcases lookN b x hx with g1|⟨g1,g0⟩
  ·rcases lookN b' y hy with k1|⟨k1,k0⟩
   ·exact hS.rel.inj b b' (oP (by rw[g1];rfl)) (oP (by rw[k1];rfl)) e
   ·exfalso;exact new_old b b' y (by rw[g1];rfl) k1 k0 (e.trans (old b' y k1 k0).2.2.1)
  ·rcases lookN b' y hy with k1|⟨k1,k0⟩
   ·exfalso;exact new_old b' b x (by rw[k1];rfl) g1 g0 (e.symm.trans (old b x g1 g0).2.2.1)
   ·refine hr.inj b b' (by rw[g1];rfl) (by rw[k1];rfl) ?_;rw[←(old b x g1 g0).2.2.1,←(old b' y k1 k0).2.2.1];exact e
 ·intro b hb;obtain⟨x,hx⟩:=bm.1 hb;cases h:N.get b with
  |none=>rfl
  |some y=>
   exfalso;have:=nocommon b x (fM b x hx) (fM0 b hb);rcases hN b y h with h1|⟨h1,h2⟩
   ·rw[this]at h1;cases h1
   ·have:=hr.apart b hb;rw[h1]at this;cases this
 ·intro b hb;obtain⟨x,hx⟩:=bm.1 hb;rcases hN b x hx with h1|⟨h1,h2⟩
  ·rcases hS.own b (by rw[h1];rfl)with⟨b0,hb0,e0⟩|hge
   ·obtain⟨x0,hx0⟩:=bm.1 hb0;exact .inl ⟨b0,by rw[hsub.m b0 x0 hx0];rfl,e0⟩
   ·exact .inr hge
  ·exact .inl ⟨b,by rw[h1];rfl,((old b x (aq h1) h2).2.2.1).symm⟩
 ·intro r hr' hn;refine hS.frame r hr' fun b hb=>?_;obtain⟨x,hx⟩:=bm.1 hb;exact hn b (by rw[hsub.m b x hx];rfl)
structure Wf(F:RO)(M:Mem)(ct:Nat)(args:List V):Prop where
 ge:1000≤ct
 args:fE (· <ct) args
 lt:∀b blk,look F M b=some blk→b<ct
 bd:∀b blk,look F M b=some blk→f6 (· <ct) blk
 ap:∀b,(aV F b).isSome→M.get b=none
theorem b50{P:Program}{E:cE}{F:RO}{M:Mem}{c:Nat→Prop}{w:World}{ct:Nat}{args:List V}(hr:jl P E F M c w)(hbig:∀g,g<1000→c g)(hf:fZ c ct)(ha:fE c args):Wf F M ct args:=by
 have hlt:∀b,c b→b<ct:=fun b hb=>by
  by_cases h:b<ct
  ·exact h
  ·exact absurd hb (hf b (by omega))
 refine⟨?_,kX hlt args ha,fun b blk hb=>hlt b (hr.has b blk hb).1,fun b blk hb=>fq hlt blk (hr.has b blk hb).2.1,hr.apart⟩
 by_cases h:1000≤ct
 ·exact h
 ·exact absurd (hbig ct (by omega)) (hf ct (ah _))
mutual
theorem ph{p q:Nat→Prop}:∀v,bd p v→bd q v→bd (fun b=>p b∧q b) v
 | .b _,_,_| .i _ _,_,_| .s _ _,_,_| .p0,_,_| .l0,_,_| .m0,_,_| .f0,_,_| .a0,_,_=>trivial
 | .p _ _,h,g=>⟨h,g⟩
 | .l _ _ _ _,h,g=>⟨h,g⟩
 | .u _ _ _ _ _,h,g=>⟨h,g⟩
 | .ue _ _ _,h,g=>⟨h,g⟩
 | .m _,h,g=>⟨h,g⟩
 | .y _,h,g=>⟨h,g⟩
 | .f _ a e,h,g=>⟨qe a h.1 g.1,qe e h.2 g.2⟩
 | .a _ v,h,g=>ph v h g
 | .g cs,h,g=>qe cs h g
 | .t cs,h,g=>qe cs h g
theorem qe{p q:Nat→Prop}:∀l,fE p l→fE q l→fE (fun b=>p b∧q b) l
 |[],_,_=>trivial
 |v::l,h,g=>⟨ph v h.1 g.1,qe l h.2 g.2⟩
end
theorem NW{p q:Nat→Prop}(blk:bq)(h:f6 p blk)(g:f6 q blk):f6 (fun b=>p b∧q b) blk:=by
 cases blk with
 |cells ty n ex fz str d t=>exact fun k v hk=>ph v (h k v hk) (g k v hk)
 |map es c=>exact fun e he=>⟨ph _ (h e he).1 (g e he).1,ph _ (h e he).2 (g e he).2⟩
 |loop s pe fn tm ps a b d=>exact⟨fun p=>ph _ (h.1 p) (g.1 p),h.2,g.2⟩
 |defs _=>trivial
 |siter _ _ _=>trivial
 |miter m _ _ _=>exact fun b hb=>⟨h b hb,g b hb⟩
theorem bg8{P:Program}(hm:P.follows .mixedOrders=true){Φ:Nat→Option CF}(hΦ:fo P Φ){f:Nat}{g:RO→List V→Mem→Nat→RC}
 (h:∀F args M ct v N ct',g F args M ct= .k v N ct'→Wf F M ct args→ ∃F0 M0 M1 ct1,rA F0 M0 F M∧cu (iu Φ) F0 f args M0 ct (Φ f)= .k v M1 ct1∧ct≤ct'∧bd (· <ct') v∧
  ∀b blk,N.get b=some blk→(M1.get b=some blk∧b<ct'∧f6 (· <ct') blk)∨(M.get b=some blk∧M0.get b=none)):ce P f g:=by
 intro F args M ct v N ct' hg E c w hr hglob hbig hf ha
 obtain⟨F0,M0,M1,ct1,hsub,hc,hle,hbv,hN⟩:=h F args M ct v N ct' hg (b50 hr hbig hf ha)
 obtain⟨fn,h1,h2,h3,hC⟩:=ir (rd:=none) (fn:=0) (F₀:=[]) hΦ (EM hm hΦ) F0 f args M0 ct v M1 ct1 hc E c w (hsub.rel hr) hglob hbig hf ha
 refine⟨fn,h1,h2,h3,hC.mono ?_⟩
 rintro e w' ⟨E',c',rfl,hS,hb,hG⟩
 have hS':=hS.framed hsub hr (N:=N) fun b blk hb=>(hN b blk hb).imp (fun h=>h.1) id
 have hlt:∀b,c b→b<ct:=fun b hb=>by
  by_cases h:b<ct
  ·exact h
  ·exact absurd hb (hf b (by omega))
 have up:∀b,c b→c' b∧b<ct':=fun b hb=>⟨hS.le b hb,Nat.lt_of_lt_of_le (hlt b hb) hle⟩
 refine⟨E',fun b=>c' b∧b<ct',rfl,⟨hS'.ext,up,⟨?_,hS'.rel.inj,hS'.rel.apart⟩,hS'.own,hS'.frame,hS'.size,hS'.os,hS'.output,hS'.tape⟩,ph v hb hbv,⟨hle,fun b hb=>?_⟩⟩
 ·intro b blk hb;obtain⟨g1,g2,g3⟩:=hS'.rel.has b blk hb
  have old:look F M b=some blk→(c' b∧b<ct')∧f6 (fun b=>c' b∧b<ct') blk:=fun ho=>by
   obtain⟨k1,k2,_⟩:=hr.has b blk ho;exact⟨up b k1,fq up blk k2⟩
  have:(c' b∧b<ct')∧f6 (fun b=>c' b∧b<ct') blk:=by
   cases hn:N.get b with
   |some x=>
    rw[aq hn]at hb;obtain rfl:=af hb;rcases hN b _ hn with⟨k1,k2,k3⟩|⟨k1,_⟩
    ·exact⟨⟨g1,k2⟩,NW _ g2 k3⟩
    ·exact old (aq k1)
   |none=>
    rw[aC hn]at hb;exact old (by rw[aC (hr.apart b (by rw[hb];rfl))];exact hb)
  exact⟨this.1,this.2,g3⟩
 ·rcases hG.new b hb.1 with h|h
  ·exact .inl h
  ·exact .inr ⟨h.1,hb.2⟩
def bg(h:List V→Option V)(_:RO)(args:List V)(M:Mem)(c:Nat):RC:=match h args with
 |some v=> .k v M c
 |none=> .f
theorem fK{P:Program}(hm:P.follows .mixedOrders=true){Φ:Nat→Option CF}(hΦ:fo P Φ){f:Nat}{h:List V→Option V}
 (hh:∀args v ct,h args=some v→1000≤ct→bd (fun _=>False) v∧ ∃M1 ct1,cu (iu Φ) [] f args .e ct (Φ f)= .k v M1 ct1):ce P f (bg h):=by
 refine bg8 hm hΦ ?_
 intro F args M ct v N ct' hg hW
 unfold bg at hg
 split at hg
 ·rename_i x hx;injection hg with e1 e2 e3
  subst e1 e2 e3;obtain⟨h1,M1,ct1,h2⟩:=hh args x ct hx hW.ge;exact⟨[],.e,M1,ct1,⟨fun b blk hb=>(by cases hb),fun b blk hb=>(by cases hb),fun b hb=>(by cases hb)⟩,h2,ah _,dp (fun b hb=>hb.elim) x h1,fun b blk hb=> .inr ⟨hb,rfl⟩⟩
 ·cases hg
def wQ(Φ:Nat→Option CF)(f:Nat)(cf:CF):Nat→Option CF:=fun k=>if k=f then some cf else Φ k
theorem dV{P:Program}{Φ:Nat→Option CF}(hΦ:fo P Φ){f:Nat}{g:RO→List V→Mem→Nat→RC}(hg:ce P f g):fo P (wQ Φ f (.orc g)):=by
 intro k cf hk
 unfold wQ at hk
 split at hk
 ·rename_i e;subst e;obtain rfl:=af hk;exact hg
 ·exact hΦ k cf hk
section
variable{Φ:Nat→Option CF}{rd:Option Nat}{fn:Nat}{F:RO}
abbrev K(Φ:Nat→Option CF)(rd:Option Nat)(fn:Nat)(F:RO):Kn:= .mk Φ (iu Φ) rd fn F
def Wp(c:CC)(k:Kn)(s:St)(Q:Ex→St→Prop):Prop:=∃e s',b5 c k s= .k e s'∧Q e s'
def pZ(ops:List CO)(k:Kn)(s:St)(R:St→Prop):Prop:=∃s',du ops k s=some s'∧R s'
def lg(b:CC)(k:Kn)(Q:Ex→St→Prop):Ex→St→Prop
 | .nrm,s=>Wp b k s Q
 |e,s=>Q e s
def fV(id:Nat)(Q:Ex→St→Prop):Ex→St→Prop
 | .ext id',s=>if id'=id then Q .nrm s else Q (.ext id') s
 |e,s=>Q e s
def LG(b:CC)(k:Kn)(Q:Ex→St→Prop):Ex→St→Prop
 | .nrm,s=>Wp (.loop b) k s Q
 |e,s=>Q e s
theorem av0(k:Kn)(s:St)(Q:Ex→St→Prop):Wp .skip k s Q=Q .nrm s:=by
 apply propext;constructor
 ·rintro⟨e,s',h,q⟩;cases h;exact q
 ·exact fun q=>⟨_,_,rfl,q⟩
theorem bx7(k:Kn)(s:St)(Q:Ex→St→Prop):Wp .ret k s Q=Q .ret s:=by
 apply propext;constructor
 ·rintro⟨e,s',h,q⟩;cases h;exact q
 ·exact fun q=>⟨_,_,rfl,q⟩
theorem au9(id:Nat)(k:Kn)(s:St)(Q:Ex→St→Prop):Wp (.exit id) k s Q=Q (.ext id) s:=by
 apply propext;constructor
 ·rintro⟨e,s',h,q⟩;cases h;exact q
 ·exact fun q=>⟨_,_,rfl,q⟩
theorem bx6(ops:List CO)(k:Kn)(s:St)(Q:Ex→St→Prop):Wp (.reg ops) k s Q=pZ ops k s (Q .nrm):=by
 apply propext;constructor
 ·rintro⟨e,s',h,q⟩;have h':qP (du ops k s)= .k e s':=h;cases hs:du ops k s with
  |none=>rw[hs]at h';cases h'
  |some s1=>
   rw[hs]at h';have:Rs.k .nrm s1= .k e s':=h';injection this with e1 e2
   subst e1 e2;exact⟨_,hs,q⟩
 ·rintro⟨s',h,q⟩;exact⟨_,_,show qP (du ops k s)=_ by rw[h];rfl,q⟩
theorem be(a b:CC)(k:Kn)(s:St)(Q:Ex→St→Prop):Wp (.seq a b) k s Q=Wp a k s (lg b k Q):=by
 apply propext;constructor
 ·rintro⟨e,s',h,q⟩;have h':lf (b5 b) k (b5 a k s)= .k e s':=h;cases hs:b5 a k s with
  |f=>rw[hs]at h';cases h'
  |k e1 s1=>
   rw[hs]at h';refine⟨e1,s1,hs,?_⟩;cases e1 with
   |nrm=>exact⟨e,s',h',q⟩
   |ret=>have h2:Rs.k .ret s1= .k e s':=h';injection h2 with a1 a2;subst a1 a2;exact q
   |ext id=>have h2:Rs.k (.ext id) s1= .k e s':=h';injection h2 with a1 a2;subst a1 a2;exact q
   |gto id=>have h2:Rs.k (.gto id) s1= .k e s':=h';injection h2 with a1 a2;subst a1 a2;exact q
 ·rintro⟨e1,s1,h1,q⟩;cases e1 with
  |nrm=>
   obtain⟨e,s',h2,q⟩:=q;exact⟨e,s',show lf (b5 b) k (b5 a k s)=_ by rw[h1];exact h2,q⟩
  |ret=>exact⟨_,_,show lf (b5 b) k (b5 a k s)=_ by rw[h1];rfl,q⟩
  |ext id=>exact⟨_,_,show lf (b5 b) k (b5 a k s)=_ by rw[h1];rfl,q⟩
  |gto id=>exact⟨_,_,show lf (b5 b) k (b5 a k s)=_ by rw[h1];rfl,q⟩
theorem Zb(b:CC)(k:Kn)(Q:Ex→St→Prop)(s:St):lg b k Q .nrm s=Wp b k s Q:=rfl
theorem Zc(b:CC)(k:Kn)(Q:Ex→St→Prop)(s:St):lg b k Q .ret s=Q .ret s:=rfl
theorem Za(b:CC)(k:Kn)(Q:Ex→St→Prop)(s:St)(id:Nat):lg b k Q (.ext id) s=Q (.ext id) s:=rfl
theorem a06(id:Nat)(b:CC)(k:Kn)(s:St)(Q:Ex→St→Prop):Wp (.block id b) k s Q=Wp b k s (fV id Q):=by
 apply propext;constructor
 ·rintro⟨e,s',h,q⟩;have h':fL id (b5 b k s)= .k e s':=h;cases hs:b5 b k s with
  |f=>rw[hs]at h';cases h'
  |k e1 s1=>
   rw[hs]at h';refine⟨e1,s1,hs,?_⟩;cases e1 with
   |nrm=>have h2:Rs.k .nrm s1= .k e s':=h';injection h2 with a1 a2;subst a1 a2;exact q
   |ret=>have h2:Rs.k .ret s1= .k e s':=h';injection h2 with a1 a2;subst a1 a2;exact q
   |gto l=>have h2:Rs.k (.gto l) s1= .k e s':=h';injection h2 with a1 a2;subst a1 a2;exact q
   |ext i=>
    have h2:Bool.rec (motive:=fun _=>Rs) (.k (.ext i) s1) (.k .nrm s1) (Nat.beq i id)= .k e s':=h';rw[bb,bp]at h2;show(if i=id then Q .nrm s1 else Q (.ext i) s1);by_cases hi:i=id
    ·rw[ac (by simpa using hi)]at h2;injection h2 with a1 a2;subst a1 a2
     rw[ac hi];exact q
    ·rw[ab (by simpa using hi)]at h2;injection h2 with a1 a2;subst a1 a2
     rw[ab hi];exact q
 ·rintro⟨e1,s1,h1,q⟩;cases e1 with
  |nrm=>exact⟨_,_,show fL id (b5 b k s)=_ by rw[h1];rfl,q⟩
  |ret=>exact⟨_,_,show fL id (b5 b k s)=_ by rw[h1];rfl,q⟩
  |gto l=>exact⟨_,_,show fL id (b5 b k s)=_ by rw[h1];rfl,q⟩
  |ext i=>
   have h2:fL id (b5 b k s)=Bool.rec (motive:=fun _=>Rs) (.k (.ext i) s1) (.k .nrm s1) (Nat.beq i id):=by rw[h1];rfl
   rw[bb,bp]at h2;replace q:(if i=id then Q .nrm s1 else Q (.ext i) s1):=q;by_cases hi:i=id
   ·rw[ac (by simpa using hi)]at h2;rw[ac hi]at q;exact⟨_,_,h2,q⟩
   ·rw[ab (by simpa using hi)]at h2;rw[ab hi]at q;exact⟨_,_,h2,q⟩
theorem Et(id:Nat)(Q:Ex→St→Prop)(s:St):fV id Q .nrm s=Q .nrm s:=rfl
theorem Eu(id:Nat)(Q:Ex→St→Prop)(s:St):fV id Q .ret s=Q .ret s:=rfl
theorem Es(id i:Nat)(Q:Ex→St→Prop)(s:St):fV id Q (.ext i) s=if i=id then Q .nrm s else Q (.ext i) s:=rfl
theorem Np(b:CC)(s:St)(Q:Ex→St→Prop):Wp (.loop b) (K Φ rd fn F) s Q=Wp b (K Φ rd fn F) s (LG b (K Φ rd fn F) Q):=by
 apply propext;constructor
 ·rintro⟨e,s',h,q⟩;have h':gV b (K Φ rd fn F) (b5 b (K Φ rd fn F) s)= .k e s':=h;cases hs:b5 b (K Φ rd fn F) s with
  |f=>rw[hs]at h';cases h'
  |k e1 s1=>
   rw[hs]at h';refine⟨e1,s1,hs,?_⟩;cases e1 with
   |nrm=>
    have h2:iu Φ rd fn F (.loop b) s1= .k e s':=h';rw[EL]at h2;exact⟨e,s',h2,q⟩
   |ret=>have h2:Rs.k .ret s1= .k e s':=h';injection h2 with a1 a2;subst a1 a2;exact q
   |ext id=>have h2:Rs.k (.ext id) s1= .k e s':=h';injection h2 with a1 a2;subst a1 a2;exact q
   |gto id=>have h2:Rs.k (.gto id) s1= .k e s':=h';injection h2 with a1 a2;subst a1 a2;exact q
 ·rintro⟨e1,s1,h1,q⟩;cases e1 with
  |nrm=>
   obtain⟨e,s',h2,q⟩:=q;refine⟨e,s',show gV b (K Φ rd fn F) (b5 b (K Φ rd fn F) s)=_ from ?_,q⟩;rw[h1];show iu Φ rd fn F (.loop b) s1=_;rw[EL];exact h2
  |ret=>exact⟨_,_,show gV b (K Φ rd fn F) (b5 b (K Φ rd fn F) s)=_ by rw[h1];rfl,q⟩
  |ext id=>exact⟨_,_,show gV b (K Φ rd fn F) (b5 b (K Φ rd fn F) s)=_ by rw[h1];rfl,q⟩
  |gto id=>exact⟨_,_,show gV b (K Φ rd fn F) (b5 b (K Φ rd fn F) s)=_ by rw[h1];rfl,q⟩
theorem OD(b:CC)(k:Kn)(Q:Ex→St→Prop)(s:St):LG b k Q .nrm s=Wp (.loop b) k s Q:=rfl
theorem OE(b:CC)(k:Kn)(Q:Ex→St→Prop)(s:St):LG b k Q .ret s=Q .ret s:=rfl
theorem OC(b:CC)(k:Kn)(Q:Ex→St→Prop)(s:St)(id:Nat):LG b k Q (.ext id) s=Q (.ext id) s:=rfl
theorem Wp.mono{c:CC}{k:Kn}{s:St}{Q Q':Ex→St→Prop}(h:Wp c k s Q)(hq:∀e s',Q e s'→Q' e s'):Wp c k s Q':=by
 obtain⟨e,s',h1,q⟩:=h
 exact⟨e,s',h1,hq e s' q⟩
theorem Pv{b:CC}{Q:Ex→St→Prop}(I:Nat→St→Prop)(h:∀n s,I n s→Wp b (K Φ rd fn F) s fun e s'=>match e with| .nrm=>∃m,m<n∧I m s'|e=>Q e s'):∀n s,I n s→Wp (.loop b) (K Φ rd fn F) s Q:=by
 intro n
 induction n using Nat.strongRecOn with
 |_ n ih=>
  intro s hs;rw[Np];refine(h n s hs).mono fun e s' he=>?_;cases e with
  |nrm=>obtain⟨m,hm,hI⟩:=he;exact ih m hm s' hI
  |_=>exact he
theorem Dn{x:X}{a b:CC}{k:Kn}{t:T}{d:List Nat}{M:Mem}{c:Nat}{Q:Ex→St→Prop}(hx:x.ev t= .b true):Wp (.cond x a b) k (.mk t d M c) Q=Wp a k (.mk t d M c) Q:=by
 have he:b5 (.cond x a b) k (.mk t d M c)=b5 a k (.mk t d M c):=by
  show jI x a b (b5 a) (b5 b) k (.mk t d M c)=_;unfold jI;show LX (x.ev t) _ _=_;rw[hx];rfl
 unfold Wp;rw[he]
theorem Dm{x:X}{a b:CC}{k:Kn}{t:T}{d:List Nat}{M:Mem}{c:Nat}{Q:Ex→St→Prop}(hx:x.ev t= .b false):Wp (.cond x a b) k (.mk t d M c) Q=Wp b k (.mk t d M c) Q:=by
 have he:b5 (.cond x a b) k (.mk t d M c)=b5 b k (.mk t d M c):=by
  show jI x a b (b5 a) (b5 b) k (.mk t d M c)=_;unfold jI;show LX (x.ev t) _ _=_;rw[hx];rfl
 unfold Wp;rw[he]
theorem bx5(k:Kn)(s:St)(R:St→Prop):pZ [] k s R=R s:=by
 apply propext;constructor
 ·rintro⟨s',h,q⟩;cases h;exact q
 ·exact fun q=>⟨_,rfl,q⟩
theorem hY(o:CO)(r:List CO)(k:Kn)(s:St)(R:St→Prop):pZ (o::r) k s R↔ ∃s',eD o k s=some s'∧pZ r k s' R:=by
 constructor
 ·rintro⟨s',h,q⟩;have h':lZ (du r) k (eD o k s)=some s':=h;cases hs:eD o k s with
  |none=>rw[hs]at h';cases h'
  |some s1=>rw[hs]at h';exact⟨s1,rfl,s',h',q⟩
 ·rintro⟨s1,h1,s',h2,q⟩;exact⟨s',show lZ (du r) k (eD o k s)=some s' by rw[h1];exact h2,q⟩
def QR.to{β:Type}(r:QR)(f:β)(g:V→β):β:=match r with
 | .f=>f
 | .v x=>g x
 | .r x _=>g x
theorem cM9{p:aH}{o:QO}{r:List CO}{k:Kn}{t:T}{d:List Nat}{M:Mem}{c:Nat}{R:St→Prop}{x:V}(h:(cS o k.F M t).val=some x):
 pZ (.mk (some p) (.q o) none::r) k (.mk t d M c) R=pZ r k (.mk (t.setP p x) d M c) R:=by
 have hs:eD (.mk (some p) (.q o) none) k (.mk t d M c)=some (.mk (t.setP p x) d M c):=by
  show ap4 (some p) t d M c (cS o k.F M t)=_;cases hq:cS o k.F M t with
  |f=>rw[hq]at h;cases h
  |v y=>rw[hq]at h;obtain rfl:=af h;exact gU _ _ _ _ _ _
  |r y b=>rw[hq]at h;obtain rfl:=af h;exact gU _ _ _ _ _ _
 apply propext
 rw[hY,hs]
 constructor
 ·rintro⟨s',h,q⟩;obtain rfl:=af h;exact q
 ·exact fun q=>⟨_,rfl,q⟩
theorem cM8{p:aH}{o:AO}{r:List CO}{k:Kn}{t:T}{d:List Nat}{M:Mem}{c:Nat}{R:St→Prop}{v:V}{blk:bq}(h:kl o c t=some (v,blk)):
 pZ (.mk (some p) (.a o) none::r) k (.mk t d M c) R=pZ r k (.mk (t.setP p v) d (M.set c blk) (c+1)) R:=by
 have hs:eD (.mk (some p) (.a o) none) k (.mk t d M c)=some (.mk (t.setP p v) d (M.set c blk) (c+1)):=by
  show ap3 (some p) t d M c (kl o c t)=_;rw[h];show Z6 (some p) t d M c v blk=_;unfold Z6;rw[Tr.force_eq,aN,gU];rfl
 apply propext
 rw[hY,hs]
 constructor
 ·rintro⟨s',h,q⟩;obtain rfl:=af h;exact q
 ·exact fun q=>⟨_,rfl,q⟩
theorem cq6{dst:Option aH}{o:EO}{r:List CO}{k:Kn}{t:T}{d:List Nat}{M M':Mem}{c c':Nat}{R:St→Prop}{v:V}(h:gG o k M c t= .k v M' c'):
 pZ (.mk dst (.e o) none::r) k (.mk t d M c) R=pZ r k (.mk (setT t dst v) d M' c') R:=by
 have hs:eD (.mk dst (.e o) none) k (.mk t d M c)=some (.mk (setT t dst v) d M' c'):=by
  show xZ dst t d (gG o k M c t)=_;rw[h];exact gU _ _ _ _ _ _
 apply propext
 rw[hY,hs]
 constructor
 ·rintro⟨s',h,q⟩;obtain rfl:=af h;exact q
 ·exact fun q=>⟨_,rfl,q⟩
theorem cq8{dst:Option aH}{o:OK}{g:aH}{want:Bool}{r:List CO}{k:Kn}{t:T}{d:List Nat}{M:Mem}{c:Nat}{R:St→Prop}(hg:cq t g= .b want):
 pZ (.mk dst o (some (g,want))::r) k (.mk t d M c) R=pZ (.mk dst o none::r) k (.mk t d M c) R:=by
 have hw:wanted t (some (g,want))=true:=by
  show iN want (cq t g)=_;rw[hg];cases want<;>rfl
 have hs:eD (.mk dst o (some (g,want))) k (.mk t d M c)=eD (.mk dst o none) k (.mk t d M c):=by
  show s_w o k dst t d M c (wanted t (some (g,want)))=_;rw[hw];rfl
 apply propext
 rw[hY,hY,hs]
theorem cq7{dst:Option aH}{o:OK}{g:aH}{want:Bool}{r:List CO}{k:Kn}{t:T}{d:List Nat}{M:Mem}{c:Nat}{R:St→Prop}(hg:cq t g= .b (!want)):
 pZ (.mk dst o (some (g,want))::r) k (.mk t d M c) R=pZ r k (.mk (setT t dst undef) d M c) R:=by
 have hw:wanted t (some (g,want))=false:=by
  show iN want (cq t g)=_;rw[hg];cases want<;>rfl
 have hs:eD (.mk dst o (some (g,want))) k (.mk t d M c)=some (.mk (setT t dst undef) d M c):=by
  show s_w o k dst t d M c (wanted t (some (g,want)))=_;rw[hw];exact gU _ _ _ _ _ _
 apply propext
 rw[hY,hs]
 constructor
 ·rintro⟨s',h,q⟩;obtain rfl:=af h;exact q
 ·exact fun q=>⟨_,rfl,q⟩
theorem cq9{dst:Option aH}{o:OK}{g:aH}{want:Bool}{r:List CO}{k:Kn}{t:T}{d:List Nat}{M:Mem}{c:Nat}{R:St→Prop}(hg:cq t g=undef):
 pZ (.mk dst o (some (g,want))::r) k (.mk t d M c) R=pZ r k (.mk (setT t dst undef) d M c) R:=by
 have hw:wanted t (some (g,want))=false:=by
  show iN want (cq t g)=_;rw[hg];rfl
 have hs:eD (.mk dst o (some (g,want))) k (.mk t d M c)=some (.mk (setT t dst undef) d M c):=by
  show s_w o k dst t d M c (wanted t (some (g,want)))=_;rw[hw];exact gU _ _ _ _ _ _
 apply propext
 rw[hY,hs]
 constructor
 ·rintro⟨s',h,q⟩;obtain rfl:=af h;exact q
 ·exact fun q=>⟨_,rfl,q⟩
def Q(n:Nat):aH:=bk n
def PT(o:Option (List V))(M:Mem)(c:Nat)(Post:V→Mem→Nat→Prop):Prop:=match o with
 |none=>False
 |some vs=>Post (tY vs) M c
def b60(o:Option Mem)(F:RO)(t:T)(res:List RV)(c:Nat)(Post:V→Mem→Nat→Prop):Prop:=match o with
 |none=>False
 |some M=>PT (eR F M t res) M c Post
def cX(F:RO)(res:List RV)(Post:V→Mem→Nat→Prop):Ex→St→Prop
 | .nrm,.mk t d M c=>b60 (eu d M) F t res c Post
 | .ret,.mk t d M c=>b60 (eu d M) F t res c Post
 |_,_=>False
theorem XS(F:RO)(res:List RV)(Post:V→Mem→Nat→Prop)(t:T)(M:Mem)(c:Nat):cX F res Post .nrm (.mk t [] M c)=PT (eR F M t res) M c Post:=rfl
theorem XT(F:RO)(res:List RV)(Post:V→Mem→Nat→Prop)(t:T)(M:Mem)(c:Nat):cX F res Post .ret (.mk t [] M c)=PT (eR F M t res) M c Post:=rfl
theorem cz9(vs:List V)(M:Mem)(c:Nat)(Post:V→Mem→Nat→Prop):PT (some vs) M c Post=Post (tY vs) M c:=rfl
def yw(v:V):Option (List V)→Option (List V)
 |some l=>some (v::l)
 |none=>none
theorem EF(v:V)(l:List V):yw v (some l)=some (v::l):=rfl
theorem P7(F:RO)(M:Mem)(t:T):eR F M t []=some []:=rfl
theorem bi2(F:RO)(M:Mem)(t:T)(p:aH)(r:List RV):eR F M t (.t p::r)=yw (cq t p) (eR F M t r):=by
 show u7 (cq t p) (eR F M t r)=_
 cases eR F M t r<;>rfl
theorem YG(v:V):tY [v]=v:=rfl
theorem YH(v w:V)(l:List V):tY (v::w::l)= .t (v::w::l):=rfl
theorem yr{f n:Nat}{res:List RV}{body:CC}{args:List V}{M:Mem}{c:Nat}{Post:V→Mem→Nat→Prop}(hf:Φ f=some (.mk n res body))
 (h:Wp body (K Φ none f F) (.mk (bh n args) [] M c) (cX F res Post)):∃v M' c',cu (iu Φ) F f args M c (Φ f)= .k v M' c'∧Post v M' c':=by
 obtain⟨e,s,h1,hq⟩:=h
 obtain⟨t,d,M1,c1⟩:=s
 have hend:Lz e=true∧b60 (eu d M1) F t res c1 Post:=by
  cases e with
  |nrm=>exact⟨rfl,hq⟩
  |ret=>exact⟨rfl,hq⟩
  |ext id=>exact hq.elim
  |gto l=>exact hq.elim
 have hcall:cu (iu Φ) F f args M c (some (.mk n res body))=Bool.rec (motive:=fun _=>RC) .f (A9 res F t c1 (eu d M1)) (Lz e):=by
  show n8 res F (iu Φ none f F body (.mk (bh n args) [] M c))=_;rw[EL,h1];rfl
 rw[hf,hcall,hend.1]
 have h2:=hend.2
 cases hd:eu d M1 with
 |none=>rw[hd]at h2;exact h2.elim
 |some M2=>
  rw[hd]at h2;have h3:PT (eR F M2 t res) M2 c1 Post:=h2;cases hr:eR F M2 t res with
  |none=>rw[hr]at h3;exact h3.elim
  |some vs=>
   rw[hr]at h3;exact⟨tY vs,M2,c1,show Aa c1 M2 (eR F M2 t res)=_ by rw[hr];rfl,h3⟩
end
section
variable{Φ:Nat→Option CF}{rd:Option Nat}{fn:Nat}{F:RO}
def bB7(o:Option V)(p:aH)(r:List CO)(k:Kn)(t:T)(d:List Nat)(M:Mem)(c:Nat)(R:St→Prop):Prop:=match o with
 |none=>False
 |some x=>pZ r k (.mk (t.setP p x) d M c) R
def bB6(o:Option (V×bq))(p:aH)(r:List CO)(k:Kn)(t:T)(d:List Nat)(M:Mem)(c:Nat)(R:St→Prop):Prop:=match o with
 |none=>False
 |some x=>pZ r k (.mk (t.setP p x.1) d (M.set c x.2) (c+1)) R
def b63(o:RC)(p:aH)(r:List CO)(k:Kn)(t:T)(d:List Nat)(R:St→Prop):Prop:=match o with
 | .f=>False
 | .k v M c=>pZ r k (.mk (t.setP p v) d M c) R
def ay6(o:RC)(r:List CO)(k:Kn)(t:T)(d:List Nat)(R:St→Prop):Prop:=match o with
 | .f=>False
 | .k v M c=>pZ r k (.mk t d M c) R
theorem cH3(x:V)(p:aH)(r:List CO)(k:Kn)(t:T)(d:List Nat)(M:Mem)(c:Nat)(R:St→Prop):bB7 (some x) p r k t d M c R=pZ r k (.mk (t.setP p x) d M c) R:=rfl
theorem cH1(v:V)(b:bq)(p:aH)(r:List CO)(k:Kn)(t:T)(d:List Nat)(M:Mem)(c:Nat)(R:St→Prop):bB6 (some (v,b)) p r k t d M c R=pZ r k (.mk (t.setP p v) d (M.set c b) (c+1)) R:=rfl
theorem cH2(v:V)(M:Mem)(c:Nat)(p:aH)(r:List CO)(k:Kn)(t:T)(d:List Nat)(R:St→Prop):b63 (.k v M c) p r k t d R=pZ r k (.mk (t.setP p v) d M c) R:=rfl
theorem cc3(v:V)(M:Mem)(c:Nat)(r:List CO)(k:Kn)(t:T)(d:List Nat)(R:St→Prop):ay6 (.k v M c) r k t d R=pZ r k (.mk t d M c) R:=rfl
theorem cN2(p:aH)(o:QO)(r:List CO)(t:T)(d:List Nat)(M:Mem)(c:Nat)(R:St→Prop):
 pZ (.mk (some p) (.q o) none::r) (K Φ rd fn F) (.mk t d M c) R=bB7 (cS o F M t).val p r (K Φ rd fn F) t d M c R:=by
 cases h:(cS o F M t).val with
 |some x=>rw[cM9 (k:=K Φ rd fn F) h];rfl
 |none=>
  apply propext;rw[hY];constructor
  ·rintro⟨s',h1,_⟩;have h1':ap4 (some p) t d M c (cS o F M t)=some s':=h1;cases hq:cS o F M t with
   |f=>rw[hq]at h1';cases h1'
   |v y=>rw[hq]at h;cases h
   |r y b=>rw[hq]at h;cases h
  ·exact False.elim
theorem cN0(p:aH)(o:AO)(r:List CO)(t:T)(d:List Nat)(M:Mem)(c:Nat)(R:St→Prop):
 pZ (.mk (some p) (.a o) none::r) (K Φ rd fn F) (.mk t d M c) R=bB6 (kl o c t) p r (K Φ rd fn F) t d M c R:=by
 cases h:kl o c t with
 |some x=>rw[cM8 (k:=K Φ rd fn F) (v:=x.1) (blk:=x.2) h];rfl
 |none=>
  apply propext;rw[hY];constructor
  ·rintro⟨s',h1,_⟩;have h1':ap3 (some p) t d M c (kl o c t)=some s':=h1;rw[h]at h1';cases h1'
  ·exact False.elim
theorem cN1(p:aH)(o:EO)(r:List CO)(t:T)(d:List Nat)(M:Mem)(c:Nat)(R:St→Prop):
 pZ (.mk (some p) (.e o) none::r) (K Φ rd fn F) (.mk t d M c) R=b63 (gG o (K Φ rd fn F) M c t) p r (K Φ rd fn F) t d R:=by
 cases h:gG o (K Φ rd fn F) M c t with
 |k v M' c'=>rw[cq6 h];rfl
 |f=>
  apply propext;rw[hY];constructor
  ·rintro⟨s',h1,_⟩;have h1':xZ (some p) t d (gG o (K Φ rd fn F) M c t)=some s':=h1;rw[h]at h1';cases h1'
  ·exact False.elim
theorem cr3(o:EO)(r:List CO)(t:T)(d:List Nat)(M:Mem)(c:Nat)(R:St→Prop):
 pZ (.mk none (.e o) none::r) (K Φ rd fn F) (.mk t d M c) R=ay6 (gG o (K Φ rd fn F) M c t) r (K Φ rd fn F) t d R:=by
 cases h:gG o (K Φ rd fn F) M c t with
 |k v M' c'=>rw[cq6 h];rfl
 |f=>
  apply propext;rw[hY];constructor
  ·rintro⟨s',h1,_⟩;have h1':xZ none t d (gG o (K Φ rd fn F) M c t)=some s':=h1;rw[h]at h1';cases h1'
  ·exact False.elim
theorem av6(f:Nat)(as0:List X)(M:Mem)(c:Nat)(t:T):gG (.call f as0) (K Φ rd fn F) M c t=cu (iu Φ) F f (evs as0 t) M c (Φ f):=rfl
theorem O3(F:RO)(f:Nat)(args:List V)(M:Mem)(c:Nat)(g:RO→List V→Mem→Nat→RC):cu (iu Φ) F f args M c (some (.orc g))=g F args M c:=rfl
theorem be3(l r:T)(v:V):cq (Tr.n l (some v) r) .h=v:=Eq.trans (rfl:_=v) (Eq.refl v)
theorem be5(l r:T):cq (Tr.n l none r) .h=undef:=Eq.trans (rfl:_=undef) (Eq.refl undef)
theorem be4(l r:T)(v:Option V)(p:aH):cq (Tr.n l v r) (.l p)=cq l p:=Eq.trans (rfl:_=cq l p) (Eq.refl _)
theorem be6(l r:T)(v:Option V)(p:aH):cq (Tr.n l v r) (.r p)=cq r p:=Eq.trans (rfl:_=cq r p) (Eq.refl _)
theorem ev_t(p:aH)(t:T):(X.t p).ev t=cq t p:=rfl
theorem ev_c(v:V)(t:T):(X.c v).ev t=v:=rfl
theorem aj3(t:T):evs [] t=[]:=rfl
theorem XZ(x:X)(l:List X)(t:T):evs (x::l) t=x.ev t::evs l t:=rfl
theorem cL6(x:X)(M:Mem)(t:T):(cS (.mv x) F M t).val=some (x.ev t):=rfl
def pkV:V→V→V→Option V
 | .b x,a,b=>some (bif x then a else b)
 |_,_,_=>none
theorem cj9(c a b:X)(M:Mem)(t:T):(cS (.pk c a b) F M t).val=pkV (c.ev t) (a.ev t) (b.ev t):=by
 show(P3 c a b F M t).val=_
 unfold P3 pkV
 cases c.ev t with
 |b x=>cases x<;>rfl
 |_=>rfl
theorem cc0(a b:V):pkV (.b true) a b=some a:=rfl
theorem cb9(a b:V):pkV (.b false) a b=some b:=rfl
def bD(op:BinOp):V→V→Option V
 | .i k a,.i k' b=>(fS op k a k' b).val
 | .s n a,.s m b=>(Xk op n a m b).val
 |_,_=>none
theorem bk0(op:BinOp)(x y:X)(M:Mem)(t:T):(cS (.bi op x y) F M t).val=bD op (x.ev t) (y.ev t):=by
 show(CP op x y F M t).val=_
 unfold CP bD
 cases x.ev t with
 |i k a=>
  show(wg (y.ev t) QR.f fun k' b=>fS op k a k' b).val=_;cases y.ev t<;>rfl
 |s n a=>
  show(oT (y.ev t) QR.f fun m b=>Xk op n a m b).val=_;cases y.ev t<;>rfl
 |_=>cases y.ev t<;>rfl
theorem gL(k:IntKind)(a b:Int):bD .add (.i k a) (.i k b)=some (.i k (k.wrap (a+b))):=by
 cases k<;>simp[bD,fS,eC,pj,aZ0,ii,rS,dW,iZ,Ha,QR.val]
theorem eF(k:IntKind)(a b:Int):bD .sub (.i k a) (.i k b)=some (.i k (k.wrap (a-b))):=by
 show _=some (V.i k (k.wrap (Int.sub a b)))
 cases k<;>simp[bD,fS,eC,pj,aZ9,ii,rS,dW,iZ,QR.val]
theorem b90(k:IntKind)(a b:Int):bD .lss (.i k a) (.i k b)=some (.b (decide (a<b))):=by
 cases k<;>simp[bD,fS,eC,pj,aZ6,ii,rS,nH,gg,QR.val]
theorem b88(k:IntKind)(a b:Int):bD .gtr (.i k a) (.i k b)=some (.b (decide (b<a))):=by
 cases k<;>simp[bD,fS,eC,pj,aZ4,ii,rS,nH,gg,QR.val]
theorem dle(a b:Int):decide (a≤b)= !decide (b<a):=by
 by_cases h:b<a
 ·rw[ae h,ag (by omega)];rfl
 ·rw[ag h,ae (by omega)];rfl
theorem b89(k:IntKind)(a b:Int):bD .leq (.i k a) (.i k b)=some (.b (decide (a≤b))):=by
 cases k<;>simp[bD,fS,eC,pj,aZ5,ii,rS,nH,gg,iL,QR.val,dle,-decide_not,-Int.not_lt]
theorem b87(k:IntKind)(a b:Int):bD .geq (.i k a) (.i k b)=some (.b (decide (b≤a))):=by
 cases k<;>simp[bD,fS,eC,pj,aZ3,ii,rS,nH,gg,iL,QR.val,dle,-decide_not,-Int.not_lt]
theorem En(k:IntKind)(a b:Int):bD .eql (.i k a) (.i k b)=some (.b (decide (a=b))):=by
 cases k<;>simp[bD,fS,eC,pj,aZ2,ii,rS,nH,cB,QR.val]
theorem b91(k:IntKind)(a b:Int):bD .neq (.i k a) (.i k b)=some (.b (decide (a≠b))):=by
 cases k<;>simp[bD,fS,eC,pj,aZ8,ii,rS,nH,cB,iL,QR.val]
def unV(op:UnOp)(x:V):Option V:=(cS (.un op (.c x)) [] .e .e).val
theorem ck0(op:UnOp)(x:X)(M:Mem)(t:T):(cS (.un op x) F M t).val=unV op (x.ev t):=by
 cases op<;>rfl
theorem bj7(x:Bool):unV .not (.b x)=some (.b (!x)):=by cases x<;>rfl
def lnV(sh:Sh)(F:RO)(M:Mem)(x:V):Option V:=(cS (.ln sh (.c x)) F M .e).val
theorem bk1(sh:Sh)(x:X)(M:Mem)(t:T):(cS (.ln sh x) F M t).val=lnV sh F M (x.ev t):=by
 cases sh<;>rfl
theorem lnS(n x:Nat)(M:Mem):lnV .str F M (.s n x)=some (.i .i64 (n:Int)):=rfl
def rP(x i:V):Option V:=(cS (.ixS (.c x) (.c i)) [] .e .e).val
theorem b27(x i:X)(M:Mem)(t:T):(cS (.ixS x i) F M t).val=rP (x.ev t) (i.ev t):=rfl
end
def wM(k:IntKind):List Int→List V
 |[]=>[]
 |z::r=> .i k z::wM k r
def sq(ty:Nat)(k:IntKind)(zs:List Int):bq:= .cells ty zs.length false zs.length true [] (aW (wM k zs) 0 .e)
abbrev eT:=Nat×IntKind×List Int
def mc:List eT→(Nat→Nat)→RO
 |[],_=>[]
 |(g,k,zs)::r,ty=>(g,sq (ty g) k zs)::mc r ty
def yk(W:World)(t:eT):Prop:=∃ty fr,W.heap[t.1]?=some (.cells (t.2.2.map fun z=>Value.int t.2.1 z).toArray ty fr)
theorem oc(k:IntKind)(zs:List Int):wM k zs=zs.map (V.i k):=by
 induction zs with
 |nil=>rfl
 |cons z r ih=>rw[wM,ih];rfl
theorem bj5{c:Nat→Prop}{ty:Nat}{k:IntKind}{zs:List Int}:f6 c (sq ty k zs):=by
 intro j v hv
 rw[cd]at hv
 split at hv
 ·rename_i hj;rw[dq]at hv;have hlen:(wM k zs).length=zs.length:=by rw[oc];simp
  rw[ac (by omega)]at hv;rw[oc]at hv;simp only[Nat.sub_zero,List.getElem?_map]at hv;rw[List.getElem?_eq_getElem hj]at hv;simp only[Option.map_some]at hv;obtain rfl:=af hv;trivial
 ·cases hv
theorem r6{L:List eT}{ty:Nat→Nat}{b:Nat}{blk:bq}(h:aV (mc L ty) b=some blk):∃t∈L,t.1=b∧blk=sq (ty b) t.2.1 t.2.2:=by
 induction L with
 |nil=>cases h
 |cons t r ih=>
  obtain⟨g,k,zs⟩:=t;have h':Bool.rec (motive:=fun _=>Option bq) (aV (mc r ty) b) (some (sq (ty g) k zs)) (Nat.beq g b)=some blk:=h;rw[bb,bp]at h';by_cases e:g=b
  ·rw[ac (by simpa using e)]at h';subst e;exact⟨_,bK ..,rfl,(af h').symm⟩
  ·rw[ab (by simpa using e)]at h';obtain⟨t,ht,h1,h2⟩:=ih h';exact⟨t,bz _ ht,h1,h2⟩
theorem oX{P:Program}{W:World}{name:String}{k:IntKind}{zs:List Int}{g:Nat}{t e:TypeId}{n:Nat}
 (hg:P.globalNamed name=some g) (hty:(P.globals[g]?).map (·.type)=some t) (ht:P.underlying t=some (.array n e)) (he:P.underlying e=some (.int k)) (hce:P.cellsOf e=1) (hct:P.cellsOf t=n):
 ∀{laid:List (String×DataW Unit)} {ps:List MemPlace},(name,Lib.tabData k zs)∈laid→DataW.LaidVars P W laid ps→yk W (g,k,zs)
 |x::r,ps,hm,h=>by
  obtain⟨g',t',cs,fuel,p,q,hg',ht',hvar,hd,hr,_⟩:=h;rcases bj.1 hm with e1|hm'
  ·subst e1;obtain rfl:=af (hg.symm.trans hg');obtain rfl:=af (hty.symm.trans ht');have hcs:=Lib.cells_of_tab ht he hce hct hd;unfold World.var? at hvar;rw[hg]at hvar;simp only[Option.bind_some]at hvar;split at hvar
   ·rename_i cs' ty fr hh;obtain rfl:=af hvar;refine⟨ty,fr,?_⟩;show W.heap[g]?=_;rw[hh,←hcs]
   ·cases hvar
  ·exact oX hg hty ht he hce hct hm' hr
theorem wL{P:Program}{W:World}{name:String}{k:IntKind}{zs:List Int}{g:Nat}{t e:TypeId}{n:Nat}
 (hg:P.globalNamed name=some g) (hty:(P.globals[g]?).map (·.type)=some t) (ht:P.underlying t=some (.array n e)) (he:P.underlying e=some (.int k)) (hce:P.cellsOf e=1) (hct:P.cellsOf t=n)
 {laid:List (String×DataW Unit)} (hm:(name,Lib.tabData k zs)∈laid) (h:laidMet P laid W):yk W (g,k,zs):=by
 obtain⟨ps,hv,_⟩:=h
 exact oX hg hty ht he hce hct hm hv
def FS(k:IntKind)(z:Int):V→Bool
 | .i k' z'=>ii k k'&&Ob z z'
 |_=>false
def jX(n:Nat)(d:List V)(c:T)(k:IntKind):List Int→Nat→Bool
 |[],i=>Nat.beq i n
 |z::r,i=>match cell n d c i with
  |some v=>FS k z v&&jX n d c k r (Nat.succ i)
  |none=>false
def jY(F:RO)(t:eT):Bool:=match aV F t.1 with
 |some (.cells _ n false fz true d c)=>Nat.beq fz n&&jX n d c t.2.1 t.2.2 0
 |_=>false
def bA(F:RO):List eT→Bool
 |[]=>true
 |t::r=>Nat.blt t.1 1000&&(jY F t&&bA F r)
theorem ma{n:Nat}{d:List V}{c:T}{k:IntKind}:∀{zs:List Int} {i:Nat},jX n d c k zs i=true→i+zs.length=n∧ ∀j z,zs[j]?=some z→cell n d c (i+j)=some (.i k z)
 |[],i,h=>by
  have:decide (i=n)=true:=by rw[←bp];exact h
  exact⟨by simpa using this,fun j z hz=>by simp at hz⟩
 |z::r,i,h=>by
  unfold jX at h;split at h
  ·rename_i v hv;rw[aD]at h;obtain⟨h1,h2⟩:=h;obtain⟨h3,h4⟩:=ma h2;have hve:v= .i k z:=by
    unfold FS at h1;split at h1
    ·rename_i k' z';rw[aD,eX,cB]at h1;have a1:=bc h1.1;have a2:=bc h1.2;rw[a1,a2]
    ·cases h1
   refine⟨by simp only[aX];omega,fun j z' hz=>?_⟩;cases j with
   |zero=>simp at hz;subst hz;rw[←hve];exact hv
   |succ j=>
    rw[show i+(j+1)=Nat.succ i+j by omega];exact h4 j z' (by simpa using hz)
  ·cases h
theorem Zw{ty:Nat}{k:IntKind}{zs:List Int}{j:Nat}{v:V}(h:cell zs.length [] (aW (wM k zs) 0 .e) j=some v):∃z,zs[j]?=some z∧v= .i k z:=by
 rw[cd]at h
 split at h
 ·rename_i hj;rw[dq]at h;have hlen:(wM k zs).length=zs.length:=by rw[oc];simp
  rw[ac (by omega)]at h;rw[oc]at h;simp only[Nat.sub_zero,List.getElem?_map]at h;rw[List.getElem?_eq_getElem hj]at h;simp only[Option.map_some]at h;exact⟨zs[j],List.getElem?_eq_getElem hj,(af h).symm⟩
 ·cases h
theorem Zv{P:Program}{E:cE}{F:RO}{M:Mem}{c:Nat→Prop}{w:World}{t:eT}(hr:jl P E F M c w)(h:jY F t=true):∃ty o,w.heap[E.ρ t.1]?=some o∧eY P E t.1 (sq ty t.2.1 t.2.2) o:=by
 unfold jY at h
 split at h
 ·rename_i ty n fz d cs hF;rw[aD,bp]at h;obtain⟨h0,h⟩:=h;have h0:=bc h0;subst h0;obtain⟨h1,h2⟩:=ma h;have hl:look F M t.1=some (.cells ty fz false fz true d cs):=by
   rw[aC (hr.apart t.1 (by rw[hF];rfl))];exact hF
  obtain⟨_,_,o,ho,arr,fr,rfl,hc⟩:=hr.has _ _ hl;have hn:t.2.2.length=fz:=by omega
  subst hn;refine⟨ty,_,ho,arr,fr,rfl,?_,hc.size,hc.free,hc.plain⟩;intro j v hv;obtain⟨z,hz,rfl⟩:=Zw (ty:=ty) hv;refine hc.cell j _ ?_;have:=h2 j z hz
  rwa [Nat.zero_add]at this
 ·cases h
theorem iD{F:RO}:∀{L:List eT},bA F L=true→ ∀t∈L,t.1<1000∧jY F t=true
 |[],_,t,ht=>by cases ht
 |x::r,h,t,ht=>by
  have h':(Nat.blt x.1 1000&&(jY F x&&bA F r))=true:=h;rw[aD,aD,dY]at h';rcases bj.1 ht with e|ht'
  ·subst e;exact⟨bc h'.1,h'.2.1⟩
  ·exact iD h'.2.2 t ht'
theorem ww{P:Program}{E:cE}{F:RO}{M:Mem}{c:Nat→Prop}{w:World}{L:List eT}(hr:jl P E F M c w)(hglob:∀g,g<1000→E.ρ g=g∧E.β g=0)(h:bA F L=true):∃ty,jl P E (mc L ty) .e c0 w:=by
 have hall:=iD h
 have hty:∃ty:Nat→Nat,∀b,∀t∈L,t.1=b→ ∃o,w.heap[E.ρ b]?=some o∧eY P E b (sq (ty b) t.2.1 t.2.2) o:=by
  refine⟨fun b=>match w.heap[E.ρ b]? with|some (.cells _ ty _)=>ty|_=>0,fun b t ht e=>?_⟩;subst e;obtain⟨ty,o,ho,hB⟩:=Zv hr (hall t ht).2;have hB':=hB;obtain⟨arr,fr,rfl,_⟩:=hB;refine⟨_,ho,?_⟩;simp only[ho];exact hB'
 obtain⟨ty,hty⟩:=hty
 refine⟨ty,⟨?_,?_,fun b hb=>rfl⟩⟩
 ·intro b blk hb;rw[aC (show(Tr.e:Mem).get b=none from rfl)]at hb;obtain⟨t,ht,e,rfl⟩:=r6 hb;subst e;obtain⟨o,ho,hB⟩:=hty _ t ht rfl;exact⟨(hall t ht).1,bj5,o,ho,hB⟩
 ·intro b b' h1 h2 e;have lt:∀x,(look (mc L ty) .e x).isSome→x<1000:=by
   intro x hx;obtain⟨y,hy⟩:=bm.1 hx;rw[aC (show(Tr.e:Mem).get x=none from rfl)]at hy;obtain⟨t,ht,e,_⟩:=r6 hy;subst e;exact(hall t ht).1
  rw[(hglob b (lt b h1)).1,(hglob b' (lt b' h2)).1]at e;exact e
theorem Tr.setP_same{α:Type}(p:aH)(v w:α):∀t:Tr α,(t.setP p v).setP p w=t.setP p w:=by
 induction p with
 |h=>intro t;cases t<;>rfl
 |l p ih=>
  intro t;cases t with
  |e=>rw[Tr.setP_el,Tr.setP_l,ih,Tr.setP_el]
  |n l x r=>rw[Tr.setP_l,Tr.setP_l,ih,Tr.setP_l]
 |r p ih=>
  intro t;cases t with
  |e=>rw[Tr.setP_er,Tr.setP_r,ih,Tr.setP_er]
  |n l x r=>rw[Tr.setP_r,Tr.setP_r,ih,Tr.setP_r]
theorem sj{α:Type}(v:α):∀(f k:Nat),k+1<2^(f+1)→Tr.single (some v) f k=(Tr.e:Tr α).setP (lS f k) v
 |0,k,h=>by
  have:k=0:=by simp at h;omega
  subst this;rfl
 |f+1,k,h=>by
  have hp:(2:Nat)^(f+1+1)=2*2^(f+1):=by rw[Nat.pow_succ];omega
  rw[Tr.single_succ,tg];by_cases h0:k=0
  ·rw[ac h0,ac h0];rfl
  ·rw[ab h0,ab h0];by_cases h2:k%2=0
   ·rw[ac h2,ac h2,Tr.setP_er,sj v f _ (by omega)]
   ·rw[ab h2,ab h2,Tr.setP_el,sj v f _ (by omega)]
theorem pL{α:Type}(v:α)(t:Tr α):∀k:Nat,t.set k v=t.setP (bk k) v:=by
 induction t with
 |e=>
  intro k;show(Tr.e:Tr α).put (some v) k=_;rw[Tr.put_e];refine sj v _ k ?_;have:=Nat.lt_log2_self (n:=k);have hp:(2:Nat)^(k.log2+1+1)=2*2^(k.log2+1):=by rw[Nat.pow_succ];omega
  omega
 |n l x r ihl ihr=>
  intro k;show(Tr.n l x r).put (some v) k=_;rw[Tr.put_n];by_cases h0:k=0
  ·subst h0;rfl
  ·rw[ab h0];by_cases h2:k%2=0
   ·rw[ac h2];have e:bk k= .r (bk (k/2-1)):=by rw[←wk];congr 1;omega
    rw[e,Tr.setP_r,←ihr];rfl
   ·rw[ab h2];have e:bk k= .l (bk (k/2)):=by rw[←zf];congr 1;omega
    rw[e,Tr.setP_l,←ihl];rfl
theorem AE{α:Type}(t:Tr α)(k:Nat)(v w:α):(t.set k v).set k w=t.set k w:=by
 rw[pL,pL,pL,Tr.setP_same]
theorem set_comm{α:Type}(t:Tr α){k j:Nat}(h:k≠j)(v w:α):(t.set k v).set j w=(t.set j w).set k v:=by
 rw[pL,pL,pL,pL,Tr.setP_comm (bk k) v (bk j) w t (fun e=>h (ze e).symm)]
def iY(l:List V):T:=aW l 0 .e
theorem oN(v:V):∀(l:List V) (k i:Nat) (t:T),i<k→aW l k (t.set i v)=(aW l k t).set i v
 |[],k,i,t,h=>rfl
 |x::l,k,i,t,h=>by
  rw[cH,cH,set_comm _ (show i≠k by omega),oN v l (k+1) i _ (by omega)]
theorem vT(v:V):∀(l:List V) (k i:Nat) (t:T),i<l.length→(aW l k t).set (k+i) v=aW (l.set i v) k t
 |[],k,i,t,h=>by cases h
 |x::l,k,0,t,h=>by
  rw[List.set_cons_zero,cH,cH,bT k,←oN v l (k+1) k _ (by omega),AE]
 |x::l,k,i+1,t,h=>by
  rw[List.set_cons_succ,cH,cH,show k+(i+1)=(k+1)+i by omega,vT v l (k+1) i _ (by simpa using h)]
theorem Z2(v:V)(l:List V)(i:Nat)(h:i<l.length):(iY l).set i v=iY (l.set i v):=by
 have:=vT v l 0 i .e h
 rwa [Nat.zero_add]at this
def over:List V→Nat→List V→List V
 |l,_,[]=>l
 |l,i,v::r=>over (l.set i v) (i+1) r
theorem iX:∀(vs l:List V) (i:Nat),(over l i vs).length=l.length
 |[],l,i=>rfl
 |v::r,l,i=>by rw[over,iX r];simp
theorem ng:∀(vs l:List V) (i:Nat),i+vs.length≤l.length→aW vs i (iY l)=iY (over l i vs)
 |[],l,i,h=>rfl
 |v::r,l,i,h=>by
  simp only[aX]at h;rw[cH,Z2 _ _ _ (by omega),over,ng r _ _ (by simp;omega)]
def ax(ty:Nat)(l:List V):bq:= .cells ty l.length true 0 false [] (iY l)
theorem vg(l:List V)(i:Nat):cell l.length [] (iY l) i=l[i]?:=by
 rw[cd]
 by_cases h:i<l.length
 ·rw[ac h];unfold iY;rw[dq,ac (by omega)];simp only[Nat.sub_zero];rw[List.getElem?_eq_getElem h]
 ·rw[ab h,List.getElem?_eq_none (by omega)]
theorem sT(l:List V):∀(n i:Nat),i+n≤l.length→fe l.length [] (iY l) n i=some ((l.drop i).take n)
 |0,i,h=>by rw[qi];simp
 |n+1,i,h=>by
  rw[jn,vg,List.getElem?_eq_getElem (by omega)];show(match fe l.length [] (iY l) n (i+1)with|none=>none|some r=>some (l[i]::r))=_;rw[sT l n (i+1) (by omega)];simp only;rw[←List.getElem_cons_drop (by omega:i<l.length),List.take_succ_cons]
section
variable{Φ:Nat→Option CF}{rd:Option Nat}{fn:Nat}{F:RO}
theorem oQ(M:Mem)(b:Nat)(x:bq):look F (M.set b x) b=some x:=aq (by rw[Tr.get_set,ac rfl])
theorem ni(M:Mem){b b':Nat}(x:bq)(h:b'≠b):look F (M.set b x) b'=look F M b':=eH (by rw[Tr.get_set,ab h])
theorem vV(M:Mem)(b o ty:Nat)(l:List V):load1 F (M.set b (ax ty l)) b o=l[o]?:=by
 unfold load1
 rw[oQ]
 exact vg l o
theorem CB(M:Mem){b b':Nat}(o:Nat)(x:bq)(h:b'≠b):load1 F (M.set b x) b' o=load1 F M b' o:=by
 unfold load1
 rw[ni M x h]
theorem vW(M:Mem)(b o n ty:Nat)(l:List V)(h:o+n≤l.length):loadN F (M.set b (ax ty l)) b o n=some ((l.drop o).take n):=by
 unfold loadN
 rw[oQ]
 exact sT l n o h
theorem Yv(M:Mem){b b':Nat}(o n:Nat)(x:bq)(h:b'≠b):loadN F (M.set b x) b' o n=loadN F M b' o n:=by
 unfold loadN
 rw[ni M x h]
theorem kI(M:Mem)(b o ty:Nat)(l vs:List V)(h:o+vs.length≤l.length)(h1:bv vs=true):cC (M.set b (ax ty l)) b o vs=some (M.set b (ax ty (over l o vs))):=by
 have hg:(M.set b (ax ty l)).get b=some (ax ty l):=by rw[Tr.get_set,ac rfl]
 show Option.rec (motive:=fun _=>Option Mem) none (fun blk=>o8 (M.set b (ax ty l)) b o vs blk) ((M.set b (ax ty l)).get b)=_
 rw[hg]
 show(Bool.rec (motive:=fun _=>Option Mem) none (Bool.rec (motive:=fun _=>Option Mem) none (Bool.rec (motive:=fun _=>Option Mem) none (fy (M.set b (ax ty l)) b o vs ty l.length true 0 false [] (iY l)) (bv vs)) (Nat.ble 0 o)) (Nat.ble (Nat.add o vs.length) l.length))=_
 rw[bb,bb,bb,bL,bL,ae (show Nat.add o vs.length≤l.length from h),ae (aF o),h1]
 simp only[if_true]
 unfold fy
 rw[Tr.force_eq,Tr.force_eq,ng _ _ _ h,AE]
 unfold ax
 rw[iX]
theorem Pn(M:Mem){b b':Nat}(o:Nat)(x:bq)(vs:List V)(h:b'≠b){M':Mem}(hs:cC M b' o vs=some M'):cC (M.set b x) b' o vs=some (M'.set b x):=by
 obtain⟨ty,n,ex,fz,str,d,cs,hM,h1,h2,h3,rfl⟩:=nC hs
 have hg:(M.set b x).get b'=some (.cells ty n ex fz str d cs):=by rw[Tr.get_set,ab h];exact hM
 show Option.rec (motive:=fun _=>Option Mem) none (fun blk=>o8 (M.set b x) b' o vs blk) ((M.set b x).get b')=_
 rw[hg]
 show(Bool.rec (motive:=fun _=>Option Mem) none (Bool.rec (motive:=fun _=>Option Mem) none (Bool.rec (motive:=fun _=>Option Mem) none (fy (M.set b x) b' o vs ty n ex fz str d cs) (bv vs)) (Nat.ble fz o)) (Nat.ble (Nat.add o vs.length) n))=_
 rw[bb,bb,bb,bL,bL,ae (show Nat.add o vs.length≤n from h1),ae h2,h3]
 simp only[if_true]
 unfold fy
 rw[Tr.force_eq,Tr.force_eq,set_comm _ (Ne.symm h)]
def bV4(F:RO)(M:Mem)(x:V):Option V:=(cS (.ld1 (.c x)) F M .e).val
def bV9(n:Nat)(F:RO)(M:Mem)(x:V):Option V:=(cS (.ldn n (.c x)) F M .e).val
theorem cj6(x:X)(M:Mem)(t:T):(cS (.ld1 x) F M t).val=bV4 F M (x.ev t):=rfl
theorem cj7(n:Nat)(x:X)(M:Mem)(t:T):(cS (.ldn n x) F M t).val=bV9 n F M (x.ev t):=rfl
theorem bV5(M:Mem)(b o:Nat):bV4 F M (.p b o)=load1 F M b o:=by
 show(qrb b (load1 F M b o)).val=_
 cases load1 F M b o<;>rfl
theorem bW0(n:Nat)(M:Mem)(b o:Nat):bV9 n F M (.p b o)=(loadN F M b o n).map .g:=by
 show(qgb b (loadN F M b o n)).val=_
 cases loadN F M b o n<;>rfl
theorem cj2(off:Nat)(x:X)(M:Mem)(t:T):(cS (.fa off x) F M t).val=match x.ev t with| .p b o=>some (.p b (o+off))|_=>none:=by
 show(rX (x.ev t) .f fun b o=>uo b (Nat.add o off)).val=_
 cases x.ev t with
 |p b o=>
  show(uo b (Nat.add o off)).val=_;unfold uo;rw[aN];rfl
 |_=>rfl
theorem ac9(ty:Nat)(cs:List V)(b:Nat)(t:T)(h:bv cs=true):kl (.al ty cs) b t=some (.p b 0,ax ty cs):=by
 show(bif bv cs then some (V.p b 0,bq.cells ty cs.length true 0 false [] (aW cs 0 .e))else none)=_
 rw[h];rfl
theorem ad3(ty sz:Nat)(x:X)(b:Nat)(t:T):kl (.bx ty sz x) b t=if(flatten (x.ev t)).length=sz∧bv (flatten (x.ev t))=true then some (.p b 0,ax ty (flatten (x.ev t)))else none:=by
 show(bif Nat.beq (flatten (x.ev t)).length sz&&bv (flatten (x.ev t))then some (V.p b 0,bq.cells ty sz true 0 false [] (aW (flatten (x.ev t)) 0 .e))else none)=_
 rw[bp]
 by_cases h:(flatten (x.ev t)).length=sz
 ·rw[ae h];cases ha:bv (flatten (x.ev t))with
  |true=>rw[ac ⟨h,rfl⟩,←h];rfl
  |false=>rw[ab (fun hh=>by cases hh.2)];rfl
 ·rw[ag h,ab (fun hh=>h hh.1)];rfl
theorem ai2(n:Nat)(x v:X)(M:Mem)(c:Nat)(t:T):gG (.st n x v) (K Φ rd fn F) M c t=match x.ev t with
 | .p b o=>if(flatten (v.ev t)).length=n then er c (cC M b o (flatten (v.ev t)))else .f
 |_=> .f:=by
 show(rX (x.ev t) .f fun b o=>yz n b o (flatten (v.ev t)) M c)=_
 cases x.ev t with
 |p b o=>
  show yz n b o (flatten (v.ev t)) M c=_;unfold yz;rw[bb,bp];simp only[decide_eq_true_eq]
 |_=>rfl
theorem ai9(c:Nat)(M:Mem):er c (some M)= .k undef M c:=rfl
end
section
variable{Φ:Nat→Option CF}{rd:Option Nat}{fn:Nat}{F:RO}
def ofO(o:Option V)(M:Mem)(c:Nat):RC:=match o with
 |some v=> .k v M c
 |none=> .f
theorem YN(h:List V→Option V)(F:RO)(args:List V)(M:Mem)(c:Nat):bg h F args M c=ofO (h args) M c:=rfl
theorem YC(v:V)(M:Mem)(c:Nat):ofO (some v) M c= .k v M c:=rfl
theorem Of(x:Bool):flatten (.b x)=[.b x]:=rfl
theorem Oi(k:IntKind)(x:Int):flatten (.i k x)=[.i k x]:=rfl
theorem Om(n x:Nat):flatten (.s n x)=[.s n x]:=rfl
theorem Ol(b o:Nat):flatten (.p b o)=[.p b o]:=rfl
theorem F2:flatten .p0=[.p0]:=rfl
theorem Oj(b o n c:Nat):flatten (.l b o n c)=[.l b o n c]:=rfl
theorem On(b o n e k:Nat):flatten (.u b o n e k)=[.u b o n e k]:=rfl
theorem EY:flatten .l0=[.l0]:=rfl
theorem Ok(b:Nat):flatten (.m b)=[.m b]:=rfl
theorem EZ:flatten .m0=[.m0]:=rfl
theorem Og(f:Nat)(a b:List V):flatten (.f f a b)=[.f f a b]:=rfl
theorem EX:flatten .f0=[.f0]:=rfl
theorem Oh(l:List V):flatten (.g l)=l:=rfl
theorem pf:bv []=true:=rfl
theorem dh(v:V)(l:List V):bv (v::l)=(cY v&&bv l):=by
 show Bool.rec (motive:=fun _=>Bool) false (bv l) (cY v)=_
 cases cY v<;>rfl
theorem ak3(x:Bool):cY (.b x)=true:=rfl
theorem Af(k:IntKind)(x:Int):cY (.i k x)=true:=rfl
theorem ak8(n x:Nat):cY (.s n x)=true:=rfl
theorem ak7(b o:Nat):cY (.p b o)=true:=rfl
theorem Yh:cY .p0=true:=rfl
theorem ak5(b o n c:Nat):cY (.l b o n c)=true:=rfl
theorem ak9(b o n e k:Nat):cY (.u b o n e k)=true:=rfl
theorem Yg:cY .l0=true:=rfl
theorem ak6(b:Nat):cY (.m b)=true:=rfl
theorem ak4(f:Nat)(a b:List V):cY (.f f a b)=true:=rfl
theorem Yf:cY .f0=true:=rfl
def t7(cs:List V):List (Nat×Nat×List V)→Option (List V)
 |[]=>some cs
 |(o,n,vs)::r=>if vs.length=n then(match ig cs o vs with|some cs=>t7 cs r|none=>none)else none
theorem pJ:∀(o:Nat) (l vs:List V),o+vs.length≤l.length→ig l o vs=some (over l o vs)
 |0,l,[],h=>by cases l<;>rfl
 |0,[],v::r,h=>by simp at h
 |0,x::l,v::r,h=>by
  have key:∀(r l:List V) (v:V),over (v::l) 1 r=v::over l 0 r:=by
   have gen:∀(r l:List V) (v:V) (i:Nat),over (v::l) (i+1) r=v::over l i r:=by
    intro r
    induction r with
    |nil=>intro l v i;rfl
    |cons a r ih=>intro l v i;rw[over,over,List.set_cons_succ,ih]
   exact fun r l v=>gen r l v 0
  rw[ig,pJ 0 l r (by simp at h;omega),over,List.set_cons_zero,key]
 |o+1,[],vs,h=>by simp at h
 |o+1,x::l,vs,h=>by
  have gen:∀(r l:List V) (v:V) (i:Nat),over (v::l) (i+1) r=v::over l i r:=by
   intro r
   induction r with
   |nil=>intro l v i;rfl
   |cons a r ih=>intro l v i;rw[over,over,List.set_cons_succ,ih]
  rw[ig,pJ o l vs (by simp at h;omega),gen]
def evP(t:T):List (Nat×Nat×X)→List (Nat×Nat×List V)
 |[]=>[]
 |(o,n,x)::r=>(o,n,flatten (x.ev t))::evP t r
theorem aj2(t:T):evP t []=[]:=rfl
theorem Cm(t:T)(o n:Nat)(x:X)(r:List (Nat×Nat×X)):evP t ((o,n,x)::r)=(o,n,flatten (x.ev t))::evP t r:=rfl
theorem Od(cs:List V):t7 cs []=some cs:=rfl
theorem vw(cs:List V)(o n:Nat)(vs:List V)(r:List (Nat×Nat×List V)):t7 cs ((o,n,vs)::r)=if vs.length=n then(match ig cs o vs with|some cs=>t7 cs r|none=>none)else none:=rfl
theorem qI(l:List V)(i:Nat):over l i []=l:=rfl
theorem fJ(l:List V)(i:Nat)(v:V)(r:List V):over l i (v::r)=over (l.set i v) (i+1) r:=rfl
theorem qz(t:T):∀(ps:List (Nat×Nat×X)) (cs:List V),fillParts t cs ps=t7 cs (evP t ps)
 |[],cs=>rfl
 |(o,n,x)::ps,cs=>by
  rw[Cm,vw,fillParts,bp];by_cases hc:(flatten (x.ev t)).length=n
  ·rw[ae hc,cond_true,ac hc];cases ig cs o (flatten (x.ev t))with
   |none=>rfl
   |some cs'=>exact qz t ps cs'
  ·rw[ag hc,cond_false,ab hc]
theorem b26(zero:List V)(ps:List (Nat×Nat×X))(M:Mem)(t:T):(cS (.bld zero ps) F M t).val=(t7 zero (evP t ps)).map .g:=by
 show(qg (fillParts t zero ps)).val=_
 rw[qz]
 cases t7 zero (evP t ps)<;>rfl
theorem cj3(off:Nat)(x:X)(M:Mem)(t:T):(cS (.fl1 off x) F M t).val=match x.ev t with| .g cs=>cs[off]?|_=>none:=by
 show(Fr (x.ev t) .f fun cs=>qr (xX cs off)).val=_
 cases x.ev t with
 |g cs=>
  show(qr (xX cs off)).val=cs[off]?;rw[kO];cases cs[off]?<;>rfl
 |_=>rfl
theorem cj4(off n:Nat)(x:X)(M:Mem)(t:T):(cS (.fln off n x) F M t).val=match x.ev t with| .g cs=>(mt n (ky off cs)).map .g|_=>none:=by
 show(Fr (x.ev t) .f fun cs=>qg (mt n (ky off cs))).val=_
 cases x.ev t with
 |g cs=>
  show(qg (mt n (ky off cs))).val=(mt n (ky off cs)).map .g;cases mt n (ky off cs)<;>rfl
 |_=>rfl
theorem cj1(i:Nat)(x:X)(M:Mem)(t:T):(cS (.ex i x) F M t).val=match x.ev t with| .t cs=>cs[i]?|_=>none:=by
 show(wo i x F M t).val=_
 unfold wo
 cases x.ev t with
 |t cs=>
  show(qr (xX cs i)).val=cs[i]?;rw[kO];cases cs[i]?<;>rfl
 |_=>rfl
theorem ci9(k:IntKind)(x:X)(M:Mem)(t:T):(cS (.ci k x) F M t).val=match x.ev t with| .i _ n=>some (.i k (k.wrap n))|_=>none:=by
 show(wg (x.ev t) .f fun _ n=>vI k (wr k n)).val=_
 cases x.ev t with
 |i k' n=>
  show(vI k (wr k n)).val=_;rw[dW,iZ];rfl
 |_=>rfl
def b68:Option Bool→Option Bool→Option Bool
 |some b,r=>if b=true then r else some false
 |none,_=>none
theorem NR(b c:Bool):b68 (some b) (some c)=some (b&&c):=by cases b<;>rfl
def bQ1(F:RO)(M:Mem)(sh:Sh)(x y:Option V):Option Bool:=match x,y with
 |some x,some y=>La F M sh false x y
 |_,_=>none
theorem Oa(M:Mem)(sh:Sh)(x y:V):bQ1 F M sh (some x) (some y)=La F M sh false x y:=rfl
theorem O9(M:Mem)(xs ys:List V):mp F M xs ys []=some true:=rfl
theorem pq(M:Mem)(xs ys:List V)(o:Nat)(sh:Sh)(r:List (Nat×Sh)):mp F M xs ys ((o,sh)::r)=b68 (bQ1 F M sh (xs[o]?) (ys[o]?)) (mp F M xs ys r):=by
 rw[mp,kO,kO]
 cases xs[o]? with
 |none=>rfl
 |some x=>
  cases ys[o]? with
  |none=>rfl
  |some y=>
   show(match La F M sh false x y with|some true=>mp F M xs ys r|r=>r)=b68 (La F M sh false x y) _;cases La F M sh false x y with
   |none=>rfl
   |some b=>cases b<;>rfl
def am0(neg:Bool):Option Bool→Option V
 |some r=>some (.b (bif neg then !r else r))
 |none=>none
theorem bf9(r:Bool):am0 false (some r)=some (.b r):=rfl
theorem bg0(r:Bool):am0 true (some r)=some (.b (!r)):=rfl
theorem cj0(neg:Bool)(sh:Sh)(lit:Bool)(x y:X)(M:Mem)(t:T):(cS (.eq neg sh lit x y) F M t).val=am0 neg (xB F M sh lit (x.ev t) (y.ev t)):=by
 show(zg neg (xB F M sh lit (x.ev t) (y.ev t))).val=_
 cases xB F M sh lit (x.ev t) (y.ev t)with
 |none=>rfl
 |some r=>
  show(vB (bif neg then !r else r)).val=_;rw[nH];rfl
theorem ai6(ks:List (Nat×Sh))(lit:Bool)(M:Mem)(xs ys:List V):xB F M (.agg ks) lit (.g xs) (.g ys)=mp F M xs ys ks:=rfl
theorem ai7(lit:Bool)(M:Mem)(k:IntKind)(a b:Int):xB F M .int lit (.i k a) (.i k b)=some (decide (a=b)):=by
 show PE (.i k a) (.i k b)=_
 simp[PE,eX,cB]
theorem ai5(lit:Bool)(M:Mem)(k:IntKind)(a b:Int):La F M .int lit (.i k a) (.i k b)=some (decide (a=b)):=by
 show PE (.i k a) (.i k b)=_
 simp[PE,eX,cB]
theorem Ci(lit:Bool)(M:Mem)(a b:Bool):La F M .bool lit (.b a) (.b b)=some (decide (a=b)):=by
 show eqB (.b a) (.b b)=_
 cases a<;>cases b<;>rfl
theorem b53(x:X)(as0:List X)(M:Mem)(c:Nat)(t:T):gG (.cv x as0) (K Φ rd fn F) M c t=sQ (K Φ rd fn F) (x.ev t) (evs as0 t) M c:=rfl
theorem L0(f:Nat)(first caps args:List V)(M:Mem)(c:Nat):sQ (K Φ rd fn F) (.f f first caps) args M c=cu (iu Φ) F f (first++(args++caps)) M c (Φ f):=rfl
theorem cj8(f:Nat)(first caps:List X)(M:Mem)(t:T):(cS (.mkf f first caps) F M t).val=some (.f f (evs first t) (evs caps t)):=rfl
theorem ap0(M:Mem)(t:T)(p:aH)(sz:Nat)(r:List RV):eR F M t (.cn p sz::r)=match cq t p with
 | .p b o=>match loadN F M b o sz with|some l=>yw (.g l) (eR F M t r)|none=>none
 |_=>none:=by
 show Option.rec (motive:=fun _=>Option (List V)) none (fun v=>u7 v (eR F M t r)) (zk F M t (.cn p sz))=_
 show Option.rec (motive:=fun _=>Option (List V)) none (fun v=>u7 v (eR F M t r)) (rX (cq t p) none fun b o=>Option.rec (motive:=fun _=>Option V) none (fun l=>some (.g l)) (loadN F M b o sz))=_
 cases cq t p with
 |p b o=>
  show Option.rec (motive:=fun _=>Option (List V)) none (fun v=>u7 v (eR F M t r)) (Option.rec (motive:=fun _=>Option V) none (fun l=>some (.g l)) (loadN F M b o sz))=_;simp only;cases loadN F M b o sz with
  |none=>rfl
  |some l=>
   show u7 (.g l) (eR F M t r)=yw (.g l) (eR F M t r);cases eR F M t r<;>rfl
 |_=>rfl
theorem ao9(M:Mem)(t:T)(p:aH)(r:List RV):eR F M t (.c1 p::r)=match cq t p with
 | .p b o=>match load1 F M b o with|some v=>yw v (eR F M t r)|none=>none
 |_=>none:=by
 show Option.rec (motive:=fun _=>Option (List V)) none (fun v=>u7 v (eR F M t r)) (rX (cq t p) none fun b o=>load1 F M b o)=_
 cases cq t p with
 |p b o=>
  show Option.rec (motive:=fun _=>Option (List V)) none (fun v=>u7 v (eR F M t r)) (load1 F M b o)=_;simp only;cases load1 F M b o with
  |none=>rfl
  |some v=>
   show u7 v (eR F M t r)=yw v (eR F M t r);cases eR F M t r<;>rfl
 |_=>rfl
def Cz(len sz:Nat)(x i:V):Option V:=(cS (.ixA1 len sz (.c x) (.c i)) [] .e .e).val
theorem ZC(len sz:Nat)(x i:X)(M:Mem)(t:T):(cS (.ixA1 len sz x i) F M t).val=Cz len sz (x.ev t) (i.ev t):=rfl
theorem Fa(len:Nat)(cs:List V)(k:IntKind)(n:Int):Cz len 1 (.g cs) (.i k n)=if 0≤n∧n<len then cs[n.toNat]? else none:=by
 show(Fr (V.g cs) QR.f fun cs=>qC len 1 cs (oA (.i k n))).val=_
 show(qC len 1 cs (oA (.i k n))).val=_
 cases n with
 |ofNat m=>
  show(bif Nat.blt m len then qr (xX cs (Nat.mul m 1))else QR.f).val=_;rw[dY];by_cases h:m<len
  ·rw[ae h,cond_true,ac ⟨Int.natCast_nonneg m,Int.ofNat_lt.2 h⟩];show(qr (xX cs (Nat.mul m 1))).val=_;rw[kO,show Nat.mul m 1=m from Nat.mul_one m];show _=cs[m]?;cases cs[m]?<;>rfl
  ·rw[ag h,cond_false,ab (fun hh=>h (Int.ofNat_lt.1 hh.2))];rfl
 |negSucc m=>
  rw[ab (fun hh=>by have:=hh.1;exact absurd this (by simp))];rfl
theorem getD_some{l:List V}{i:Nat}(h:i<l.length)(d:V):l[i]?=some ((l[i]?).getD d):=by
 rw[List.getElem?_eq_getElem h];rfl
def bW5(b:Nat)(x:bq):Option Mem→Option Mem
 |some M=>some (M.set b x)
 |none=>none
theorem OI(b:Nat)(x:bq)(M:Mem):bW5 b x (some M)=some (M.set b x):=rfl
theorem FR(M:Mem){b b':Nat}(o:Nat)(x:bq)(vs:List V)(h:b'≠b):cC (M.set b x) b' o vs=bW5 b x (cC M b' o vs):=by
 cases hs:cC M b' o vs with
 |some M'=>rw[Pn M o x vs h hs];rfl
 |none=>
  cases hs2:cC (M.set b x) b' o vs with
  |none=>rfl
  |some M2=>
   exfalso;obtain⟨ty,n,ex,fz,str,d,cs,hM,h1,h2,h3,_⟩:=nC hs2;rw[Tr.get_set,ab h]at hM;have:cC M b' o vs=some (M.set b' (.cells ty n ex fz str d (aW vs o cs))):=by
    show Option.rec (motive:=fun _=>Option Mem) none (fun blk=>o8 M b' o vs blk) (M.get b')=_;rw[hM];show(Bool.rec (motive:=fun _=>Option Mem) none (Bool.rec (motive:=fun _=>Option Mem) none (Bool.rec (motive:=fun _=>Option Mem) none (fy M b' o vs ty n ex fz str d cs) (bv vs)) (Nat.ble fz o)) (Nat.ble (Nat.add o vs.length) n))=_;rw[bb,bb,bb,bL,bL,ae (show Nat.add o vs.length≤n from h1),ae h2,h3];simp only[if_true];unfold fy;rw[Tr.force_eq,Tr.force_eq]
   rw[hs]at this;cases this
theorem al8(c n:Nat):(c≠c+(n+1))=True:=eq_true (by omega)
theorem al9(c n:Nat):(c+(n+1)≠c)=True:=eq_true (by omega)
theorem bf8(c i j:Nat)(h:(i==j)=false):(c+i≠c+j)=True:=eq_true (fun e=>by
 have:i=j:=by omega
 rw[beq_eq_false_iff_ne]at h
 exact h this)
def To(Φ:Nat→Option CF)(f:Nat)(args:List V)(ct:Nat)(v:V):Prop:=∃M1 ct1,cu (iu Φ) [] f args .e ct (Φ f)= .k v M1 ct1
theorem fg{f n:Nat}{res:List RV}{body:CC}{args:List V}{c:Nat}{v:V}(hf:Φ f=some (.mk n res body))
 (h:Wp body (K Φ none f []) (.mk (bh n args) [] .e c) (cX [] res fun v' _ _=>v'=v)):To Φ f args c v:=by
 obtain⟨v',M',c',h1,rfl⟩:=yr hf h
 exact⟨M',c',h1⟩
end
theorem bS(n:Int):IntKind.u8.wrap n=n%256:=pS .u8 n 256 rfl rfl
theorem xd(n:Int):IntKind.u32.wrap n=n%4294967296:=pS .u32 n 4294967296 rfl rfl
theorem eS(n:Int):IntKind.u64.wrap n=n%18446744073709551616:=pS .u64 n 18446744073709551616 rfl rfl
theorem fA{n:Int}(h1: -9223372036854775808≤n)(h2:n<9223372036854775808):IntKind.i64.wrap n=n:=by
 rw[nK .i64 n 18446744073709551616 9223372036854775808 rfl rfl rfl]
 split<;>omega
theorem rG(k:IntKind)(a b:Int):bD .mul (.i k a) (.i k b)=some (.i k (k.wrap (a*b))):=by
 show _=some (V.i k (k.wrap (Int.mul a b)))
 cases k<;>simp[bD,fS,eC,pj,aZ7,ii,rS,dW,iZ,QR.val]
theorem bH9(k:IntKind)(a b:Int):bD .or (.i k a) (.i k b)=some (.i k (k.wrap ((toU k a|||toU k b:Nat):Int))):=by
 show _=some (V.i k (k.wrap ((Nat.lor (toU k a) (toU k b):Nat):Int)))
 cases k<;>simp[bD,fS,eC,pj,bS1,ii,rS,jD,QR.val]
theorem b86(k:IntKind)(a b:Int):bD .and (.i k a) (.i k b)=some (.i k (k.wrap ((toU k a&&&toU k b:Nat):Int))):=by
 show _=some (V.i k (k.wrap ((Nat.land (toU k a) (toU k b):Nat):Int)))
 cases k<;>simp[bD,fS,eC,pj,aZ1,ii,rS,jD,QR.val]
theorem Eo(k k':IntKind)(a:Int)(n:Nat):bD .shl (.i k a) (.i k' (n:Int))=some (.i k (k.wrap (a*((2^eJ k n:Nat):Int)))):=by
 show(ap7 k a (Int.ofNat n)).val=_
 show(vI k (wr k (Int.mul a (.ofNat (Nat.pow 2 (eJ k n)))))).val=_
 rw[dW,iZ];rfl
theorem Ep(k k':IntKind)(a:Int)(n:Nat):bD .shr (.i k a) (.i k' (n:Int))=some (.i k (Int.fdiv a ((2^eJ k n:Nat):Int))):=by
 show(ap8 k a (Int.ofNat n)).val=_
 show(vI k (Int.fdiv a (.ofNat (Nat.pow 2 (eJ k n))))).val=_
 rw[dW];rfl
theorem AJ(n:Nat)(h:n<4294967296):IntKind.u32.wrap (n:Int)=(n:Int):=by rw[xd];omega
theorem MR(a b:Nat)(h:a+b<4294967296):bD .add (.i .u32 (a:Int)) (.i .u32 (b:Int))=some (.i .u32 ((a+b:Nat):Int)):=by
 rw[gL,xd]
 congr 2
 omega
theorem aq7(a b:Nat)(h:a*b<4294967296):bD .mul (.i .u32 (a:Int)) (.i .u32 (b:Int))=some (.i .u32 ((a*b:Nat):Int)):=by
 rw[rG,xd]
 congr 2
 rw[←Int.natCast_mul]
 omega
theorem aO(a b:Int)(h1: -9223372036854775808≤a+b)(h2:a+b<9223372036854775808):bD .add (.i .i64 a) (.i .i64 b)=some (.i .i64 (a+b)):=by
 rw[gL,fA h1 h2]
theorem qA(a b:Int)(h1: -9223372036854775808≤a*b)(h2:a*b<9223372036854775808):bD .mul (.i .i64 a) (.i .i64 b)=some (.i .i64 (a*b)):=by
 rw[rG,fA h1 h2]
section
variable{Φ:Nat→Option CF}{rd:Option Nat}{fn:Nat}{F:RO}
def mz(base:Nat)(ops:List (Nat×Nat×CO))(k:Kn)(s:DS)(R:DS→Prop):Prop:=∃s',jo k base ops s=some s'∧R s'
def aY4(d:List Nat)(Q:Ex→St→Prop):DS→Prop
 | .mk t M c pend _=>Q .nrm (.mk t d (dP pend M) c)
theorem au8(n:Nat)(ops:List (Nat×Nat×CO))(k:Kn)(t:T)(d:List Nat)(M:Mem)(c:Nat)(Q:Ex→St→Prop):
 Wp (.dreg n ops) k (.mk t d M c) Q=mz c ops k (.mk t M (c+n) [] []) (aY4 d Q):=by
 have he:b5 (.dreg n ops) k (.mk t d M c)=vm d (jo k c ops (.mk t M (c+n) [] [])):=by
  show(fN (Nat.add c n) fun c'=>vm d (jo k c ops (.mk t M c' [] [])))=_;rw[aN];rfl
 apply propext;constructor
 ·rintro⟨e,s',h,q⟩;rw[he]at h;cases hs:jo k c ops (.mk t M (c+n) [] [])with
  |none=>rw[hs]at h;cases h
  |some s1=>
   rw[hs]at h;obtain⟨t1,M1,c1,p1,r1⟩:=s1;have h2:((dP p1 M1).force fun M=>Rs.k .nrm (.mk t1 d M c1))= .k e s':=h;rw[Tr.force_eq]at h2;injection h2 with a1 a2
   subst a1 a2;exact⟨_,hs,q⟩
 ·rintro⟨s1,hs,q⟩;obtain⟨t1,M1,c1,p1,r1⟩:=s1;refine⟨_,_,?_,q⟩;rw[he,hs];show((dP p1 M1).force fun M=>Rs.k .nrm (.mk t1 d M c1))=_;rw[Tr.force_eq]
theorem XN(d:List Nat)(Q:Ex→St→Prop)(t:T)(M:Mem)(c:Nat)(pend:List (Nat×Nat×bq))(reads:List (Nat×Nat)):aY4 d Q (.mk t M c pend reads)=Q .nrm (.mk t d (dP pend M) c):=Eq.trans rfl (Eq.refl _)
theorem An(M:Mem):dP [] M=M:=Eq.trans rfl (Eq.refl _)
theorem bx4(base:Nat)(k:Kn)(s:DS)(R:DS→Prop):mz base [] k s R=R s:=by
 apply propext;constructor
 ·rintro⟨s',h,q⟩;cases h;exact q
 ·exact fun q=>⟨_,rfl,q⟩
theorem fR(base:Nat)(o:Nat×Nat×CO)(r:List (Nat×Nat×CO))(k:Kn)(s:DS)(R:DS→Prop):mz base (o::r) k s R↔ ∃s',ui k base o s=some s'∧mz base r k s' R:=by
 constructor
 ·rintro⟨s',h,q⟩;rw[jo]at h;cases hs:ui k base o s with
  |none=>rw[hs]at h;cases h
  |some s1=>rw[hs]at h;exact⟨s1,rfl,s',h,q⟩
 ·rintro⟨s1,h1,s',h2,q⟩;exact⟨s',by rw[jo,h1];exact h2,q⟩
def oB(o:QO)(F:RO)(M:Mem)(t:T):QR:=O6 o F M t (cS o F M t)
def b62(q:QR)(base i:Nat)(p:aH)(r:List (Nat×Nat×CO))(k:Kn)(t:T)(M:Mem)(c:Nat)(pend:List (Nat×Nat×bq))(reads:List (Nat×Nat))(R:DS→Prop):Prop:=match q with
 | .f=>False
 | .v x=>mz base r k (.mk (t.setP p x) M c pend reads) R
 | .r x b=>mz base r k (.mk (t.setP p x) M c pend ((i,b)::reads)) R
theorem bh3(x:V)(base i:Nat)(p:aH)(r:List (Nat×Nat×CO))(k:Kn)(t:T)(M:Mem)(c:Nat)(pend:List (Nat×Nat×bq))(reads:List (Nat×Nat))(R:DS→Prop):
 b62 (.v x) base i p r k t M c pend reads R=mz base r k (.mk (t.setP p x) M c pend reads) R:=Eq.trans rfl (Eq.refl _)
theorem bh2(x:V)(b base i:Nat)(p:aH)(r:List (Nat×Nat×CO))(k:Kn)(t:T)(M:Mem)(c:Nat)(pend:List (Nat×Nat×bq))(reads:List (Nat×Nat))(R:DS→Prop):
 b62 (.r x b) base i p r k t M c pend reads R=mz base r k (.mk (t.setP p x) M c pend ((i,b)::reads)) R:=Eq.trans rfl (Eq.refl _)
theorem cM7(base i mask:Nat)(p:aH)(o:QO)(r:List (Nat×Nat×CO))(t:T)(M:Mem)(c:Nat)(pend:List (Nat×Nat×bq))(reads:List (Nat×Nat))(R:DS→Prop):
 mz base ((i,mask,.mk (some p) (.q o) none)::r) (K Φ rd fn F) (.mk t M c pend reads) R=b62 (oB o F M t) base i p r (K Φ rd fn F) t M c pend reads R:=by
 have he:ui (K Φ rd fn F) base (i,mask,.mk (some p) (.q o) none) (.mk t M c pend reads)=tP i (some p) t M c pend reads (oB o F M t):=rfl
 apply propext
 rw[fR,he]
 cases oB o F M t with
 |f=>exact⟨fun⟨s',h,_⟩=>(by cases h),False.elim⟩
 |v x=>
  have:tP i (some p) t M c pend reads (.v x)=some (.mk (t.setP p x) M c pend reads):=by
   show((setT t (some p) x).force fun t=>some (DS.mk t M c pend reads))=_;rw[Tr.force_eq];rfl
  rw[this];constructor
  ·rintro⟨s',h,q⟩;obtain rfl:=af h;exact q
  ·exact fun q=>⟨_,rfl,q⟩
 |r x b=>
  have:tP i (some p) t M c pend reads (.r x b)=some (.mk (t.setP p x) M c pend ((i,b)::reads)):=by
   show((setT t (some p) x).force fun t=>some (DS.mk t M c pend ((i,b)::reads)))=_;rw[Tr.force_eq];rfl
  rw[this];constructor
  ·rintro⟨s',h,q⟩;obtain rfl:=af h;exact q
  ·exact fun q=>⟨_,rfl,q⟩
def oV:Option V→QR
 |none=> .f
 |some x=> .v x
theorem am4(x:V):oV (some x)= .v x:=Eq.trans rfl (Eq.refl _)
theorem gO{o:QO}{M:Mem}{t:T}(h:∀F' M',cS o F' M' t=oV (cS o [] .e t).val):oB o F M t=oV (cS o F M t).val:=by
 have h1:=h F M
 have h0:=h [] .e
 unfold oB
 rw[h1]
 cases hv:(cS o [] .e t).val with
 |none=>rfl
 |some x=>
  show cS o [] .e t= .v x;rw[h0,hv];rfl
theorem ci8(k:IntKind)(n:Int):vI k n=oV (vI k n).val:=by rw[dW];rfl
theorem bP3(x:X)(M:Mem)(t:T):oB (.mv x) F M t= .v (x.ev t):=Eq.trans rfl (Eq.refl _)
theorem bO9(k:IntKind)(x:X)(M:Mem)(t:T):oB (.ci k x) F M t=oV (match x.ev t with| .i _ n=>some (.i k (k.wrap n))|_=>none):=by
 refine(gO ?_).trans (congrArg oV (ci9 (F:=F) k x M t))
 intro F' M'
 show(wg (x.ev t) QR.f fun _ n=>vI k (wr k n))=oV (wg (x.ev t) QR.f fun _ n=>vI k (wr k n)).val
 cases x.ev t with
 |i k' n=>exact ci8 _ _
 |_=>rfl
theorem lc{q:QR}(h:q= .f∨ ∃x,q= .v x):q=oV q.val:=by
 rcases h with rfl|⟨x,rfl⟩<;>rfl
theorem b93(op:BinOp)(k:IntKind)(a:Int)(k':IntKind)(b:Int):fS op k a k' b= .f∨ ∃x,fS op k a k' b= .v x:=by
 have hb:∀(c:Bool) (q:QR),(q= .f∨ ∃x,q= .v x)→(Bool.rec (motive:=fun _=>QR) .f q c= .f∨ ∃x,(Bool.rec (motive:=fun _=>QR) .f q c:QR)= .v x):=by
  intro c q h;cases c
  ·exact .inl rfl
  ·exact h
 have vi:∀k n,vI k n= .f∨ ∃x,vI k n= .v x:=fun k n=> .inr ⟨_,dW k n⟩
 have vb:∀b,vB b= .f∨ ∃x,vB b= .v x:=fun b=> .inr ⟨_,nH b⟩
 cases op with
 |add=>exact hb _ _ (vi _ _)
 |sub=>exact hb _ _ (vi _ _)
 |mul=>exact hb _ _ (vi _ _)
 |quo=>
  refine hb _ _ ?_;have e:ml k a b= .f∨ ∃x,ml k a b= .v x:=by
   unfold ml;cases Ob b 0
   ·exact vi _ _
   ·exact .inl rfl
  exact e
 |rem=>
  refine hb _ _ ?_;have e:mm k a b= .f∨ ∃x,mm k a b= .v x:=by
   unfold mm;cases Ob b 0
   ·exact vi _ _
   ·exact .inl rfl
  exact e
 |and=>exact hb _ _ (vi _ _)
 |or=>exact hb _ _ (vi _ _)
 |xor=>exact hb _ _ (vi _ _)
 |andNot=>exact hb _ _ (vi _ _)
 |eql=>exact hb _ _ (vb _)
 |neq=>exact hb _ _ (vb _)
 |lss=>exact hb _ _ (vb _)
 |leq=>exact hb _ _ (vb _)
 |gtr=>exact hb _ _ (vb _)
 |geq=>exact hb _ _ (vb _)
 |shl=>
  show ap7 k a b= .f∨ ∃x,ap7 k a b= .v x;cases b with
  |ofNat n=>exact vi _ _
  |negSucc n=>exact .inl rfl
 |shr=>
  show ap8 k a b= .f∨ ∃x,ap8 k a b= .v x;cases b with
  |ofNat n=>exact vi _ _
  |negSucc n=>exact .inl rfl
theorem bO8(op:BinOp)(x y:X)(M:Mem)(t:T){k k':IntKind}{a b:Int}(hx:x.ev t= .i k a)(hy:y.ev t= .i k' b):oB (.bi op x y) F M t=oV (bD op (x.ev t) (y.ev t)):=by
 rw[←bk0 (F:=F) op x y M t]
 refine gO ?_
 intro F' M'
 have e:∀F' M',cS (.bi op x y) F' M' t=fS op k a k' b:=by
  intro F' M';show CP op x y F' M' t=_;unfold CP;rw[hx];show(wg (y.ev t) QR.f fun k' b=>fS op k a k' b)=_;rw[hy];rfl
 rw[e,e]
 exact lc (b93 op k a k' b)
theorem bP1(i:Nat)(x:X)(M:Mem)(t:T):oB (.ex i x) F M t=oV (match x.ev t with| .t cs=>cs[i]?|_=>none):=by
 refine(gO ?_).trans (congrArg oV (cj1 (F:=F) i x M t))
 intro F' M'
 show wo i x F' M' t=oV (wo i x [] .e t).val
 unfold wo
 cases x.ev t with
 |t cs=>
  show qr (xX cs i)=oV (qr (xX cs i)).val;cases xX cs i<;>rfl
 |_=>rfl
theorem bc2(x:X)(M:Mem)(t:T){b o:Nat}{v:V}(hx:x.ev t= .p b o)(h:load1 F M b o=some v):oB (.ld1 x) F M t= .r v b:=by
 have hq:∀F' M',cS (.ld1 x) F' M' t=qrb b (load1 F' M' b o):=by
  intro F' M';show(rX (x.ev t) QR.f fun b o=>qrb b (load1 F' M' b o))=_;rw[hx];rfl
 unfold oB
 rw[hq,h]
 show ah2 (.ld1 x) t b (look F M b)=_
 unfold load1 at h
 cases hl:look F M b with
 |none=>rw[hl]at h;cases h
 |some blk=>
  rw[hl]at h;show Mw b (cS (.ld1 x) [(b,blk)] .e t)=_;rw[hq];have h2:load1 [(b,blk)] .e b o=some v:=by
   unfold load1;have:look [(b,blk)] (.e:Mem) b=some blk:=by
    rw[aC (show(Tr.e:Mem).get b=none from rfl)];show Bool.rec (motive:=fun _=>Option bq) _ (some blk) (Nat.beq b b)=_;rw[bb,bp];simp
   rw[this];exact h
  rw[h2];rfl
theorem FG(M:Mem):bF M []=true:=Eq.trans rfl (Eq.refl _)
theorem As(mask i b:Nat)(r:List (Nat×Nat))(h:testBit mask i=true)(F:RO)(M:Mem)(s:List (Nat×bq)):bB mask ((i,b)::r) F M s=bB mask r F M s:=by
 rw[bB,h];rfl
def El(mask:Nat):List (Nat×Nat)→Bool
 |[]=>true
 |(i,_)::r=>(mask/2^i%2==1)&&El mask r
theorem Xi(mask:Nat):El mask []=true:=Eq.trans rfl (Eq.refl _)
theorem yp(mask i b:Nat)(r:List (Nat×Nat)):El mask ((i,b)::r)=((mask/2^i%2==1)&&El mask r):=Eq.trans rfl (Eq.refl _)
theorem lG{mask:Nat}:∀{reads:List (Nat×Nat)},El mask reads=true→ ∀F M s,bB mask reads F M s=Pr.mk F M s
 |[],_,F,M,s=>rfl
 |(i,b)::r,h,F,M,s=>by
  rw[yp,aD]at h;rw[As mask i b r (by show Nat.beq (Nat.mod (Nat.div mask (Nat.pow 2 i)) 2) 1=true;rw[bp];exact ae (show mask/2^i%2=1 by simpa using h.1))];exact lG h.2 F M s
def H0(o:RC)(F:RO)(p:Option aH)(base:Nat)(r:List (Nat×Nat×CO))(k:Kn)(t:T)(reads:List (Nat×Nat))(R:DS→Prop):Prop:=match o with
 | .f=>False
 | .k v M c=>bF M F=true∧mz base r k (.mk (setT t p v) M c [] reads) R
theorem b06(v:V)(M:Mem)(c:Nat)(F:RO)(p:Option aH)(base:Nat)(r:List (Nat×Nat×CO))(k:Kn)(t:T)(reads:List (Nat×Nat))(R:DS→Prop):
 H0 (.k v M c) F p base r k t reads R=(bF M F=true∧mz base r k (.mk (setT t p v) M c [] reads) R):=Eq.trans rfl (Eq.refl _)
theorem kJ(base i mask:Nat)(dst:Option aH)(o:EO)(r:List (Nat×Nat×CO))(t:T)(M:Mem)(c:Nat)(reads:List (Nat×Nat))(R:DS→Prop)(hb:El mask reads=true):
 mz base ((i,mask,.mk dst (.e o) none)::r) (K Φ rd fn F) (.mk t M c [] reads) R=H0 (gG o (K Φ rd fn F) M c t) F dst base r (K Φ rd fn F) t reads R:=by
 have hp:=lG hb
 have he:ui (K Φ rd fn F) base (i,mask,.mk dst (.e o) none) (.mk t M c [] reads)=lM F dst t [] reads [] (gG o (K Φ rd fn F) M c t):=by
  show rK o (K Φ rd fn F) dst t c [] reads (bB mask reads F M [])=_;rw[hp];rfl
 apply propext
 rw[fR,he]
 cases hd:gG o (K Φ rd fn F) M c t with
 |f=>exact⟨fun⟨s',h,_⟩=>(by cases h),False.elim⟩
 |k v M' c'=>
  have h2:lM F dst t [] reads [] (.k v M' c')=if bF M' F=true then some (DS.mk (setT t dst v) M' c' [] reads)else none:=by
   show(bif bF M' F&&cz F M' []then(b7 [] M').force fun M=>(setT t dst v).force fun t=>some (DS.mk t M c' [] reads)else none)=_;cases bF M' F with
   |false=>rfl
   |true=>
    show((b7 [] M').force fun M=>(setT t dst v).force fun t=>some (DS.mk t M c' [] reads))=_;rw[Tr.force_eq,Tr.force_eq];rfl
  rw[h2,b06];constructor
  ·rintro⟨s',h,q⟩;split at h
   ·rename_i hr;obtain rfl:=af h;exact⟨hr,q⟩
   ·cases h
  ·rintro⟨hr,q⟩;exact⟨_,ac hr,q⟩
theorem fx(M:Mem)(b:Nat)(x:bq)(F:RO):bF M ((b,x)::F)=((M.get b).isNone&&bF M F):=by
 show(bif (M.get b).isNone then bF M F else false)=_
 cases(M.get b).isNone<;>rfl
theorem aK(M:Mem){b b':Nat}(x:bq)(h:b'≠b):(M.set b x).get b'=M.get b':=by rw[Tr.get_set,ab h]
theorem Ae:(none:Option bq).isNone=true:=Eq.trans rfl (Eq.refl _)
def biQ(op:BinOp)(X Y:V)(F:RO)(M:Mem):QR:=oB (.bi op (.c X) (.c Y)) F M .e
theorem bb8(op:BinOp)(x y:X)(M:Mem)(t:T):oB (.bi op x y) F M t=biQ op (x.ev t) (y.ev t) F M:=Eq.trans rfl (Eq.refl _)
theorem bH8(op:BinOp)(k k':IntKind)(a b:Int)(M:Mem):biQ op (.i k a) (.i k' b) F M=oV (bD op (.i k a) (.i k' b)):=bO8 op _ _ M .e rfl rfl
def ldQ(X:V)(F:RO)(M:Mem):QR:=oB (.ld1 (.c X)) F M .e
def ldR(b:Nat):Option V→QR
 |some v=> .r v b
 |none=> .f
theorem Yq(b:Nat)(v:V):ldR b (some v)= .r v b:=Eq.trans rfl (Eq.refl _)
theorem bc1(x:X)(M:Mem)(t:T):oB (.ld1 x) F M t=ldQ (x.ev t) F M:=Eq.trans rfl (Eq.refl _)
theorem bV6(b o:Nat)(M:Mem):ldQ (.p b o) F M=ldR b (load1 F M b o):=by
 cases h:load1 F M b o with
 |some v=>exact bc2 _ M .e rfl h
 |none=>
  show O6 (.ld1 (.c (.p b o))) F M .e (qrb b (load1 F M b o))=_;rw[h];rfl
theorem bb9(sz:Nat)(x i:X)(M:Mem)(t:T):oB (.iaS sz x i) F M t=oV ((cS (.iaS sz x i) F M t).val):=by
 refine gO fun F' M'=>?_
 show qO sz x i F' M' t=oV (qO sz x i [] .e t).val
 have key:∀(b o n:Nat) (y:V),s9 sz b o n y=oV (s9 sz b o n y).val:=by
  intro b o n y;unfold s9;cases y with
  |i k m=>
   show xY sz b o n m=oV (xY sz b o n m).val;cases m with
   |ofNat m=>
    show(Bool.rec (motive:=fun _=>QR) .f (uo b (Nat.add o (Nat.mul m sz))) (Nat.blt m n))=oV (Bool.rec (motive:=fun _=>QR) .f (uo b (Nat.add o (Nat.mul m sz))) (Nat.blt m n):QR).val;cases Nat.blt m n with
    |true=>
     show uo b (Nat.add o (Nat.mul m sz))=oV (uo b (Nat.add o (Nat.mul m sz))).val;unfold uo;rw[aN];rfl
    |false=>rfl
   |negSucc m=>rfl
  |_=>rfl
 unfold qO
 cases x.ev t with
 |l b o n c=>exact key b o n _
 |u b o n e k=>exact key b o n _
 |_=>rfl
def oD(x:V):Option V:=(cS (.ln .slice (.c x)) [] .e .e).val
theorem bW1(M:Mem)(x:V):lnV .slice F M x=oD x:=Eq.trans rfl (Eq.refl _)
theorem b02(b o n c:Nat):oD (.l b o n c)=some (.i .i64 (n:Int)):=Eq.trans rfl (Eq.refl _)
theorem Yt(b o n e k:Nat):oD (.u b o n e k)=some (.i .i64 (n:Int)):=Eq.trans rfl (Eq.refl _)
theorem fv:oD .l0=some (.i .i64 0):=Eq.trans rfl (Eq.refl _)
theorem Yu(b o n:Nat):oD (.ue b o n)=some (.i .i64 0):=Eq.trans rfl (Eq.refl _)
def jP(sz:Nat)(x i:V):Option V:=(cS (.iaS sz (.c x) (.c i)) [] .e .e).val
theorem cj5(sz:Nat)(x i:X)(M:Mem)(t:T):(cS (.iaS sz x i) F M t).val=jP sz (x.ev t) (i.ev t):=Eq.trans rfl (Eq.refl _)
theorem iV(sz b o n c i:Nat)(k:IntKind)(h:i<n):jP sz (.l b o n c) (.i k (i:Int))=some (.p b (o+i*sz)):=by
 show(xY sz b o n (Int.ofNat i)).val=_
 show(Bool.rec (motive:=fun _=>QR) .f (uo b (Nat.add o (Nat.mul i sz))) (Nat.blt i n)).val=_
 rw[bb,dY,ae h,ac rfl]
 unfold uo;rw[aN];rfl
theorem b00(sz b o n e kn i:Nat)(k:IntKind)(h:i<n):jP sz (.u b o n e kn) (.i k (i:Int))=some (.p b (o+i*sz)):=by
 show(xY sz b o n (Int.ofNat i)).val=_
 show(Bool.rec (motive:=fun _=>QR) .f (uo b (Nat.add o (Nat.mul i sz))) (Nat.blt i n)).val=_
 rw[bb,dY,ae h,ac rfl]
 unfold uo;rw[aN];rfl
end
section
variable{Φ:Nat→Option CF}{rd:Option Nat}{fn:Nat}{F:RO}
def sV(l:List UInt8):V:= .s l.length (bH l)
def bV(c:UInt8):V:= .i .u8 (c.toNat:Int)
theorem Zp:bH []=0:=rfl
theorem o9(c:UInt8)(l:List UInt8):bH (c::l)=c.toNat+256*bH l:=rfl
theorem uv:∀l:List UInt8,bH l<256^l.length
 |[]=>by decide
 |c::l=>by
  have:=uv l;have hc:=UInt8.toNat_lt c;rw[o9,aX,Nat.pow_succ];omega
theorem tq(a b:List UInt8):bH (a++b)=bH a+256^a.length*bH b:=by
 induction a with
 |nil=>simp[Zp]
 |cons c a ih=>
  rw[List.cons_append,o9,o9,ih,aX,Nat.pow_succ,Nat.mul_add,←Nat.mul_assoc,Nat.mul_comm 256 (256^a.length)];omega
theorem aq5(l:List UInt8)(n x:Nat)(h:bl n x=l):x%256^n=bH l:=by
 have hn:l.length=n:=by rw[←h];exact eW n x
 have e:bl n x=bl n (bH l):=by rw[h];have:=iM l;rw[hn]at this;exact this.symm
 have:=Xn n x (bH l) e
 rw[this]
 exact Nat.mod_eq_of_lt (by have:=uv l;rwa [hn]at this)
theorem zu(l:List UInt8)(n:Nat)(h:n≤l.length):bH (l.take n)=bH l%256^n:=by
 symm
 refine aq5 _ n _ ?_
 rw[←A1 n l.length (bH l) h,iM]
theorem zt(l:List UInt8)(n:Nat)(h:n≤l.length):bH (l.drop n)=bH l/256^n:=by
 have e:=tq (l.take n) (l.drop n)
 rw[List.take_append_drop,zu l n h,List.length_take,Nat.min_eq_left h]at e
 have h0:0<256^n:=Nat.pow_pos (by decide)
 rw[e,Nat.add_mul_div_left _ _ h0,Nat.div_eq_of_lt (Nat.mod_lt _ h0),Nat.zero_add]
theorem qZ(l:List UInt8)(i:Nat)(h:i<l.length):bH l/256^i%256=(l[i]).toNat:=by
 rw[←zt l i (by omega),eN h,o9]
 have:=UInt8.toNat_lt l[i]
 omega
theorem bf1(l:List UInt8)(M:Mem):lnV .str F M (sV l)=some (.i .i64 (l.length:Int)):=rfl
theorem oC(l:List UInt8)(k:IntKind)(i:Nat)(h:i<l.length):rP (sV l) (.i k (i:Int))=some (bV l[i]):=by
 show(np l.length (bH l) i).val=_
 show(Bool.rec (motive:=fun _=>QR) QR.f (fN (Nat.mod (Nat.div (bH l) (j8 i)) 256) fun c=>QR.v (.i .u8 (.ofNat c))) (Nat.blt i l.length)).val=_
 rw[bb,dY,ac (by simpa using h),aN]
 show some (V.i .u8 (((bH l/256^i%256:Nat)):Int))=_
 rw[qZ l i h];rfl
theorem AF(a b:List UInt8):nE a.length (bH a) b.length (bH b)=decide (a=b):=by
 rw[jy,iM,iM]
theorem gk(a b:List UInt8):bD .eql (sV a) (sV b)=some (.b (decide (a=b))):=by
 show(vB (nE a.length (bH a) b.length (bH b))).val=_
 rw[AF]
 cases decide (a=b)<;>rfl
theorem pi(a b:List UInt8):bD .neq (sV a) (sV b)=some (.b (!decide (a=b))):=by
 show(vB (!nE a.length (bH a) b.length (bH b))).val=_
 rw[AF]
 cases decide (a=b)<;>rfl
theorem Lb(lit:Bool)(M:Mem)(a b:List UInt8):La F M .str lit (sV a) (sV b)=some (decide (a=b)):=by
 show some (nE a.length (bH a) b.length (bH b))=_
 rw[AF]
theorem ai8(lit:Bool)(M:Mem)(a b:List UInt8):xB F M .str lit (sV a) (sV b)=some (decide (a=b)):=Lb (F:=F) lit M a b
theorem nR(a b:List UInt8)(h:a.length+b.length≤1099511627776):bD .add (sV a) (sV b)=some (sV (a++b)):=by
 show(m4 a.length (bH a) b.length (bH b)).val=_
 have e:m4 a.length (bH a) b.length (bH b)=QR.v (sV (a++b)):=by
  unfold m4;rw[bL,show decide (Nat.add a.length b.length≤1099511627776)=true from ae h,cond_true];show(fN (a.length+b.length) fun n=>fN (bH a%256^a.length+256^a.length*bH b) fun x=>QR.v (.s n x))=_;rw[aN,aN,Nat.mod_eq_of_lt (uv a),←tq,←bw];rfl
 rw[e];rfl
def D4(x:V)(lo hi:Option V):Option V:=(cS (.slS (.c x) (lo.map .c) (hi.map .c)) [] .e .e).val
theorem nk(tm:T)(d:Nat)(o:Option X):optN .e d ((o.map fun x=>x.ev tm).map .c)=optN tm d o:=by cases o<;>rfl
theorem b30(x:X)(lo hi:Option X)(M:Mem)(t:T):(cS (.slS x lo hi) F M t).val=D4 (x.ev t) (lo.map fun x=>x.ev t) (hi.map fun x=>x.ev t):=by
 show(wt x lo hi F M t).val=(wt (.c (x.ev t)) _ _ [] .e .e).val
 unfold wt
 rw[nk]
 show _=(oT (x.ev t) .f fun n s=>jU n s (optN t 0 lo) (optN .e n ((hi.map fun x=>x.ev t).map .c))).val
 congr 2
 funext n s
 rw[nk]
theorem bi9(l:List UInt8)(i j:Nat)(hi:i≤j)(hj:j≤l.length):(jU l.length (bH l) (some i) (some j)).val=some (sV ((l.take j).drop i)):=by
 have e:jU l.length (bH l) (some i) (some j)=QR.v (sV ((l.take j).drop i)):=by
  show(Bool.rec (motive:=fun _=>QR) .f (Bool.rec (motive:=fun _=>QR) .f (vS (j-i) (bH l/256^i%256^(j-i))) (Nat.ble j l.length)) (Nat.ble i j))=_;rw[bb,bb,bL,bL,ac (by simpa using hi),ac (by simpa using hj)];show(fN (j-i) fun n=>fN (bH l/256^i%256^(j-i)) fun x=>QR.v (.s n x))=_;rw[aN,aN];have e1:(l.take j).drop i=(l.drop i).take (j-i):=by rw[List.drop_take]
  rw[e1];unfold sV;rw[zu _ _ (by simp;omega),zt _ _ (by omega),List.length_take,bP,Nat.min_eq_left (by omega)]
 rw[e];rfl
theorem tl(l:List UInt8)(k:IntKind)(i:Nat)(hi:i≤l.length):D4 (sV l) (some (.i k (i:Int))) none=some (sV (l.drop i)):=by
 have:=bi9 l i l.length hi (by omega)
 rw[List.take_length]at this
 exact this
theorem D5(l:List UInt8)(k:IntKind)(j:Nat)(hj:j≤l.length):D4 (sV l) none (some (.i k (j:Int)))=some (sV (l.take j)):=by
 have:=bi9 l 0 j (by omega) hj
 rw[List.drop_zero]at this
 exact this
theorem b15(l:List UInt8)(k k':IntKind)(i j:Nat)(hi:i≤j)(hj:j≤l.length):D4 (sV l) (some (.i k (i:Int))) (some (.i k' (j:Int)))=some (sV ((l.take j).drop i)):=bi9 l i j hi hj
theorem kr:∀l:List UInt8,bM l.length (bH l)=l.map bV
 |[]=>rfl
 |c::l=>by
  have hc:=UInt8.toNat_lt c;show(fN ((c.toNat+256*bH l)%256) fun d=>V.i .u8 (.ofNat d)::bM l.length ((c.toNat+256*bH l)/256))=_;rw[aN,show(c.toNat+256*bH l)%256=c.toNat by omega,show(c.toNat+256*bH l)/256=bH l by omega,kr l];rfl
theorem qh:∀l:List UInt8,gm (l.map bV)=some (l.length,bH l)
 |[]=>rfl
 |c::l=>by
  have hc:=UInt8.toNat_lt c;rw[List.map_cons];show(match gm (l.map bV)with|some (n,x)=>some (Nat.succ n,Nat.add (Nat.mod c.toNat 256) (Nat.mul 256 x))|none=>none)=_;rw[qh l];show some (l.length+1,c.toNat%256+256*bH l)=_;rw[Nat.mod_eq_of_lt (by omega)];rfl
theorem gJ:∀l:List UInt8,bv (l.map bV)=true
 |[]=>rfl
 |c::l=>by rw[List.map_cons,dh,gJ l];rfl
end
end
end Go.Proofs.YtdnddpmjnlagfaaGreatDoor.Ev
