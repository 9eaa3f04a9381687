/- What is proved here: pieces of the evaluator's soundness: if the evaluator comes to a value, the model's run comes to it, for every world and tape; no conditions beyond the hypotheses of each theorem. -/
import Derived.Test.YtkcelmimbmbfkaaGreatDoorEv2
import GoSem.ClaimChange
import Derived.Lib.LaidTab
import GoSem.ClaimJoined
set_option linter.unusedSimpArgs false
set_option linter.unusedVariables false
set_option linter.defProp false
namespace Go.Proofs.YtkcelmimbmbfkaaGreatDoor.Ev
open Go
noncomputable section
structure uy(P:Program)(E:cT)(F:RO)(m:Nat→Option bz)(c:Nat→Prop)(w:World):Prop where
 has:∀b blk,(m b=some blk∨(m b=none∧aZ F b=some blk))→c b∧ff c blk∧ ∃o,w.heap[E.ρ b]?=some o∧fe P E b blk o
 inj:∀b b',(m b≠none∨aZ F b≠none)→(m b'≠none∨aZ F b'≠none)→E.ρ b=E.ρ b'→b=b'
 apart:∀b,(aZ F b).isSome→m b=none
structure yy(P:Program)(F:RO)(E:cT)(m:Nat→Option bz)(c:Nat→Prop)(w:World)(E':cT)(m':Nat→Option bz)(c':Nat→Prop)(w':World):Prop where
 ext:qe c E E'
 le:∀b,c b→c' b
 rel:uy P E' F m' c' w'
 own:∀b,m' b≠none→(∃b0,m b0≠none∧E.ρ b0=E'.ρ b)∨w.heap.size≤E'.ρ b
 frame:∀r,r<w.heap.size→(∀b,m b≠none→E.ρ b≠r)→w'.heap[r]?=w.heap[r]?
 size:w.heap.size≤w'.heap.size
 os:w'.os=w.os
 output:w'.output=w.output
 tape:w'.tape=w.tape
section
variable{P:Program}{E E' E₁ E₂:cT}{F F1:RO}{M M' M1:Mem}{m m' m₁ m₂:Nat→Option bz}{c c' c₁ c₂:Nat→Prop}{w w' w₁ w₂:World}
theorem yy.trans(h:yy P F E m c w E₁ m₁ c₁ w₁)(h':yy P F E₁ m₁ c₁ w₁ E₂ m₂ c₂ w₂):yy P F E m c w E₂ m₂ c₂ w₂ where
 ext:=h.ext.trans h'.ext h.le
 le:=fun b hb=>h'.le b (h.le b hb)
 rel:=h'.rel
 own:=by
  intro b hb;rcases h'.own b hb with⟨b1,h1,e1⟩|h1
  ·rcases h.own b1 h1 with⟨b0,h0,e0⟩|h0
   ·exact .inl ⟨b0,h0,e0.trans e1⟩
   ·exact .inr (e1▸h0)
  ·exact .inr (bm h.size h1)
 frame:=by
  intro r hr hn;rw[h'.frame r (Nat.lt_of_lt_of_le hr h.size),h.frame r hr hn];intro b1 h1 e;rcases h.own b1 h1 with⟨b0,h0,e0⟩|h0
  ·exact hn b0 h0 (e0.trans e)
  ·omega
 size:=bm h.size h'.size
 os:=h'.os.trans h.os
 output:=h'.output.trans h.output
 tape:=h'.tape.trans h.tape
theorem pO{b:Nat}{blk:bz}(h:look F M b=some blk):M.get b=some blk∨(M.get b=none∧aZ F b=some blk):=by
 cases hm:M.get b with
 |none=>rw[aO hm]at h;exact .inr ⟨rfl,h⟩
 |some x=>rw[am hm]at h;exact .inl h
theorem wN{b:Nat}{blk:bz}(h:M.get b=some blk∨(M.get b=none∧aZ F b=some blk)):look F M b=some blk:=by
 rcases h with h|h
 ·exact am h
 ·rw[aO h.1];exact h.2
theorem uy.of(h:kj P E F M c w)(hm:∀b,m b=M.get b):uy P E F m c w where
 has:=fun b blk hb=>h.has b blk (wN (by rw[←hm b];exact hb))
 inj:=fun b b' hb hb'=>by
  have key:∀x,(m x≠none∨aZ F x≠none)→(look F M x).isSome:=by
   intro x hx;rw[hm x]at hx;cases hM:M.get x with
   |some y=>rw[am hM];rfl
   |none=>
    rw[aO hM];rcases hx with hx|hx
    ·exact absurd hM hx
    ·cases hr:aZ F x with
     |none=>exact absurd hr hx
     |some _=>rfl
  exact h.inj b b' (key b hb) (key b' hb')
 apart:=fun b hb=>by rw[hm b];exact h.apart b hb
theorem kj.ofM(h:uy P E F m c w)(hm:∀b,m b=M.get b):kj P E F M c w where
 has:=fun b blk hb=>h.has b blk (by rw[hm b];exact pO hb)
 inj:=fun b b' hb hb'=>by
  have key:∀x,(look F M x).isSome→(m x≠none∨aZ F x≠none):=by
   intro x hx;obtain⟨y,hy⟩:=bn.1 hx;rw[hm x];rcases pO hy with h1|h1
   ·exact .inl (by rw[h1];exact(fun h=>by cases h))
   ·exact .inr (by rw[h1.2];exact(fun h=>by cases h))
  exact h.inj b b' (key b hb) (key b' hb')
 apart:=fun b hb=>by rw[←hm b];exact h.apart b hb
theorem uy.part(h:uy P E F m c w)(sub:∀b blk,M1.get b=some blk→m b=some blk)
 (ro:∀b blk,aZ F1 b=some blk→(m b=some blk∧M1.get b=none)∨aZ F b=some blk):kj P E F1 M1 c w:=by
 have key:∀b blk,look F1 M1 b=some blk→m b=some blk∨(m b=none∧aZ F b=some blk):=by
  intro b blk hb;rcases pO hb with h1|h1
  ·exact .inl (sub b blk h1)
  ·rcases ro b blk h1.2 with h2|h2
   ·exact .inl h2.1
   ·exact .inr ⟨h.apart b (by rw[h2];rfl),h2⟩
 have key2:∀b,(look F1 M1 b).isSome→m b≠none∨aZ F b≠none:=by
  intro b hb;obtain⟨y,hy⟩:=bn.1 hb;rcases key b y hy with h1|h1
  ·exact .inl (by rw[h1];exact(fun h=>by cases h))
  ·exact .inr (by rw[h1.2];exact(fun h=>by cases h))
 refine⟨fun b blk hb=>h.has b blk (key b blk hb),fun b b' hb hb'=>h.inj b b' (key2 b hb) (key2 b' hb'),fun b hb=>?_⟩
 obtain⟨y,hy⟩:=bn.1 hb
 rcases ro b y hy with h2|h2
 ·exact h2.2
 ·cases hM:M1.get b with
  |none=>rfl
  |some z=>
   have:=h.apart b (by rw[h2];rfl);rw[sub b z hM]at this;cases this
theorem uy.step(h:uy P E F m c w)(sub:∀b blk,M1.get b=some blk→m b=some blk)
 (new:∀b,(aZ F b).isSome→M'.get b=none) (hS:mG P F1 E M1 c w E' M' c' w'):yy P F E m c w E' (ej M1 M' m) c' w':=by
 have kept:∀b blk,M1.get b=none→(m b=some blk∨(m b=none∧aZ F b=some blk))→c b∧ff c blk∧ ∃o,w'.heap[E.ρ b]?=some o∧fe P E b blk o:=by
  intro b blk hn hb;obtain⟨h1,h2,o,h3,h4⟩:=h.has b blk hb;refine⟨h1,h2,o,?_,h4⟩;rw[hS.frame (E.ρ b) (Array.getElem?_eq_some_iff.1 h3).1,h3];intro b1 hb1 e;obtain⟨y,hy⟩:=bn.1 hb1;have hb':m b≠none∨aZ F b≠none:=by
   rcases hb with hb|hb
   ·exact .inl (by rw[hb];exact(fun h=>by cases h))
   ·exact .inr (by rw[hb.2];exact(fun h=>by cases h))
  have:=h.inj b1 b (.inl (by rw[sub b1 y hy];exact(fun h=>by cases h))) hb' e;rw[this,hn]at hy;cases hy
 have hlt:∀b,(m b≠none∨aZ F b≠none)→E.ρ b<w.heap.size∧c b:=by
  intro b hb;have:∃blk,m b=some blk∨(m b=none∧aZ F b=some blk):=by
   cases hm:m b with
   |some y=>exact⟨y,.inl rfl⟩
   |none=>
    rcases hb with hb|hb
    ·exact absurd hm hb
    ·cases hr:aZ F b with
     |none=>exact absurd hr hb
     |some y=>exact⟨y,.inr ⟨rfl,rfl⟩⟩
  obtain⟨blk,hblk⟩:=this;obtain⟨h1,_,o,h3,_⟩:=h.has b blk hblk;exact⟨(Array.getElem?_eq_some_iff.1 h3).1,h1⟩
 have split:∀b,(ej M1 M' m b≠none∨aZ F b≠none)→(M1.get b=none∧(m b≠none∨aZ F b≠none))∨M'.get b≠none:=by
  intro b hb;rcases hb with hb|hb
  ·unfold ej at hb;split at hb
   ·rename_i hc;exact .inl ⟨hc.1,.inl hc.2⟩
   ·exact .inr hb
  ·left;refine⟨?_,.inr hb⟩;have:=h.apart b (by cases hr:aZ F b with|none=>exact absurd hr hb|some _=>rfl);cases hM:M1.get b with
   |none=>rfl
   |some y=>rw[sub b y hM]at this;cases this
 refine⟨hS.ext,hS.le,⟨?_,?_,?_⟩,?_,?_,hS.size,hS.os,hS.output,hS.tape⟩
 ·intro b blk hb;have fin:M1.get b=none→(m b=some blk∨(m b=none∧aZ F b=some blk))→c' b∧ff c' blk∧ ∃o,w'.heap[E'.ρ b]?=some o∧fe P E' b blk o:=by
   intro hn hk;obtain⟨h1,h2,o,h3,h4⟩:=kept b blk hn hk;exact⟨hS.le b h1,fp hS.le blk h2,o,by rw[hS.ext.ρ b h1];exact h3,h4.ext hS.ext h1 h2⟩
  rcases hb with hb|hb
  ·unfold ej at hb;split at hb
   ·rename_i hc;exact fin hc.1 (.inl hb)
   ·exact hS.rel.has b blk (am hb)
  ·have hap:=h.apart b (by rw[hb.2];rfl);refine fin ?_ (.inr ⟨hap,hb.2⟩);cases hM:M1.get b with
   |none=>rfl
   |some y=>rw[sub b y hM]at hap;cases hap
 ·intro b b' hb hb' e;rcases split b hb with⟨h1,h2⟩|h1
  ·obtain⟨l1,l2⟩:=hlt b h2;rcases split b' hb' with⟨h1',h2'⟩|h1'
   ·obtain⟨l1',l2'⟩:=hlt b' h2';rw[hS.ext.ρ b l2,hS.ext.ρ b' l2']at e;exact h.inj b b' h2 h2' e
   ·exfalso;rw[hS.ext.ρ b l2]at e;rcases hS.own b' (by cases hM:M'.get b' with|none=>exact absurd hM h1'|some _=>rfl)with⟨b0,h0,e0⟩|h0
    ·obtain⟨y,hy⟩:=bn.1 h0;have:=h.inj b0 b (.inl (by rw[sub b0 y hy];exact(fun h=>by cases h))) h2 (e0.trans e.symm);rw[this,h1]at hy;cases hy
    ·omega
  ·rcases split b' hb' with⟨h1',h2'⟩|h1'
   ·exfalso;obtain⟨l1',l2'⟩:=hlt b' h2';rw[hS.ext.ρ b' l2']at e;rcases hS.own b (by cases hM:M'.get b with|none=>exact absurd hM h1|some _=>rfl)with⟨b0,h0,e0⟩|h0
    ·obtain⟨y,hy⟩:=bn.1 h0;have:=h.inj b0 b' (.inl (by rw[sub b0 y hy];exact(fun h=>by cases h))) h2' (e0.trans e);rw[this,h1']at hy;cases hy
    ·omega
   ·have hs:∀x,M'.get x≠none→(look F1 M' x).isSome:=by
     intro x hx;cases hM:M'.get x with
     |none=>exact absurd hM hx
     |some y=>rw[am hM];rfl
    exact hS.rel.inj b b' (hs b h1) (hs b' h1') e
 ·intro b hb;unfold ej;rw[ab (fun hc=>hc.2 (h.apart b hb))];exact new b hb
 ·intro b hb;rcases split b (.inl hb)with⟨h1,h2⟩|h1
  ·obtain⟨l1,l2⟩:=hlt b h2;left;refine⟨b,?_,(hS.ext.ρ b l2).symm⟩;unfold ej at hb;split at hb
   ·exact hb
   ·rcases h2 with h2|h2
    ·exact h2
    ·exact absurd (new b (by cases hr:aZ F b with|none=>exact absurd hr h2|some _=>rfl)) hb
  ·rcases hS.own b (by cases hM:M'.get b with|none=>exact absurd hM h1|some _=>rfl)with⟨b0,h0,e0⟩|h0
   ·obtain⟨y,hy⟩:=bn.1 h0;exact .inl ⟨b0,by rw[sub b0 y hy];exact(fun h=>by cases h),e0⟩
   ·exact .inr h0
 ·intro r hr hn;refine hS.frame r hr fun b hb=>hn b ?_;obtain⟨y,hy⟩:=bn.1 hb;rw[sub b y hy];exact(fun h=>by cases h)
theorem Mj(m:Nat→Option bz):ej .e .e m=m:=by
 funext b
 unfold ej
 split
 ·rfl
 ·rename_i h;cases hm:m b with
  |none=>rfl
  |some y=>exact absurd ⟨rfl,by rw[hm];exact(fun h=>by cases h)⟩ h
theorem Cr(m:Nat→Option bz)(b:Nat)(blk:bz)(h:m b=none):ej .e (Tr.set .e b blk) m=kb m b blk:=by
 funext x
 unfold ej kb
 by_cases e:x=b
 ·rw[ac e,ab (fun hc=>hc.2 (by rw[e];exact h)),Tr.get_set,ac e]
 ·rw[ab e];split
  ·rfl
  ·rename_i hc;rw[Tr.get_set,ab e];cases hm:m x with
   |none=>rfl
   |some y=>exact absurd ⟨rfl,by rw[hm];exact(fun h=>by cases h)⟩ hc
end
structure SM(P:Program)(F:RO)(rd:Option Nat)(nt base:Nat)(d:List Nat)(E:cT)(c:Nat→Prop)(w:World)(a:Act)(s:SS)(rem:Nat→Prop):Prop where
 rel:uy P E F s.m c w
 glob:∀g,g<1000→E.ρ g=g∧E.β g=0
 big:∀g,g<1000→c g
 tr:rE E s.t a.tmps
 bt:U5 c s.t
 fr:gb c s.ct
 le:base≤s.ct
 res:∀i,rem i→ ¬c (base+i)∧base+i<s.ct
 df:a.defers=d.map fun b=>{target:= .collected (E.ρ b),args:=#[]}
 dc:∀b∈d,c b
 sz:nt≤a.tmps.size
 rd:∀l,rd=some l→c l
section
variable{P:Program}{E E':cT}{F:RO}{c c':Nat→Prop}{nt base:Nat}{w w':World}{a:Act}{rd:Option Nat}{d:List Nat}{s s':SS}{rem rem':Nat→Prop}{k:Kn}
theorem SM.next(h:SM P F rd nt base d E c w a s rem){m':Nat→Option bz}(hS:yy P F E s.m c w E' m' c' w'){ct':Nat}(hfr:gb c' ct')(hle:s.ct≤ct')(hres:∀i,rem' i→ ¬c' (base+i)∧base+i<ct')
 {dst:Option Nat} (hd:sS nt dst=true) {v:V} (hb:bd c' v):SM P F rd nt base d E' c' w' (a.put dst (conc E' v)) ⟨setT s.t (dst.map bq) v,m',ct'⟩ rem':=by
 refine⟨hS.rel,fun g hg=>?_,fun g hg=>hS.le g (h.big g hg),uz (h.tr.ext hS.ext h.bt) (fun j hj=>?_) rfl,yN (fun p=>dw hS.le _ (h.bt p)) hb,hfr,bm h.le hle,hres,?_,fun b hb=>hS.le b (h.dc b hb),by rw[Act.put_size];exact h.sz,fun l hl=>hS.le l (h.rd l hl)⟩
 ·rw[hS.ext.ρ g (h.big g hg),hS.ext.β g (h.big g hg)];exact h.glob g hg
 ·subst hj;have:j<nt:=by simpa [sS]using hd
  exact Nat.lt_of_lt_of_le this h.sz
 ·rw[Act.put_defers,h.df];apply List.map_congr_left;intro b hb;rw[hS.ext.ρ b (h.dc b hb)]
theorem SM.cx(h:SM P F rd nt base d E c w a s rem){F1:RO}{M1:Mem}(hr:kj P E F1 M1 c w):Cx P E F1 M1 c w s.t a:=⟨hr,h.glob,h.big,h.tr,h.bt⟩
theorem bX5(hcall:n9 P k)(hy:kw P k)(h:SM P k.F rd nt base d E c w a s rem){l:ip}(hrem:rem l.i)(hT:Tn k base k.F l s s'){ops:Array Oper}{o:Oper}(ho:ops[l.i]?=some o)(hco:xn P nt ops o=some l.co)
 {K:Act→World→Prop} {Q:Exit→Act→World→Prop}
 (hK:∀E' c' a' w',yy P k.F E s.m c w E' s'.m c' w'→(∀b,c' b→c b∨(base≤b∧b<s'.ct))→s.ct≤s'.ct→SM P k.F rd nt base d E' c' w' a' s' (fun j=>rem j∧j≠l.i)→K a' w'):
 wpOpIn (d7 E rd) 0 P ops Q l.i K a w:=by
 obtain⟨hd,g,op,hcoe,hg,hop⟩:=uT hco
 have hgu:=AH h.tr hg
 unfold wpOpIn
 simp only[ho]
 rw[hgu]
 rw[px]at hT
 obtain⟨hcan,rfl⟩:=hT
 have hdst:l.co.dst=o.dst.map bq:=by rw[hcoe];rfl
 have hguard:l.co.guard=g:=by rw[hcoe];rfl
 have hopc:l.co.op=op:=by rw[hcoe];rfl
 have hrelE:kj P E [] .e c w:=h.rel.part (fun b blk hb=>by cases hb) (fun b blk hb=>by cases hb)
 have quiet:∀(F1:RO) (E':cT) (c':Nat→Prop) (w':World) (v:V),mG P F1 E .e c w E' .e c' w'→jl c s.ct c' s.ct→bd c' v→l.val=v→l.mem base s.m=s.m→l.ctr s.ct=s.ct→K (a.put o.dst (conc E' v)) w':=by
  intro F1 E' c' w' v hS hG hb hv hm hc;have hS':=h.rel.step (F1:=F1) (M1:= .e) (M':= .e) (fun b blk hb=>by cases hb) (fun _ _=>rfl) hS;rw[Mj]at hS'
  have hcc:∀b,c' b→c b:=fun b hb=>by
   rcases hG.new b hb with h1|h1
   ·exact h1
   ·omega
  refine hK E' c' _ w' (by rw[hm];exact hS') (fun b hb=> .inl (hcc b hb)) (by rw[hc];exact ah _) ?_;rw[hdst,hv,hm,hc];exact h.next hS' (h.fr.grow hG) (ah _) (fun i hi=>⟨fun hx=>(h.res i hi.1).1 (hcc _ hx),(h.res i hi.1).2⟩) hd hb
 unfold Lo at hcan
 cases hk:l.k with
 |skip=>
  rw[hk]at hcan;rw[hguard]at hcan;rw[ab (by rw[hcan];exact(fun h=>by cases h))];refine⟨fun _ _=>trivial,?_⟩;exact quiet [] E c w undef (.refl hrelE) (.refl _ _) trivial (by unfold ip.val;rw[hk]) (by unfold ip.mem;rw[hk]) (by unfold ip.ctr;rw[hk])
 |qv v=>
  rw[hk]at hcan;rw[hguard,hopc]at hcan;obtain⟨h1,q,rfl,h3⟩:=hcan;rw[ac h1];rcases hop with hop|hop
  ·refine ab3 (rd:=rd) (ct:=s.ct) (h.cx hrelE) hop h3 K Q fun E' c' w' hS hG hb=>?_;exact quiet [] E' c' w' v hS hG hb (by unfold ip.val;rw[hk]) (by unfold ip.mem;rw[hk]) (by unfold ip.ctr;rw[hk])
  ·injection hop with hop;subst hop;cases h3
 |qr v b=>
  rw[hk]at hcan;rw[hguard,hopc]at hcan;obtain⟨h1,q,blk,rfl,h3,h4⟩:=hcan;rw[ac h1];have hrelb:kj P E [(b,blk)] .e c w:=by
   refine h.rel.part (fun b blk hb=>by cases hb) (fun b' blk' hb=>?_);rw[fD]at hb;split at hb
   ·rename_i e;have e':b=b':=e;obtain rfl:=ae hb;subst e';rcases h3 with h3|h3
    ·exact .inl ⟨h3,rfl⟩
    ·exact .inr h3.2
   ·cases hb
  rcases hop with hop|hop
  ·refine ab3 (rd:=rd) (ct:=s.ct) (h.cx hrelb) hop h4 K Q fun E' c' w' hS hG hb=>?_;exact quiet _ E' c' w' v hS hG hb (by unfold ip.val;rw[hk]) (by unfold ip.mem;rw[hk]) (by unfold ip.ctr;rw[hk])
  ·injection hop with hop;subst hop;cases h4
 |al v blk=>
  rw[hk]at hcan;rw[hguard,hopc]at hcan;obtain⟨h1,ao,rfl,h3⟩:=hcan;rw[ac h1];rcases hop with hop|hop
  ·have hfree:=h.res l.i hrem;obtain⟨E',w',hr,hS,_,hb⟩:=aj8 (h.cx hrelE) hop hfree.1 (c':=fun b=>c b∨b=base+l.i) (.inr rfl) (fun _ h=> .inl h) h3;have hmn:s.m (base+l.i)=none:=by
    cases hm:s.m (base+l.i)with
    |none=>rfl
    |some y=>exact absurd (h.rel.has _ y (.inl hm)).1 hfree.1
   have hnF:aZ k.F (base+l.i)=none:=by
    cases hm:aZ k.F (base+l.i)with
    |none=>rfl
    |some y=>exact absurd (h.rel.has _ y (.inr ⟨hmn,hm⟩)).1 hfree.1
   have hS':=h.rel.step (F1:=[]) (M1:= .e) (M':=Tr.set .e (base+l.i) blk) (fun b blk hb=>by cases hb) (fun b hb=>by
    rw[Tr.get_set];by_cases e:b=base+l.i
    ·rw[e,hnF]at hb;cases hb
    ·rw[ab e];rfl) hS
   rw[Cr s.m _ blk hmn]at hS';have hm:l.mem base s.m=kb s.m (base+l.i) blk:=by unfold ip.mem;rw[hk]
   have hc:l.ctr s.ct=s.ct:=by unfold ip.ctr;rw[hk]
   have hv:l.val=v:=by unfold ip.val;rw[hk]
   refine⟨fun _ _=>trivial,?_⟩;rw[Oper.semAt_eq _ _ _ (fv hop),hr];refine hK E' _ _ w' (by rw[hm];exact hS') (fun b hb=>?_) (by rw[hc];exact ah _) ?_
   ·rcases hb with hb|hb
    ·exact .inl hb
    ·exact .inr (by rw[hb];exact⟨by omega,by rw[hc];exact hfree.2⟩)
   ·rw[hdst,hv,hm,hc];refine h.next hS' (fun b hb hc=>?_) (ah _) (fun i hi=>⟨fun hx=>?_,(h.res i hi.1).2⟩) hd hb
    ·rcases hc with hc|hc
     ·exact h.fr b hb hc
     ·have:=hfree.2;omega
    ·rcases hx with hx|hx
     ·exact(h.res i hi.1).1 hx
     ·exact hi.2 (by omega)
  ·cases hop
 |ef v M1 F1 M' ct ct'=>
  rw[hk]at hcan;rw[hguard,hopc]at hcan;obtain⟨h1,h0,eo,rfl,hef⟩:=hcan;rw[ac h1];rcases hop with hop|hop
  ·have hrel1:kj P E F1 M1 c w:=h.rel.part hef.sub hef.ro;have hfr:gb c ct:=by rw[←h0];exact h.fr
   refine bI3 (rd:=rd) hcall hy (h.cx hrel1) hfr hop hef.run K Q fun E' c' w' hS hG hb=>?_;have hS':=h.rel.step hef.sub hef.new hS;have hm:l.mem base s.m=ej M1 M' s.m:=by unfold ip.mem;rw[hk]
   have hc:l.ctr s.ct=ct':=by unfold ip.ctr;rw[hk]
   have hv:l.val=v:=by unfold ip.val;rw[hk]
   have hle:=h.le;have hGle:=hG.le;refine hK E' c' _ w' (by rw[hm];exact hS') (fun b hb=>?_) (by rw[hc,h0];exact hGle) ?_
   ·rcases hG.new b hb with h2|h2
    ·exact .inl h2
    ·exact .inr (by rw[hc];exact⟨by omega,h2.2⟩)
   ·rw[hdst,hv,hm,hc];refine h.next hS' (hfr.grow hG) (by rw[h0];exact hGle) (fun i hi=>?_) hd hb
    have:=h.res i hi.1;refine⟨fun hx=>?_,by omega⟩;rcases hG.new _ hx with h2|h2
    ·exact this.1 h2
    ·omega
  ·cases hop
theorem xY(ms:List Nat):∀(es:List Edge) (x:Nat),testBit (mask1 ms es) x=true↔ ∃e∈es,Region.binds .any e=true∧(e.on=x∨testBit ((ms[e.on]?).getD 0) x=true):=by
 have key:∀m i,testBit m i=Nat.testBit m i:=by
  intro m i;show Nat.beq (m/2^i%2) 1=Nat.testBit m i;rw[bp,Nat.testBit_eq_decide_div_mod_eq]
 intro es
 induction es with
 |nil=>intro x;rw[key];simp[mask1]
 |cons e r ih=>
  intro x;rw[mask1];cases hb:Region.binds .any e with
  |true=>
   rw[cond_true,key];show Nat.testBit ((2^e.on|||(ms[e.on]?).getD 0)|||mask1 ms r) x=true↔_;rw[Nat.testBit_or,Nat.testBit_or,Bool.or_eq_true,Bool.or_eq_true,←key (mask1 ms r),ih,Nat.testBit_two_pow,←key];constructor
   ·rintro((h|h)|⟨e',h1,h2⟩)
    ·exact⟨e,by simp,hb,.inl (by simpa using h)⟩
    ·exact⟨e,by simp,hb,.inr h⟩
    ·exact⟨e',bc _ h1,h2⟩
   ·rintro⟨e',h1,h2,h3⟩;rcases bj.1 h1 with rfl|h1
    ·rcases h3 with h3|h3
     ·exact .inl (.inl (by simpa using h3))
     ·exact .inl (.inr h3)
    ·exact .inr ⟨e',h1,h2,h3⟩
  |false=>
   rw[cond_false,ih];constructor
   ·rintro⟨e',h1,h2⟩;exact⟨e',bc _ h1,h2⟩
   ·rintro⟨e',h1,h2,h3⟩;rcases bj.1 h1 with rfl|h1
    ·rw[hb]at h2;cases h2
    ·exact⟨e',h1,h2,h3⟩
theorem Ee{m n x:Nat}(h:m<2^n)(hx:testBit m x=true):x<n:=by
 have key:testBit m x=Nat.testBit m x:=by
  show Nat.beq (m/2^x%2) 1=Nat.testBit m x;rw[bp,Nat.testBit_eq_decide_div_mod_eq]
 rw[key]at hx
 rcases Nat.lt_or_ge x n with h1|h1
 ·exact h1
 ·have:m<2^x:=Nat.lt_of_lt_of_le h (Nat.pow_le_pow_right (by omega) h1);rw[Nat.testBit_lt_two_pow this]at hx;cases hx
structure aj3(P:Program)(nt:Nat)(ops:Array Oper)(ms:List Nat)(l:ip)(o:Oper):Prop where
 op:ops[l.i]?=some o
 co:xn P nt ops o=some l.co
 mask:l.mask=mask1 ms o.after.toList
 self:testBit l.mask l.i=false
 lt:l.mask<2^ops.size
theorem b66(hcall:n9 P k)(hy:kw P k){ops:Array Oper}{ms:List Nat}(hms:∀(j:Nat) (o:Oper),ops[j]?=some o→ms[j]?=some (mask1 ms o.after.toList)){Q:Exit→Act→World→Prop}{s':SS}:
 ∀(fuel:Nat) (L:List ip) (listed:Array Bool) (E:cT) (c:Nat→Prop) (w:World) (a:Act) (s:SS),L.length≤fuel→sG k base k.F L s s'→L.Pairwise (ux base)→
 SM P k.F rd nt base d E c w a s (fun j=>∃l∈L,l.i=j)→listed.size=ops.size→(∀j,j<ops.size→(listed.getD j true=false↔ ∃l∈L,l.i=j))→
 (∀(j:Nat) (o:Oper),ops[j]?=some o→listed.getD j false=true→ ∀x,testBit (mask1 ms o.after.toList) x=true→listed.getD x false=true)→
 (∀l∈L,∃o,aj3 P nt ops ms l o)→
 (∀E' c' a' w',yy P k.F E s.m c w E' s'.m c' w'→(∀b,c' b→c b∨(base≤b∧b<s'.ct))→s.ct≤s'.ct→SM P k.F rd nt base d E' c' w' a' s' (fun _=>False)→Q .normal a' w')→
 yy P k.F E s.m c w E s.m c w→wpAnyIn (d7 E rd) 0 P .any ops Q fuel listed a w:=by
 intro fuel
 induction fuel with
 |zero=>
  intro L listed E c w a s hlen hC hPW hSM hsz hun hdown hlab hQ hrefl;have hL:L=[]:=by cases L<;>simp_all
  subst hL;have hs:s=s':=hC;subst hs;refine⟨?_,?_⟩
  ·rw[List.eq_nil_iff_forall_not_mem];intro j hj;obtain⟨h0,o,ho,_⟩:=mem_ready.1 hj;have hjlt:j<ops.size:=(Array.getElem?_eq_some_iff.1 ho).1;obtain⟨l,hl,_⟩:=(hun j hjlt).1 h0;cases hl
  ·refine hQ E c a w hrefl (fun b hb=> .inl hb) (ah _) ?_;exact{hSM with res:=fun i hi=>hi.elim}
 |succ fuel ih=>
  intro L listed E c w a s hlen hC hPW hSM hsz hun hdown hlab hQ hrefl;refine⟨?_,?_⟩
  ·intro hr;cases L with
   |nil=>
    have hs:s=s':=hC;subst hs;refine hQ E c a w hrefl (fun b hb=> .inl hb) (ah _) ?_;exact{hSM with res:=fun i hi=>hi.elim}
   |cons h r=>
    exfalso;obtain⟨o,hlo⟩:=hlab h (bh ..);have hlt:h.i<ops.size:=(Array.getElem?_eq_some_iff.1 hlo.op).1;have:h.i∈Region.ready .any ops listed:=by
     refine mem_ready.2 ⟨(hun h.i hlt).2 ⟨h,bh ..,rfl⟩,o,hlo.op,fun e he hb=>?_⟩;have htb:testBit h.mask e.on=true:=by
      rw[hlo.mask];exact(xY ms _ _).2 ⟨e,by simpa using he,hb,.inl rfl⟩
     have helt:=Ee hlo.lt htb;cases hg:listed.getD e.on false with
     |true=>rfl
     |false=>
      exfalso;have hg':listed.getD e.on true=false:=by
       have h1:e.on<listed.size:=by omega
       simp[Array.getD,h1]at hg⊢;exact hg
      obtain⟨l,hl,hli⟩:=(hun e.on helt).1 hg';rcases bj.1 hl with rfl|hl
      ·rw[←hli,hlo.self]at htb;cases htb
      ·have:=((List.pairwise_cons.1 hPW).1 l hl).1;rw[hli,htb]at this;cases this
    rw[hr]at this;cases this
  ·intro i hi;obtain⟨h0,oi,hoi,hall⟩:=mem_ready.1 hi;have hilt:i<ops.size:=(Array.getElem?_eq_some_iff.1 hoi).1;obtain⟨y,hyL,rfl⟩:=(hun i hilt).1 h0;obtain⟨L1,L2,rfl⟩:=List.append_of_mem hyL;obtain⟨o,hlo⟩:=hlab y hyL;have hoo:o=oi:=by have:=hlo.op;rw[hoi]at this;exact(ae this).symm
   subst hoo
   have hmy:∀x,testBit y.mask x=true→listed.getD x false=true:=by
    intro x hx;rw[hlo.mask]at hx;obtain⟨e,he,hb,hx⟩:=(xY ms _ _).1 hx;have hle:=hall e (by simpa using he) hb;rcases hx with hx|hx
    ·rw[←hx];exact hle
    ·have helt:e.on<ops.size:=by
      rcases Nat.lt_or_ge e.on listed.size with h1|h1
      ·omega
      ·have h2:¬e.on<listed.size:=by omega
       simp[Array.getD,h2]at hle
     have hoe:ops[e.on]?=some ops[e.on]:=Array.getElem?_eq_some_iff.2 ⟨helt,rfl⟩;rw[hms e.on _ hoe]at hx;exact hdown e.on _ hoe hle x hx
   have hpw1:∀x∈L1,ux base x y:=by
    intro x hx;exact(List.pairwise_append.1 hPW).2.2 x hx y (bh ..)
   have hunl:∀x∈L1++y::L2,listed.getD x.i true=false:=by
    intro x hx;obtain⟨ox,hox⟩:=hlab x hx;exact(hun x.i (Array.getElem?_eq_some_iff.1 hox.op).1).2 ⟨x,hx,rfl⟩
   have hap:∀x∈L1,ES base x y:=by
    intro x hx;rcases(hpw1 x hx).2.2 with hb|hb
    ·exfalso;have h1:=hmy _ hb;have h2:=hunl x (List.mem_append_left _ hx);rcases Nat.lt_or_ge x.i listed.size with h3|h3
     ·simp[Array.getD,h3]at h1 h2;rw[h1]at h2;cases h2
     ·have h4:¬x.i<listed.size:=by omega
      simp[Array.getD,h4]at h1
    ·exact hb
   obtain⟨s1,hT,hC'⟩:=sG.move L1 s hap hC;refine bX5 hcall hy hSM ⟨y,hyL,rfl⟩ hT hlo.op hlo.co fun E' c' a' w' hS hnew hct hSM'=>?_;have hPW':(L1++L2).Pairwise (ux base):=hPW.sublist (List.Sublist.append_left (List.sublist_cons_self ..) _);have hmem:∀x,x∈L1++L2→x∈L1++y::L2:=by
    intro x hx;rcases List.mem_append.1 hx with hx|hx
    ·exact List.mem_append_left _ hx
    ·exact List.mem_append_right _ (bc _ hx)
   have hne:∀x,x∈L1++L2→x.i≠y.i:=by
    intro x hx;rcases List.mem_append.1 hx with hx|hx
    ·exact(hpw1 x hx).2.1
    ·have:=(List.pairwise_cons.1 (List.pairwise_append.1 hPW).2.1).1 x hx;exact fun e=>this.2.1 e.symm
   have hback:∀x,x∈L1++y::L2→x.i≠y.i→x∈L1++L2:=by
    intro x hx hxi;rcases List.mem_append.1 hx with hx|hx
    ·exact List.mem_append_left _ hx
    ·rcases bj.1 hx with rfl|hx
     ·exact absurd rfl hxi
     ·exact List.mem_append_right _ hx
   have hfe:d7 E rd=d7 E' rd:=(gv hS.ext hSM.rd).symm;rw[hfe];refine ih (L1++L2) (listed.setIfInBounds y.i true) E' c' w' a' s1 ?_ hC' hPW' ?_ (by simpa using hsz) ?_ ?_ (fun l hl=>hlab l (hmem l hl)) ?_ ?_
   ·simp only[bE,bk]at hlen⊢;omega
   ·refine{hSM' with res:=fun j hj=>?_};obtain⟨x,hx,hxj⟩:=hj;exact hSM'.res j ⟨⟨x,hmem x hx,hxj⟩,by rw[←hxj];exact hne x hx⟩
   ·intro j hj;by_cases e:j=y.i
    ·subst e;constructor
     ·intro h;simp[Array.getD,hsz,hilt]at h
     ·rintro⟨x,hx,hxj⟩;exact absurd hxj (hne x hx)
    ·rw[getD_set_ne true (Ne.symm e),hun j hj];constructor
     ·rintro⟨x,hx,hxj⟩;exact⟨x,hback x hx (by rw[hxj];exact e),hxj⟩
     ·rintro⟨x,hx,hxj⟩;exact⟨x,hmem x hx,hxj⟩
   ·intro j oj hoj hl x hx;by_cases e:j=y.i
    ·subst e;have:oj=o:=by rw[hlo.op]at hoj;exact(ae hoj).symm
     subst this;rw[←hlo.mask]at hx;exact getD_set_true (hmy x hx)
    ·rw[getD_set_ne false (Ne.symm e)]at hl;exact getD_set_true (hdown j oj hoj hl x hx)
   ·intro E2 c2 a2 w2 hS2 hnew2 hct2 hSM2;refine hQ E2 c2 a2 w2 (hS.trans hS2) (fun b hb=>?_) (bm hct hct2) hSM2;rcases hnew2 b hb with h1|h1
    ·rcases hnew b h1 with h2|h2
     ·exact .inl h2
     ·exact .inr ⟨h2.1,by omega⟩
    ·exact .inr h1
   ·exact⟨.refl _ _,fun _ h=>h,hS.rel,fun b hb=> .inl ⟨b,hb,rfl⟩,fun _ _ _=>rfl,ah _,rfl,rfl,rfl⟩
end
theorem D3{ops:Array Oper}{cos:List CO}{n:Nat}{l:List (Nat×Nat×CO)}(h:xr ops cos= .dreg n l):
 n=ops.size∧l=oY (Region.before ops).toList cos ops.size 0∧Bp ops.toList (Region.before ops).toList ops.size l=true:=by
 unfold xr Uy at h
 cases hr:Bp ops.toList (Region.before ops).toList ops.size (oY (Region.before ops).toList cos ops.size 0)with
 |false=>rw[hr]at h;cases h
 |true=>
  rw[hr,cond_true]at h;injection h with h1 h2
  subst h1 h2;exact⟨rfl,rfl,hr⟩
theorem xj(ms:List Nat)(cos:List CO):∀(fuel done:Nat),(oY ms cos fuel done).length≤fuel
 |0,_=>ah _
 |fuel+1,done=>by
  rw[oY];split
  ·rw[bk];have:=xj ms cos fuel;exact Nat.succ_le_succ (this _)
  ·simp
theorem rM(ms:List Nat)(cos:List CO):∀(fuel done:Nat) (i m:Nat) (o:CO),(i,m,o)∈oY ms cos fuel done→cos[i]?=some o∧ms[i]?=some m
 |0,_,_,_,_,h=>by cases h
 |fuel+1,done,i,m,o,h=>by
  rw[oY]at h;split at h
  ·rename_i o' m' i' hpick;rcases bj.1 h with h|h
   ·injection h with h1 h2;injection h2 with h2 h3
    subst h1 h2 h3;have hmem:((o,m),i)∈(cos.zip ms).zipIdx:=by
     split at hpick
     ·rename_i r hr;obtain rfl:=ae hpick;exact(List.mem_filter.1 (List.mem_of_find?_eq_some hr)).1
     ·exact(List.mem_filter.1 (List.mem_of_mem_head? hpick)).1
    have h1:=List.mem_zipIdx_iff_getElem?.1 hmem;have h2:(cos.zip ms)[i]?=some (o,m):=h1;rw[List.getElem?_zip_eq_some]at h2;exact h2
   ·exact rM ms cos fuel _ i m o h
  ·cases h
theorem uU{P:Program}{nt:Nat}{ops:Array Oper}:∀(l:List Oper) (cos:List CO),nu P nt ops l=some cos→ ∀(i:Nat) (co:CO),cos[i]?=some co→ ∃o,l[i]?=some o∧xn P nt ops o=some co
 |[],cos,h,i,co,hi=>by
  obtain rfl:=ae h;cases hi
 |o::l,cos,h,i,co,hi=>by
  rw[nu]at h;split at h
  ·rename_i c r h1 h2;obtain rfl:=ae h;cases i with
   |zero=>exact⟨o,rfl,by simp at hi;rw[←hi];exact h1⟩
   |succ i=>exact uU l r h2 i co (by simpa using hi)
  ·cases h
theorem nv{ms:List Nat}{n:Nat}{ops:List Oper}:∀{l:List (Nat×Nat×CO)},u9 ms n ops l=true→ ∀x∈l,yV ms n ops x=true
 |[],_,_,h=>by cases h
 |z::r,h,y,hy=>by
  simp only[u9,aJ]at h;rcases bj.1 hy with rfl|hy
  ·exact h.1
  ·exact nv h.2 y hy
theorem sU{ms:List Nat}{n:Nat}{ops:List Oper}{x:Nat×Nat×CO}(h:yV ms n ops x=true):∃o,ops[x.1]?=some o∧x.2.1=mask1 ms o.after.toList∧testBit x.2.1 x.1=false∧x.2.1<2^n:=by
 unfold yV at h
 split at h
 ·cases h
 ·rename_i o ho;rw[bp,eT]at h;simp only[aJ,Bool.not_eq_true',decide_eq_true_eq]at h;exact⟨o,ho,h.1,h.2.1,h.2.2⟩
theorem pI{i:Nat}:∀{l:List (Nat×Nat×CO)},vo i l=true→ ∃m o,(i,m,o)∈l
 |[],h=>by cases h
 |(j,m,o)::r,h=>by
  rw[vo,bp]at h;by_cases e:j=i
  ·exact⟨m,o,by rw[e];simp⟩
  ·simp[e]at h;obtain⟨m',o',h'⟩:=pI h;exact⟨m',o',bc _ h'⟩
theorem lY{l:List (Nat×Nat×CO)}:∀{n:Nat},qy l n=true→ ∀i,i<n→vo i l=true
 |0,_,_,h=>by omega
 |n+1,h,i,hi=>by
  simp only[qy,aJ]at h;by_cases e:i=n
  ·rw[e];exact h.1
  ·exact lY h.2 i (by omega)
theorem Z0{P:Program}(hm:P.follows .mixedOrders=true){k:Kn}(hcall:n9 P k)(hy:kw P k):b57 P k:=by
 intro F rd nt id ops cos hcos n l hd t d M ct e t' d' M' ct' hx E c w a h Q hQ
 obtain⟨rfl,hl,hreg⟩:=D3 hd
 unfold Bp at hreg
 rw[aJ,aJ]at hreg
 obtain⟨hel,hcov,hpairs⟩:=hreg
 have hx':uV d (jo (rX k F) ct l (.mk t M (ct+ops.size) [] []))= .k e (.mk t' d' M' ct'):=by
  have:fN (Nat.add ct ops.size) (fun c'=>uV d (jo (rX k F) ct l (.mk t M c' [] [])))= .k e (.mk t' d' M' ct'):=hx
  rwa [aQ]at this
 cases hdo:jo (rX k F) ct l (.mk t M (ct+ops.size) [] [])with
 |none=>rw[hdo]at hx';cases hx'
 |some ds=>
  obtain⟨t2,M2,c2,p2,r2⟩:=ds;rw[hdo,uV,Tr.force_eq]at hx';injection hx' with g1 g2;injection g2 with g2 g3 g4 g5
  subst g1 g2 g3 g4 g5;have hkF:(rX k F).F=F:=Vi k F;have hI0:Ca ct (rX k F).F M []:=⟨fun _ _ _ h=>(by cases h),.nil,fun _ _ _ h=>(by cases h)⟩
  obtain⟨L,hL,hC,hPW,hI,_⟩:=uW l t M (ct+ops.size) [] [] t2 M2 c2 p2 r2 hdo hpairs hI0 (fun q hq=>by cases hq);have hLl:∀x∈L,x.trip∈l:=fun x hx=>by rw[←hL];exact List.mem_map_of_mem hx
  have hlab:∀x∈L,∃o,aj3 P nt ops (Region.before ops).toList x o:=by
   intro x hx;have hm1:=hLl x hx;obtain⟨o,ho,hmask,hself,hlt⟩:=sU (nv hel _ hm1);have hcm:=rM _ _ _ _ _ _ _ (by rw[←hl];exact hm1);obtain⟨o2,ho2,hco⟩:=uU _ _ hcos x.i x.co hcm.1;have:o2=o:=by rw[show ops.toList[x.i]?=some o from ho]at ho2;exact(ae ho2).symm
   subst this;have ho3:ops.toList[x.i]?=some o2:=ho;exact⟨o2,by simpa using ho3,hco,hmask,hself,hlt⟩
  have hms:∀(j:Nat) (o:Oper),ops[j]?=some o→(Region.before ops).toList[j]?=some (mask1 (Region.before ops).toList o.after.toList):=by
   intro j o hj;obtain⟨m,co,hmem⟩:=pI (lY hcov j (Array.getElem?_eq_some_iff.1 hj).1);obtain⟨o2,ho2,hmask,_,_⟩:=sU (nv hel _ hmem);have hcm:=rM _ _ _ _ _ _ _ (by rw[←hl];exact hmem);have:o2=o:=by
    have h1:ops.toList[j]?=some o2:=ho2;have h2:ops.toList[j]?=some o:=by simpa using hj
    rw[h1]at h2;exact ae h2
   subst this;rw[hcm.2];exact congrArg some hmask
  have hidx:∀j,(∃x∈L,x.i=j)↔j<ops.size:=by
   intro j;constructor
   ·rintro⟨x,hx,rfl⟩;obtain⟨o,ho⟩:=hlab x hx;exact(Array.getElem?_eq_some_iff.1 ho.op).1
   ·intro hj;obtain⟨m,co,hmem⟩:=pI (lY hcov j hj);rw[←hL]at hmem;obtain⟨x,hx,hxe⟩:=List.mem_map.1 hmem;exact⟨x,hx,by injection hxe⟩
  have hlen:L.length≤ops.size:=by
   have:L.length=l.length:=by rw[←hL];simp
   rw[this,hl];exact xj _ _ _ _
  refine wpIn_region_any hm ?_;have hmem0:∀b,(sv t M (ct+ops.size) []).m b=M.get b:=fun b=>rfl;have hrel0:uy P E F (sv t M (ct+ops.size) []).m c {w with drawn:=w.drawn+1}:=uy.of (h.cx.rel.world (w':={w with drawn:=w.drawn+1}) rfl) hmem0
  have hSM:SM P (rX k F).F rd nt ct d E c {w with drawn:=w.drawn+1} a (sv t M (ct+ops.size) []) (fun j=>∃x∈L,x.i=j):=by
   rw[hkF];refine⟨hrel0,h.cx.glob,h.cx.big,h.cx.tr,h.cx.bt,fun b hb=>h.fr b ?_,Nat.le_add_right _ _,fun i hi=>?_,h.df,h.dc,h.sz,h.rd⟩
   ·have:ct+ops.size≤b:=hb;omega
   ·have h1:=(hidx i).1 hi;exact⟨h.fr _ (Nat.le_add_right _ _),by show ct+i<ct+ops.size;omega⟩
  have hcall':n9 P (rX k F):=by
   intro F' f args M ct v M' ct' hc;exact hcall F' f args M ct v M' ct' (by cases k;exact hc)
  have hy':kw P (rX k F):=by
   intro F' l args M ct v M' ct' hc;exact hy F' l args M ct v M' ct' (by cases k;exact hc)
  refine b66 hcall' hy' hms ops.size L (Array.replicate ops.size false) E c _ a _ hlen hC hPW hSM (by simp) ?_ ?_ hlab ?_ ?_
  ·intro j hj;rw[hidx j];simp[Array.getD,hj]
  ·intro j o hj hl';exfalso;have hjs:=(Array.getElem?_eq_some_iff.1 hj).1;simp[Array.getD,hjs]at hl'
  ·intro E' c' a' w' hS hnew hct hSM';rw[hkF]at hS hSM';refine hQ a' w' ⟨E',c',?_,?_,?_⟩
   ·have hfin:∀b,(sv t2 M2 c2 p2).m b=(dT p2 M2).get b:=fun b=>(kT p2 M2 hI.nd b).symm;refine⟨hS.ext,hS.le,kj.ofM hS.rel hfin,?_,?_,hS.size,hS.os,hS.output,hS.tape⟩
    ·intro b hb;rcases hS.own b (by rw[hfin b];intro e;rw[e]at hb;cases hb)with⟨b0,h0,e0⟩|h0
     ·refine .inl ⟨b0,?_,e0⟩;have h1:M.get b0≠none:=h0;cases hM:M.get b0 with
      |none=>exact absurd hM h1
      |some _=>rfl
     ·exact .inr h0
    ·intro r hr hn;refine hS.frame r hr fun b hb=>hn b ?_;have h1:M.get b≠none:=hb;cases hM:M.get b with
     |none=>exact absurd hM h1
     |some _=>rfl
   ·refine⟨?_,hnew⟩;have:ct+ops.size≤c2:=hct;omega
   ·have hfin:∀b,(sv t2 M2 c2 p2).m b=(dT p2 M2).get b:=fun b=>(kT p2 M2 hI.nd b).symm;exact⟨⟨kj.ofM hS.rel hfin,hSM'.glob,hSM'.big,hSM'.tr,hSM'.bt⟩,hSM'.fr,hSM'.df,hSM'.dc,hSM'.sz,hSM'.rd⟩
  ·rw[hkF];exact⟨.refl _ _,fun _ h=>h,hrel0,fun b hb=> .inl ⟨b,hb,rfl⟩,fun _ _ _=>rfl,ah _,rfl,rfl,rfl⟩
theorem ve{P:Program}(hm:P.follows .mixedOrders=true){Φ:Nat→Option CF}(hΦ:eC P Φ)(n:Nat):A6 P (exec Φ n):=
 (Zh hΦ (fun ex hex rd fn F=>Z0 hm (iw hΦ hex rd fn F) (wt hex rd fn F)) n).1
def E0:cT:=⟨fun b=>b,fun _=>0,fun _=>0⟩
def c0(b:Nat):Prop:=b<1000
def isT:RC→Bool
 | .k (.b true) _ _=>true
 |_=>false
theorem Vc{r:RC}(h:isT r=true):∃M c,r= .k (.b true) M c:=by
 unfold isT at h
 split at h
 ·exact⟨_,_,rfl⟩
 ·cases h
theorem Zy{P:Program}{F:RO}{E E':cT}{c c':Nat→Prop}{w w':World}{M':Mem}(h:mG P F E .e c w E' M' c' w')(may:MemPlace→Prop):w.keptBut w' may:=by
 refine⟨h.os,h.output,fun i hi=>?_⟩
 have e:w'.heap[i]?=w.heap[i]?:=h.frame i hi (fun b hb=>by cases hb)
 rw[e]
 cases w.heap[i]? with
 |none=>rfl
 |some o=>
  cases o with
  |cells a t fr=>exact⟨rfl,rfl,rfl,fun _ _=>rfl⟩
  |map es cl=>exact .inr ⟨rfl,rfl⟩
  |_=>rfl
def qi(p:Nat→CF→Prop):Tr CF→Prop
 | .e=>True
 | .n l v r=>(match v with|none=>True|some c=>p 0 c)∧qi (fun j=>p (2*j+1)) l∧qi (fun j=>p (2*j+2)) r
theorem qi.get:∀(t:Tr CF) (p:Nat→CF→Prop),qi p t→ ∀k c,t.get k=some c→p k c
 | .e,p,_,k,c,h=>by cases h
 | .n l v r,p,ht,k,c,h=>by
   rw[Tr.get_n]at h;obtain⟨h0,h1,h2⟩:=ht;by_cases e:k=0
   ·rw[ac e]at h;subst e;rw[h]at h0;exact h0
   ·rw[ab e]at h;by_cases e2:k%2=0
    ·rw[ac e2]at h;have:=qi.get r _ h2 _ _ h;rw[show 2*(k/2-1)+2=k by omega]at this;exact this
    ·rw[ab e2]at h;have:=qi.get l _ h1 _ _ h;rw[show 2*(k/2)+1=k by omega]at this;exact this
abbrev cd(P:Program)(k:Nat)(cf:CF):Prop:=bt1 P k cf
theorem VF{P:Program}{t:Tr CF}(h:qi (cd P) t):eC P (fun k=>t.get k):=fun k c hk=>qi.get t _ h k c hk
def LR(a b:Rs):Prop:=a= .f∨a=b
def LC(a b:RC):Prop:=a= .f∨a=b
def LO{α:Type}(a b:Option α):Prop:=a=none∨a=b
def ki(ex ex':wB):Prop:=∀rd fn F c s,LR (ex rd fn F c s) (ex' rd fn F c s)
section
variable{Φ:Nat→Option CF}{ex ex':wB}{rd:Option Nat}{fn:Nat}{F:RO}
theorem Ui(h:ki ex ex')(F:RO)(f:Nat)(args:List V)(M:Mem)(c:Nat)(o:Option CF):LC (fu ex F f args M c o) (fu ex' F f args M c o):=by
 cases o with
 |none=>exact .inl rfl
 |some cf=>
  cases cf with
  |orc g=>exact .inr rfl
  |mk n res body=>
   show LC (nA res F (ex none f F body (.mk (aS n args) [] M c))) (nA res F (ex' none f F body (.mk (aS n args) [] M c)));rcases h none f F body (.mk (aS n args) [] M c)with e|e
   ·rw[e];exact .inl rfl
   ·rw[e];exact .inr rfl
theorem uQ(h:ki ex ex')(f:Nat)(args:List V)(M:Mem)(c:Nat):LC (mI (.mk Φ ex rd fn F) f args M c) (mI (.mk Φ ex' rd fn F) f args M c):=Ui h F f args M c _
theorem La(h:ki ex ex')(l fn':Nat)(body:CC)(t:T)(M:Mem)(c:Nat)(lp:Lp):LC (qb (.mk Φ ex rd fn F) l fn' body t M c lp) (qb (.mk Φ ex' rd fn F) l fn' body t M c lp):=by
 cases lp with
 |f=>exact .inl rfl
 |k s pe fn2 tm ps a b d=>
  cases s with
  |ready=>
   show LC ((M.set l (.loop .busy pe fn2 tm ps a b d)).force fun M=>l4 l (ex (some l) fn' F body (.mk t [] M c))) ((M.set l (.loop .busy pe fn2 tm ps a b d)).force fun M=>l4 l (ex' (some l) fn' F body (.mk t [] M c)));rw[Tr.force_eq,Tr.force_eq];rcases h (some l) fn' F body (.mk t [] (M.set l (.loop .busy pe fn2 tm ps a b d)) c)with e|e
   ·rw[e];exact .inl rfl
   ·rw[e];exact .inr rfl
  |_=>exact .inl rfl
theorem Xn(h:ki ex ex')(l fn':Nat)(body:CC)(r:Rs):LC (mQ (.mk Φ ex rd fn F) l fn' body r) (mQ (.mk Φ ex' rd fn F) l fn' body r):=by
 cases r with
 |f=>exact .inl rfl
 |k e s=>
  cases e with
  |nrm=>
   obtain⟨t,d,M,c⟩:=s;cases d with
   |nil=>exact La (Φ:=Φ) (rd:=rd) (fn:=fn) h l fn' body t M c _
   |cons _ _=>exact .inl rfl
  |_=>exact .inl rfl
theorem ag3(h:ki ex ex')(l fn':Nat)(asg body:CC)(M:Mem)(c:Nat)(o:Option T):LC (BZ (.mk Φ ex rd fn F) l fn' asg body M c o) (BZ (.mk Φ ex' rd fn F) l fn' asg body M c o):=by
 cases o with
 |none=>exact .inl rfl
 |some t=>
  show LC (mQ (.mk Φ ex rd fn F) l fn' body (ex (some l) fn' F asg (.mk t [] M c))) (mQ (.mk Φ ex' rd fn F) l fn' body (ex' (some l) fn' F asg (.mk t [] M c)));rcases h (some l) fn' F asg (.mk t [] M c)with e|e
  ·rw[e];exact .inl rfl
  ·rw[e];exact Xn h l fn' body _
theorem Ul(h:ki ex ex')(l:Nat)(args:List V)(M:Mem)(c:Nat)(lp:Lp):LC (qt (.mk Φ ex rd fn F) l args M c lp) (qt (.mk Φ ex' rd fn F) l args M c lp):=by
 cases lp with
 |f=>exact .inl rfl
 |k s pe fn2 tm ps a b d=>
  cases s with
  |ready=>exact ag3 h l fn2 a b M c _
  |_=>exact .inl rfl
theorem Uk(h:ki ex ex')(v:V)(args:List V)(M:Mem)(c:Nat):LC (lh (.mk Φ ex rd fn F) v args M c) (lh (.mk Φ ex' rd fn F) v args M c):=by
 cases v with
 |f g a b=>exact uQ (Φ:=Φ) (rd:=rd) (fn:=fn) h g _ M c
 |y l=>exact Ul h l args M c _
 |_=>exact .inl rfl
theorem Uj(h:ki ex ex')(v:V)(args:List V)(M:Mem)(c:Nat):LC (jd (.mk Φ ex rd fn F) v args M c) (jd (.mk Φ ex' rd fn F) v args M c):=by
 cases v with
 |f g a b=>exact uQ (Φ:=Φ) (rd:=rd) (fn:=fn) h g _ M c
 |_=>exact .inl rfl
theorem Ut(h:ki ex ex')(o:EO)(M:Mem)(c:Nat)(t:T):LC (iG o (.mk Φ ex rd fn F) M c t) (iG o (.mk Φ ex' rd fn F) M c t):=by
 cases o with
 |call f as0=>exact uQ (Φ:=Φ) (rd:=rd) (fn:=fn) h f _ M c
 |cv f as0=>exact Uk h _ _ M c
 |_=>exact .inr rfl
theorem Wk(h:ki ex ex')(o:OK)(dst:Option aE)(t:T)(d:List Nat)(M:Mem)(c:Nat):LO (sop o (.mk Φ ex rd fn F) dst t d M c) (sop o (.mk Φ ex' rd fn F) dst t d M c):=by
 cases o with
 |q o=>exact .inr rfl
 |a o=>exact .inr rfl
 |e o=>
  show LO (wQ dst t d (iG o (.mk Φ ex rd fn F) M c t)) (wQ dst t d (iG o (.mk Φ ex' rd fn F) M c t));rcases Ut (Φ:=Φ) (rd:=rd) (fn:=fn) (F:=F) h o M c t with e|e
  ·rw[e];exact .inl rfl
  ·rw[e];exact .inr rfl
theorem W5(h:ki ex ex')(o:CO)(s:St):LO (eb o (.mk Φ ex rd fn F) s) (eb o (.mk Φ ex' rd fn F) s):=by
 obtain⟨dst,op,g⟩:=o
 obtain⟨t,d,M,c⟩:=s
 cases g with
 |none=>exact Wk h op dst t d M c
 |some g=>
  show LO (s_w op (.mk Φ ex rd fn F) dst t d M c (wanted t (some g))) (s_w op (.mk Φ ex' rd fn F) dst t d M c (wanted t (some g)));cases wanted t (some g)with
  |false=>exact .inr rfl
  |true=>exact Wk h op dst t d M c
theorem yf(h:ki ex ex'):∀(ops:List CO) (s:St),LO (dy ops (.mk Φ ex rd fn F) s) (dy ops (.mk Φ ex' rd fn F) s)
 |[],s=> .inr rfl
 |o::r,s=>by
  show LO (mt (dy r) (.mk Φ ex rd fn F) (eb o (.mk Φ ex rd fn F) s)) (mt (dy r) (.mk Φ ex' rd fn F) (eb o (.mk Φ ex' rd fn F) s));rcases W5 (Φ:=Φ) (rd:=rd) (fn:=fn) (F:=F) h o s with e|e
  ·rw[e];exact .inl rfl
  ·rw[e];cases eb o (.mk Φ ex' rd fn F) s with
   |none=>exact .inl rfl
   |some s1=>exact yf h r s1
theorem YV(h:ki ex ex')(e:EO)(dst:Option aE)(t:T)(c:Nat)(pend:List (Nat×Nat×bz))(reads:List (Nat×Nat))(p:Pr):
 LO (wK e (.mk Φ ex rd fn F) dst t c pend reads p) (wK e (.mk Φ ex' rd fn F) dst t c pend reads p):=by
 obtain⟨F',M,saved⟩:=p
 show LO (bif cW F' M pend then qz F' dst t pend reads saved (iG e (.mk Φ ex rd fn F') M c t)else none) (bif cW F' M pend then qz F' dst t pend reads saved (iG e (.mk Φ ex' rd fn F') M c t)else none)
 cases cW F' M pend with
 |false=>exact .inl rfl
 |true=>
  rcases Ut (Φ:=Φ) (rd:=rd) (fn:=fn) (F:=F') h e M c t with e|e
  ·rw[e];exact .inl rfl
  ·rw[e];exact .inr rfl
theorem ba1(h:ki ex ex')(base:Nat)(x:Nat×Nat×CO)(s:DS):LO (wJ (.mk Φ ex rd fn F) base x s) (wJ (.mk Φ ex' rd fn F) base x s):=by
 obtain⟨i,mask,dst,op,g⟩:=x
 obtain⟨t,M,c,pend,reads⟩:=s
 show LO (bif wanted t g then Us (.mk Φ ex rd fn F) base i mask dst op t M c pend reads else _) (bif wanted t g then Us (.mk Φ ex' rd fn F) base i mask dst op t M c pend reads else _)
 cases wanted t g with
 |false=>exact .inr rfl
 |true=>
  cases op with
  |q o=>exact .inr rfl
  |a o=>exact .inr rfl
  |e o=>
   show LO (Aq o (.mk Φ ex rd fn F) mask dst t c reads (je mask pend M)) (Aq o (.mk Φ ex' rd fn F) mask dst t c reads (je mask pend M));obtain⟨M1,p1⟩:=je mask pend M;exact YV h o dst t c p1 reads _
theorem Hk(h:ki ex ex')(base:Nat):∀(ops:List (Nat×Nat×CO)) (s:DS),LO (jo (.mk Φ ex rd fn F) base ops s) (jo (.mk Φ ex' rd fn F) base ops s)
 |[],s=> .inr rfl
 |o::r,s=>by
  rw[jo,jo];rcases ba1 (Φ:=Φ) (rd:=rd) (fn:=fn) (F:=F) h base o s with e|e
  ·rw[e];exact .inl rfl
  ·rw[e];cases wJ (.mk Φ ex' rd fn F) base o s with
   |none=>exact .inl rfl
   |some s1=>exact Hk h base r s1
theorem Ai(h:ki ex ex')(c:CC)(s:St):LR (nl (.mk Φ ex rd fn F) c s) (nl (.mk Φ ex' rd fn F) c s):=h rd fn F c s
theorem Iq(h:ki ex ex')(f:X)(ps:List aE)(asg body:CC)(t:T)(d:List Nat)(M:Mem)(l dn:Nat):LR (nT f ps asg body (.mk Φ ex rd fn F) t d M l dn) (nT f ps asg body (.mk Φ ex' rd fn F) t d M l dn):=by
 show LR ((M.set l (.loop .ready .none fn t ps asg body dn)).force fun M=>fN (Nat.succ l) fun c=>kX t d l (jd (.mk Φ ex rd fn F) (f.ev t) [.y l] M c)) ((M.set l (.loop .ready .none fn t ps asg body dn)).force fun M=>fN (Nat.succ l) fun c=>kX t d l (jd (.mk Φ ex' rd fn F) (f.ev t) [.y l] M c))
 rw[Tr.force_eq,Tr.force_eq,aQ,aQ]
 rcases Uj (Φ:=Φ) (rd:=rd) (fn:=fn) (F:=F) h (f.ev t) [.y l] (M.set l (.loop .ready .none fn t ps asg body dn)) (Nat.succ l)with e|e
 ·rw[e];exact .inl rfl
 ·rw[e];exact .inr rfl
theorem ac5(h:ki ex ex')(f:X)(ps:List aE)(asg body:CC)(t:T)(d:List Nat)(M:Mem)(l:Nat)(lp:Lp):LR (KE f ps asg body (.mk Φ ex rd fn F) t d M l lp) (KE f ps asg body (.mk Φ ex' rd fn F) t d M l lp):=by
 cases lp with
 |f=>exact .inl rfl
 |k s pe fn2 tm ps' a b dn=>exact Iq h f ps asg body t d M l dn
theorem AB(h:ki ex ex'):∀(c:CC) (s:St),LR (aY c (.mk Φ ex rd fn F) s) (aY c (.mk Φ ex' rd fn F) s):=by
 intro c
 induction c with
 |skip=>exact fun s=> .inr rfl
 |reg ops=>
  intro s;show LR (qV (dy ops (.mk Φ ex rd fn F) s)) (qV (dy ops (.mk Φ ex' rd fn F) s));rcases yf (Φ:=Φ) (rd:=rd) (fn:=fn) (F:=F) h ops s with e|e
  ·rw[e];exact .inl rfl
  ·rw[e];exact .inr rfl
 |dreg n ops=>
  intro s;obtain⟨t,d,M,c⟩:=s;show LR (fN (Nat.add c n) fun c'=>uV d (jo (.mk Φ ex rd fn F) c ops (.mk t M c' [] []))) (fN (Nat.add c n) fun c'=>uV d (jo (.mk Φ ex' rd fn F) c ops (.mk t M c' [] [])));rw[aQ,aQ];rcases Hk (Φ:=Φ) (rd:=rd) (fn:=fn) (F:=F) h c ops (.mk t M (Nat.add c n) [] [])with e|e
  ·rw[e];exact .inl rfl
  ·rw[e];exact .inr rfl
 |seq a b iha ihb=>
  intro s;show LR (lD (aY b) (.mk Φ ex rd fn F) (aY a (.mk Φ ex rd fn F) s)) (lD (aY b) (.mk Φ ex' rd fn F) (aY a (.mk Φ ex' rd fn F) s));rcases iha s with e|e
  ·rw[e];exact .inl rfl
  ·rw[e];cases aY a (.mk Φ ex' rd fn F) s with
   |f=>exact .inl rfl
   |k e s1=>
    cases e with
    |nrm=>exact ihb s1
    |_=>exact .inr rfl
 |cond x a b iha ihb=>
  intro s;show LR (iv x a b (aY a) (aY b) (.mk Φ ex rd fn F) s) (iv x a b (aY a) (aY b) (.mk Φ ex' rd fn F) s);unfold iv;cases x.ev (stT s)with
  |b v=>
   cases v with
   |true=>exact iha s
   |false=>exact ihb s
  |_=>exact .inl rfl
 |block id b ih=>
  intro s;show LR (fS id (aY b (.mk Φ ex rd fn F) s)) (fS id (aY b (.mk Φ ex' rd fn F) s));rcases ih s with e|e
  ·rw[e];exact .inl rfl
  ·rw[e];exact .inr rfl
 |loop b ih=>
  intro s;show LR (gV b (.mk Φ ex rd fn F) (aY b (.mk Φ ex rd fn F) s)) (gV b (.mk Φ ex' rd fn F) (aY b (.mk Φ ex' rd fn F) s));rcases ih s with e|e
  ·rw[e];exact .inl rfl
  ·rw[e];cases aY b (.mk Φ ex' rd fn F) s with
   |f=>exact .inl rfl
   |k e s1=>
    cases e with
    |nrm=>exact Ai (Φ:=Φ) h _ s1
    |_=>exact .inr rfl
 |rf f ps a b _ _=>
  intro s;obtain⟨t,d,M,c⟩:=s;cases rd with
  |some l=>exact ac5 h f ps a b t d M c _
  |none=>
   show LR ((M.set c (.defs false)).force fun M=>fN (Nat.succ c) fun c'=>nT f ps a b (.mk Φ ex none fn F) t (c::d) M c' c) ((M.set c (.defs false)).force fun M=>fN (Nat.succ c) fun c'=>nT f ps a b (.mk Φ ex' none fn F) t (c::d) M c' c);rw[Tr.force_eq,Tr.force_eq,aQ,aQ];exact Iq h f ps a b t (c::d) _ _ c
 |exit id=>exact fun s=> .inr rfl
 |scope b tbl ihb _=>
  intro s;show LR (ju tbl (.mk Φ ex rd fn F) (aY b (.mk Φ ex rd fn F) s)) (ju tbl (.mk Φ ex' rd fn F) (aY b (.mk Φ ex' rd fn F) s));rcases ihb s with e|e
  ·rw[e];exact .inl rfl
  ·rw[e];cases aY b (.mk Φ ex' rd fn F) s with
   |f=>exact .inl rfl
   |k e s1=>
    cases e with
    |gto l=>
     show LR (so tbl (.mk Φ ex rd fn F) s1 (kI l tbl)) (so tbl (.mk Φ ex' rd fn F) s1 (kI l tbl));cases kI l tbl with
     |none=>exact .inl rfl
     |some c=>exact Ai (Φ:=Φ) h _ s1
    |_=>exact .inr rfl
 |tab l c r _ _=>exact fun s=> .inr rfl
 |goto l=>exact fun s=> .inr rfl
 |ret=>exact fun s=> .inr rfl
 |bad=>exact fun s=> .inr rfl
end
theorem Ht(Φ:Nat→Option CF):∀(n:Nat),ki (exec Φ n) (exec Φ (n+1))
 |0=>fun rd fn F c s=> .inl rfl
 |n+1=>fun rd fn F c s=>AB (Ht Φ n) c s
theorem rR(Φ:Nat→Option CF){n:Nat}(m:Nat):ki (exec Φ n) (exec Φ (n+m)):=by
 induction m with
 |zero=>exact fun rd fn F c s=> .inr rfl
 |succ m ih=>
  intro rd fn F c s;rcases ih rd fn F c s with h|h
  ·exact .inl h
  ·rcases Ht Φ (n+m) rd fn F c s with h2|h2
   ·exact .inl (h.trans h2)
   ·exact .inr (h.trans h2)
def VR(a:Nat→Rs)(b:Rs):Prop:=b= .f∨ ∃n,∀m,n≤m→a m=b
def VC(a:Nat→RC)(b:RC):Prop:=b= .f∨ ∃n,∀m,n≤m→a m=b
def VO{α:Type}(a:Nat→Option α)(b:Option α):Prop:=b=none∨ ∃n,∀m,n≤m→a m=b
def wX(ex:Nat→wB)(ex':wB):Prop:=∀rd fn F c s,VR (fun m=>ex m rd fn F c s) (ex' rd fn F c s)
section
variable{Φ:Nat→Option CF}{ex:Nat→wB}{ex':wB}{rd:Option Nat}{fn:Nat}{F:RO}
theorem YJ(h:wX ex ex')(F:RO)(f:Nat)(args:List V)(M:Mem)(c:Nat)(o:Option CF):VC (fun m=>fu (ex m) F f args M c o) (fu ex' F f args M c o):=by
 cases o with
 |none=>exact .inl rfl
 |some cf=>
  cases cf with
  |orc g=>exact .inr ⟨0,fun m hm=>rfl⟩
  |mk n res body=>
   show VC (fun m=>nA res F (ex m none f F body (.mk (aS n args) [] M c))) (nA res F (ex' none f F body (.mk (aS n args) [] M c)));rcases h none f F body (.mk (aS n args) [] M c)with e|⟨n,e⟩
   ·rw[e];exact .inl rfl
   ·exact .inr ⟨n,fun m hm=>congrArg (nA res F) (e m hm)⟩
theorem yS(h:wX ex ex')(f:Nat)(args:List V)(M:Mem)(c:Nat):VC (fun m=>mI (.mk Φ (ex m) rd fn F) f args M c) (mI (.mk Φ ex' rd fn F) f args M c):=YJ h F f args M c _
theorem Xo(h:wX ex ex')(l fn':Nat)(body:CC)(t:T)(M:Mem)(c:Nat)(lp:Lp):VC (fun m=>qb (.mk Φ (ex m) rd fn F) l fn' body t M c lp) (qb (.mk Φ ex' rd fn F) l fn' body t M c lp):=by
 cases lp with
 |f=>exact .inl rfl
 |k s pe fn2 tm ps a b d=>
  cases s with
  |ready=>
   show VC (fun m=>(M.set l (.loop .busy pe fn2 tm ps a b d)).force fun M=>l4 l (ex m (some l) fn' F body (.mk t [] M c))) ((M.set l (.loop .busy pe fn2 tm ps a b d)).force fun M=>l4 l (ex' (some l) fn' F body (.mk t [] M c)));simp only[Tr.force_eq];rcases h (some l) fn' F body (.mk t [] (M.set l (.loop .busy pe fn2 tm ps a b d)) c)with e|⟨n,e⟩
   ·rw[e];exact .inl rfl
   ·exact .inr ⟨n,fun m hm=>congrArg (l4 l) (e m hm)⟩
  |_=>exact .inl rfl
theorem ag2(h:wX ex ex')(l fn':Nat)(body:CC)(r:Rs):VC (fun m=>mQ (.mk Φ (ex m) rd fn F) l fn' body r) (mQ (.mk Φ ex' rd fn F) l fn' body r):=by
 cases r with
 |f=>exact .inl rfl
 |k e s=>
  cases e with
  |nrm=>
   obtain⟨t,d,M,c⟩:=s;cases d with
   |nil=>exact Xo (Φ:=Φ) (rd:=rd) (fn:=fn) h l fn' body t M c _
   |cons _ _=>exact .inl rfl
  |_=>exact .inl rfl
theorem bq5(h:wX ex ex')(l fn':Nat)(asg body:CC)(M:Mem)(c:Nat)(o:Option T):VC (fun m=>BZ (.mk Φ (ex m) rd fn F) l fn' asg body M c o) (BZ (.mk Φ ex' rd fn F) l fn' asg body M c o):=by
 cases o with
 |none=>exact .inl rfl
 |some t=>
  show VC (fun m=>mQ (.mk Φ (ex m) rd fn F) l fn' body (ex m (some l) fn' F asg (.mk t [] M c))) (mQ (.mk Φ ex' rd fn F) l fn' body (ex' (some l) fn' F asg (.mk t [] M c)));rcases h (some l) fn' F asg (.mk t [] M c)with e|⟨n,e⟩
  ·rw[e];exact .inl rfl
  ·rcases ag2 (Φ:=Φ) (rd:=rd) (fn:=fn) (F:=F) h l fn' body (ex' (some l) fn' F asg (.mk t [] M c))with e2|⟨n2,e2⟩
   ·exact .inl e2
   ·exact .inr ⟨max n n2,fun m hm=>by
     have h1:=e m (bm (Nat.le_max_left _ _) hm);have h2:=e2 m (bm (Nat.le_max_right _ _) hm);simp only at h1 h2⊢;rw[h1,h2]⟩
theorem YN(h:wX ex ex')(l:Nat)(args:List V)(M:Mem)(c:Nat)(lp:Lp):VC (fun m=>qt (.mk Φ (ex m) rd fn F) l args M c lp) (qt (.mk Φ ex' rd fn F) l args M c lp):=by
 cases lp with
 |f=>exact .inl rfl
 |k s pe fn2 tm ps a b d=>
  cases s with
  |ready=>exact bq5 h l fn2 a b M c _
  |_=>exact .inl rfl
theorem YM(h:wX ex ex')(v:V)(args:List V)(M:Mem)(c:Nat):VC (fun m=>lh (.mk Φ (ex m) rd fn F) v args M c) (lh (.mk Φ ex' rd fn F) v args M c):=by
 cases v with
 |f g a b=>exact yS (Φ:=Φ) (rd:=rd) (fn:=fn) h g _ M c
 |y l=>exact YN h l args M c _
 |_=>exact .inl rfl
theorem YK(h:wX ex ex')(v:V)(args:List V)(M:Mem)(c:Nat):VC (fun m=>jd (.mk Φ (ex m) rd fn F) v args M c) (jd (.mk Φ ex' rd fn F) v args M c):=by
 cases v with
 |f g a b=>exact yS (Φ:=Φ) (rd:=rd) (fn:=fn) h g _ M c
 |_=>exact .inl rfl
theorem aX4(h:wX ex ex')(o:EO)(M:Mem)(c:Nat)(t:T):VC (fun m=>iG o (.mk Φ (ex m) rd fn F) M c t) (iG o (.mk Φ ex' rd fn F) M c t):=by
 cases o with
 |call f as0=>exact yS (Φ:=Φ) (rd:=rd) (fn:=fn) h f _ M c
 |cv f as0=>exact YM h _ _ M c
 |_=>exact .inr ⟨0,fun m hm=>rfl⟩
theorem b06(h:wX ex ex')(o:OK)(dst:Option aE)(t:T)(d:List Nat)(M:Mem)(c:Nat):VO (fun m=>sop o (.mk Φ (ex m) rd fn F) dst t d M c) (sop o (.mk Φ ex' rd fn F) dst t d M c):=by
 cases o with
 |q o=>exact .inr ⟨0,fun m hm=>rfl⟩
 |a o=>exact .inr ⟨0,fun m hm=>rfl⟩
 |e o=>
  show VO (fun m=>wQ dst t d (iG o (.mk Φ (ex m) rd fn F) M c t)) (wQ dst t d (iG o (.mk Φ ex' rd fn F) M c t));rcases aX4 (Φ:=Φ) (rd:=rd) (fn:=fn) (F:=F) h o M c t with e|⟨n,e⟩
  ·rw[e];exact .inl rfl
  ·exact .inr ⟨n,fun m hm=>congrArg (wQ dst t d) (e m hm)⟩
theorem ad3(h:wX ex ex')(o:CO)(s:St):VO (fun m=>eb o (.mk Φ (ex m) rd fn F) s) (eb o (.mk Φ ex' rd fn F) s):=by
 obtain⟨dst,op,g⟩:=o
 obtain⟨t,d,M,c⟩:=s
 cases g with
 |none=>exact b06 h op dst t d M c
 |some g=>
  show VO (fun m=>s_w op (.mk Φ (ex m) rd fn F) dst t d M c (wanted t (some g))) (s_w op (.mk Φ ex' rd fn F) dst t d M c (wanted t (some g)));cases wanted t (some g)with
  |false=>exact .inr ⟨0,fun m hm=>rfl⟩
  |true=>exact b06 h op dst t d M c
theorem Bw(h:wX ex ex'):∀(ops:List CO) (s:St),VO (fun m=>dy ops (.mk Φ (ex m) rd fn F) s) (dy ops (.mk Φ ex' rd fn F) s)
 |[],s=> .inr ⟨0,fun m hm=>rfl⟩
 |o::r,s=>by
  show VO (fun m=>mt (dy r) (.mk Φ (ex m) rd fn F) (eb o (.mk Φ (ex m) rd fn F) s)) (mt (dy r) (.mk Φ ex' rd fn F) (eb o (.mk Φ ex' rd fn F) s));rcases ad3 (Φ:=Φ) (rd:=rd) (fn:=fn) (F:=F) h o s with e|⟨n,e⟩
  ·rw[e];exact .inl rfl
  ·cases hs:eb o (.mk Φ ex' rd fn F) s with
   |none=>exact .inl rfl
   |some s1=>
    rw[hs]at e;rcases Bw h r s1 with e2|⟨n2,e2⟩
    ·exact .inl e2
    ·exact .inr ⟨max n n2,fun m hm=>by
      have h1:=e m (bm (Nat.le_max_left _ _) hm);have h2:=e2 m (bm (Nat.le_max_right _ _) hm);simp only at h1 h2⊢;rw[h1];exact h2⟩
theorem ba2(h:wX ex ex')(e:EO)(dst:Option aE)(t:T)(c:Nat)(pend:List (Nat×Nat×bz))(reads:List (Nat×Nat))(p:Pr):
 VO (fun m=>wK e (.mk Φ (ex m) rd fn F) dst t c pend reads p) (wK e (.mk Φ ex' rd fn F) dst t c pend reads p):=by
 obtain⟨F',M,saved⟩:=p
 show VO (fun m=>bif cW F' M pend then qz F' dst t pend reads saved (iG e (.mk Φ (ex m) rd fn F') M c t)else none) (bif cW F' M pend then qz F' dst t pend reads saved (iG e (.mk Φ ex' rd fn F') M c t)else none)
 cases cW F' M pend with
 |false=>exact .inl rfl
 |true=>
  rcases aX4 (Φ:=Φ) (rd:=rd) (fn:=fn) (F:=F') h e M c t with e|⟨n,e⟩
  ·rw[e];exact .inl rfl
  ·exact .inr ⟨n,fun m hm=>congrArg (qz F' dst t pend reads saved) (e m hm)⟩
theorem bG8(h:wX ex ex')(base:Nat)(x:Nat×Nat×CO)(s:DS):VO (fun m=>wJ (.mk Φ (ex m) rd fn F) base x s) (wJ (.mk Φ ex' rd fn F) base x s):=by
 obtain⟨i,mask,dst,op,g⟩:=x
 obtain⟨t,M,c,pend,reads⟩:=s
 show VO (fun m=>bif wanted t g then Us (.mk Φ (ex m) rd fn F) base i mask dst op t M c pend reads else _) (bif wanted t g then Us (.mk Φ ex' rd fn F) base i mask dst op t M c pend reads else _)
 cases wanted t g with
 |false=>exact .inr ⟨0,fun m hm=>rfl⟩
 |true=>
  cases op with
  |q o=>exact .inr ⟨0,fun m hm=>rfl⟩
  |a o=>exact .inr ⟨0,fun m hm=>rfl⟩
  |e o=>
   show VO (fun m=>Aq o (.mk Φ (ex m) rd fn F) mask dst t c reads (je mask pend M)) (Aq o (.mk Φ ex' rd fn F) mask dst t c reads (je mask pend M));obtain⟨M1,p1⟩:=je mask pend M;exact ba2 h o dst t c p1 reads _
theorem Ur(h:wX ex ex')(base:Nat):∀(ops:List (Nat×Nat×CO)) (s:DS),VO (fun m=>jo (.mk Φ (ex m) rd fn F) base ops s) (jo (.mk Φ ex' rd fn F) base ops s)
 |[],s=> .inr ⟨0,fun m hm=>rfl⟩
 |o::r,s=>by
  simp only[jo];rcases bG8 (Φ:=Φ) (rd:=rd) (fn:=fn) (F:=F) h base o s with e|⟨n,e⟩
  ·rw[e];exact .inl rfl
  ·cases hs:wJ (.mk Φ ex' rd fn F) base o s with
   |none=>exact .inl rfl
   |some s1=>
    rw[hs]at e;rcases Ur h base r s1 with e2|⟨n2,e2⟩
    ·exact .inl e2
    ·exact .inr ⟨max n n2,fun m hm=>by
      have h1:=e m (bm (Nat.le_max_left _ _) hm);have h2:=e2 m (bm (Nat.le_max_right _ _) hm);simp only at h1 h2⊢;rw[h1];exact h2⟩
theorem Fc(h:wX ex ex')(c:CC)(s:St):VR (fun m=>nl (.mk Φ (ex m) rd fn F) c s) (nl (.mk Φ ex' rd fn F) c s):=h rd fn F c s
theorem VW(h:wX ex ex')(f:X)(ps:List aE)(asg body:CC)(t:T)(d:List Nat)(M:Mem)(l dn:Nat):VR (fun m=>nT f ps asg body (.mk Φ (ex m) rd fn F) t d M l dn) (nT f ps asg body (.mk Φ ex' rd fn F) t d M l dn):=by
 show VR (fun m=>(M.set l (.loop .ready .none fn t ps asg body dn)).force fun M=>fN (Nat.succ l) fun c=>kX t d l (jd (.mk Φ (ex m) rd fn F) (f.ev t) [.y l] M c)) ((M.set l (.loop .ready .none fn t ps asg body dn)).force fun M=>fN (Nat.succ l) fun c=>kX t d l (jd (.mk Φ ex' rd fn F) (f.ev t) [.y l] M c))
 simp only[Tr.force_eq,aQ]
 rcases YK (Φ:=Φ) (rd:=rd) (fn:=fn) (F:=F) h (f.ev t) [.y l] (M.set l (.loop .ready .none fn t ps asg body dn)) (Nat.succ l)with e|⟨n,e⟩
 ·rw[e];exact .inl rfl
 ·exact .inr ⟨n,fun m hm=>congrArg (kX t d l) (e m hm)⟩
theorem bj7(h:wX ex ex')(f:X)(ps:List aE)(asg body:CC)(t:T)(d:List Nat)(M:Mem)(l:Nat)(lp:Lp):VR (fun m=>KE f ps asg body (.mk Φ (ex m) rd fn F) t d M l lp) (KE f ps asg body (.mk Φ ex' rd fn F) t d M l lp):=by
 cases lp with
 |f=>exact .inl rfl
 |k s pe fn2 tm ps' a b dn=>exact VW h f ps asg body t d M l dn
theorem Zg(h:wX ex ex'):∀(c:CC) (s:St),VR (fun m=>aY c (.mk Φ (ex m) rd fn F) s) (aY c (.mk Φ ex' rd fn F) s):=by
 intro c
 induction c with
 |skip=>exact fun s=> .inr ⟨0,fun m hm=>rfl⟩
 |reg ops=>
  intro s;show VR (fun m=>qV (dy ops (.mk Φ (ex m) rd fn F) s)) (qV (dy ops (.mk Φ ex' rd fn F) s));rcases Bw (Φ:=Φ) (rd:=rd) (fn:=fn) (F:=F) h ops s with e|⟨n,e⟩
  ·rw[e];exact .inl rfl
  ·exact .inr ⟨n,fun m hm=>congrArg qV (e m hm)⟩
 |dreg k ops=>
  intro s;obtain⟨t,d,M,c⟩:=s;show VR (fun m=>fN (Nat.add c k) fun c'=>uV d (jo (.mk Φ (ex m) rd fn F) c ops (.mk t M c' [] []))) (fN (Nat.add c k) fun c'=>uV d (jo (.mk Φ ex' rd fn F) c ops (.mk t M c' [] [])));simp only[aQ];rcases Ur (Φ:=Φ) (rd:=rd) (fn:=fn) (F:=F) h c ops (.mk t M (Nat.add c k) [] [])with e|⟨n,e⟩
  ·rw[e];exact .inl rfl
  ·exact .inr ⟨n,fun m hm=>congrArg (uV d) (e m hm)⟩
 |seq a b iha ihb=>
  intro s;show VR (fun m=>lD (aY b) (.mk Φ (ex m) rd fn F) (aY a (.mk Φ (ex m) rd fn F) s)) (lD (aY b) (.mk Φ ex' rd fn F) (aY a (.mk Φ ex' rd fn F) s));rcases iha s with e|⟨n,e⟩
  ·rw[e];exact .inl rfl
  ·cases hs:aY a (.mk Φ ex' rd fn F) s with
   |f=>exact .inl rfl
   |k x s1=>
    rw[hs]at e;cases x with
    |nrm=>
     rcases ihb s1 with e2|⟨n2,e2⟩
     ·exact .inl e2
     ·exact .inr ⟨max n n2,fun m hm=>by
       have h1:=e m (bm (Nat.le_max_left _ _) hm);have h2:=e2 m (bm (Nat.le_max_right _ _) hm);simp only at h1 h2⊢;rw[h1];exact h2⟩
    |_=>exact .inr ⟨n,fun m hm=>congrArg (lD (aY b) (.mk Φ (ex m) rd fn F)) (e m hm)⟩
 |cond x a b iha ihb=>
  intro s;show VR (fun m=>iv x a b (aY a) (aY b) (.mk Φ (ex m) rd fn F) s) (iv x a b (aY a) (aY b) (.mk Φ ex' rd fn F) s);unfold iv;cases x.ev (stT s)with
  |b v=>
   cases v with
   |true=>exact iha s
   |false=>exact ihb s
  |_=>exact .inl rfl
 |block id b ih=>
  intro s;show VR (fun m=>fS id (aY b (.mk Φ (ex m) rd fn F) s)) (fS id (aY b (.mk Φ ex' rd fn F) s));rcases ih s with e|⟨n,e⟩
  ·rw[e];exact .inl rfl
  ·exact .inr ⟨n,fun m hm=>congrArg (fS id) (e m hm)⟩
 |loop b ih=>
  intro s;show VR (fun m=>gV b (.mk Φ (ex m) rd fn F) (aY b (.mk Φ (ex m) rd fn F) s)) (gV b (.mk Φ ex' rd fn F) (aY b (.mk Φ ex' rd fn F) s));rcases ih s with e|⟨n,e⟩
  ·rw[e];exact .inl rfl
  ·cases hs:aY b (.mk Φ ex' rd fn F) s with
   |f=>exact .inl rfl
   |k x s1=>
    rw[hs]at e;cases x with
    |nrm=>
     rcases Fc (Φ:=Φ) (rd:=rd) (fn:=fn) (F:=F) h (.loop b) s1 with e2|⟨n2,e2⟩
     ·exact .inl e2
     ·exact .inr ⟨max n n2,fun m hm=>by
       have h1:=e m (bm (Nat.le_max_left _ _) hm);have h2:=e2 m (bm (Nat.le_max_right _ _) hm);simp only at h1 h2⊢;rw[h1];exact h2⟩
    |_=>exact .inr ⟨n,fun m hm=>congrArg (gV b (.mk Φ (ex m) rd fn F)) (e m hm)⟩
 |rf f ps a b _ _=>
  intro s;obtain⟨t,d,M,c⟩:=s;cases rd with
  |some l=>exact bj7 h f ps a b t d M c _
  |none=>
   show VR (fun m=>(M.set c (.defs false)).force fun M=>fN (Nat.succ c) fun c'=>nT f ps a b (.mk Φ (ex m) none fn F) t (c::d) M c' c) ((M.set c (.defs false)).force fun M=>fN (Nat.succ c) fun c'=>nT f ps a b (.mk Φ ex' none fn F) t (c::d) M c' c);simp only[Tr.force_eq,aQ];exact VW h f ps a b t (c::d) _ _ c
 |exit id=>exact fun s=> .inr ⟨0,fun m hm=>rfl⟩
 |scope b tbl ihb _=>
  intro s;show VR (fun m=>ju tbl (.mk Φ (ex m) rd fn F) (aY b (.mk Φ (ex m) rd fn F) s)) (ju tbl (.mk Φ ex' rd fn F) (aY b (.mk Φ ex' rd fn F) s));rcases ihb s with e|⟨n,e⟩
  ·rw[e];exact .inl rfl
  ·cases hs:aY b (.mk Φ ex' rd fn F) s with
   |f=>exact .inl rfl
   |k x s1=>
    rw[hs]at e;cases x with
    |gto l=>
     have hj:VR (fun m=>so tbl (.mk Φ (ex m) rd fn F) s1 (kI l tbl)) (so tbl (.mk Φ ex' rd fn F) s1 (kI l tbl)):=by
      cases kI l tbl with
      |none=>exact .inl rfl
      |some c=>exact Fc (Φ:=Φ) h _ s1
     rcases hj with e2|⟨n2,e2⟩
     ·exact .inl e2
     ·exact .inr ⟨max n n2,fun m hm=>by
       have h1:=e m (bm (Nat.le_max_left _ _) hm);have h2:=e2 m (bm (Nat.le_max_right _ _) hm);simp only at h1 h2⊢;rw[h1];exact h2⟩
    |_=>exact .inr ⟨n,fun m hm=>congrArg (ju tbl (.mk Φ (ex m) rd fn F)) (e m hm)⟩
 |tab l c r _ _=>exact fun s=> .inr ⟨0,fun m hm=>rfl⟩
 |goto l=>exact fun s=> .inr ⟨0,fun m hm=>rfl⟩
 |ret=>exact fun s=> .inr ⟨0,fun m hm=>rfl⟩
 |bad=>exact fun s=> .inr ⟨0,fun m hm=>rfl⟩
end
open Classical in
def mW(Φ:Nat→Option CF):wB:=fun rd fn F c s=>if h:∃n,exec Φ n rd fn F c s≠ .f then exec Φ (Classical.choose h) rd fn F c s else .f
theorem yT{Φ:Nat→Option CF}{n:Nat}{rd:Option Nat}{fn:Nat}{F:RO}{c:CC}{s:St}(h:exec Φ n rd fn F c s≠ .f):mW Φ rd fn F c s=exec Φ n rd fn F c s:=by
 have hx:∃n,exec Φ n rd fn F c s≠ .f:=⟨n,h⟩
 unfold mW
 rw[dif_pos hx]
 have hc:=Classical.choose_spec hx
 rcases rR Φ (n:=n) (Classical.choose hx) rd fn F c s with e1|e1
 ·exact absurd e1 h
 ·rcases rR Φ (n:=Classical.choose hx) n rd fn F c s with e2|e2
  ·exact absurd e2 hc
  ·rw[e1,e2,Nat.add_comm]
theorem xq(Φ:Nat→Option CF)(rd:Option Nat)(fn:Nat)(F:RO)(c:CC)(s:St):mW Φ rd fn F c s= .f∨ ∃n,mW Φ rd fn F c s=exec Φ n rd fn F c s:=by
 by_cases hx:∃n,exec Φ n rd fn F c s≠ .f
 ·exact .inr ⟨_,by unfold mW;rw[dif_pos hx]⟩
 ·exact .inl (by unfold mW;rw[dif_neg hx])
theorem UP(Φ:Nat→Option CF)(n:Nat):ki (exec Φ n) (mW Φ):=by
 intro rd fn F c s
 by_cases h:exec Φ n rd fn F c s= .f
 ·exact .inl h
 ·exact .inr (yT h).symm
theorem ba4(Φ:Nat→Option CF)(rd:Option Nat)(fn:Nat)(F:RO)(c:CC)(s:St):LR (mW Φ rd fn F c s) (aY c (.mk Φ (mW Φ) rd fn F) s):=by
 by_cases hx:∃n,exec Φ n rd fn F c s≠ .f
 ·obtain⟨n,hn⟩:=hx;rw[yT hn];cases n with
  |zero=>exact .inl rfl
  |succ n=>exact AB (UP Φ n) c s
 ·exact .inl (by unfold mW;rw[dif_neg hx])
theorem bG9(Φ:Nat→Option CF):wX (exec Φ) (mW Φ):=by
 intro rd fn F c s
 rcases xq Φ rd fn F c s with h|⟨n,h⟩
 ·exact .inl h
 ·by_cases hf:mW Φ rd fn F c s= .f
  ·exact .inl hf
  ·refine .inr ⟨n,fun m hm=>?_⟩;have:exec Φ m rd fn F c s≠ .f:=by
    obtain⟨k,rfl⟩:∃k,m=n+k:=⟨m-n,by omega⟩
    rcases rR Φ (n:=n) k rd fn F c s with e|e
    ·exact absurd (h.trans e) hf
    ·rw[←e,←h];exact hf
   exact(yT this).symm
theorem uZ(Φ:Nat→Option CF)(rd:Option Nat)(fn:Nat)(F:RO)(c:CC)(s:St):mW Φ rd fn F c s=aY c (.mk Φ (mW Φ) rd fn F) s:=by
 rcases ba4 Φ rd fn F c s with h|h
 ·rcases Zg (Φ:=Φ) (rd:=rd) (fn:=fn) (F:=F) (bG9 Φ) c s with h2|⟨n,h2⟩
  ·rw[h,h2]
  ·have h3:exec Φ (n+1) rd fn F c s=aY c (.mk Φ (mW Φ) rd fn F) s:=h2 n (ah _);by_cases hf:aY c (.mk Φ (mW Φ) rd fn F) s= .f
   ·rw[h,hf]
   ·rw[←h3];exact yT (by rw[h3];exact hf)
 ·exact h
theorem D1{P:Program}(hm:P.follows .mixedOrders=true){Φ:Nat→Option CF}(hΦ:eC P Φ):A6 P (mW Φ):=by
 intro rd fn F cc t d M ct e t' d' M' ct' h
 rcases xq Φ rd fn F cc (.mk t d M ct)with h1|⟨n,h1⟩
 ·rw[h1]at h;cases h
 ·rw[h1]at h;exact ve hm hΦ n rd fn F cc t d M ct e t' d' M' ct' h
structure rD(F0:RO)(M0:Mem)(F:RO)(M:Mem):Prop where
 m:∀b blk,M0.get b=some blk→M.get b=some blk
 f:∀b blk,aZ F0 b=some blk→look F M b=some blk
 ap:∀b,(aZ F0 b).isSome→M0.get b=none
theorem rD.look{F0:RO}{M0:Mem}{F:RO}{M:Mem}(h:rD F0 M0 F M){b:Nat}{blk:bz}(hb:look F0 M0 b=some blk):look F M b=some blk:=by
 cases hm:M0.get b with
 |some x=>
  rw[am hm]at hb;obtain rfl:=ae hb;exact am (h.m b _ hm)
 |none=>
  rw[aO hm]at hb;exact h.f b blk hb
theorem rD.rel{P:Program}{E:cT}{F0 F:RO}{M0 M:Mem}{c:Nat→Prop}{w:World}(h:rD F0 M0 F M)(hr:kj P E F M c w):kj P E F0 M0 c w where
 has:=fun b blk hb=>hr.has b blk (h.look hb)
 inj:=by
  intro b b' h1 h2 e;obtain⟨x,hx⟩:=bn.1 h1;obtain⟨y,hy⟩:=bn.1 h2;exact hr.inj b b' (by rw[h.look hx];rfl) (by rw[h.look hy];rfl) e
 apart:=h.ap
theorem kj.lt{P:Program}{E:cT}{F:RO}{M:Mem}{c:Nat→Prop}{w:World}(h:kj P E F M c w){b:Nat}(hb:(look F M b).isSome):E.ρ b<w.heap.size:=by
 obtain⟨x,hx⟩:=bn.1 hb
 obtain⟨_,_,o',ho',_⟩:=h.has b x hx
 exact(Array.getElem?_eq_some_iff.1 ho').1
theorem mG.framed{P:Program}{E E':cT}{F0 F:RO}{M0 M M1 N:Mem}{c c':Nat→Prop}{w w':World}(hsub:rD F0 M0 F M)(hr:kj P E F M c w)(hS:mG P F0 E M0 c w E' M1 c' w')
 (hN:∀b blk,N.get b=some blk→M1.get b=some blk∨(M.get b=some blk∧M0.get b=none)):mG P F E M c w E' N c' w':=by
 have old:∀b blk,look F M b=some blk→M0.get b=none→c b∧ff c blk∧E'.ρ b=E.ρ b∧ ∃o,w'.heap[E'.ρ b]?=some o∧fe P E' b blk o:=by
  intro b blk hb h0;obtain⟨hcb,hbd,o,ho,hB⟩:=hr.has b blk hb;have e:=hS.ext.ρ b hcb;refine⟨hcb,hbd,e,o,?_,hB.ext hS.ext hcb hbd⟩;rw[e,hS.frame _ (Array.getElem?_eq_some_iff.1 ho).1,ho];intro b0 hb0 e0;obtain⟨x0,hx0⟩:=bn.1 hb0;have:b0=b:=hr.inj b0 b (by rw[am (hsub.m b0 x0 hx0)];rfl) (by rw[hb];rfl) e0;subst this;rw[h0]at hx0;cases hx0
 have new_old:∀b b' blk',(M1.get b).isSome→look F M b'=some blk'→M0.get b'=none→E'.ρ b≠E.ρ b':=by
  intro b b' blk' h1 h2 h0 e;rcases hS.own b h1 with⟨b0,hb0,e0⟩|hge
  ·obtain⟨x0,hx0⟩:=bn.1 hb0;have:b0=b':=hr.inj b0 b' (by rw[am (hsub.m b0 x0 hx0)];rfl) (by rw[h2];rfl) (e0.trans e);subst this;rw[h0]at hx0;cases hx0
  ·have:=hr.lt (b:=b') (by rw[h2];rfl);omega
 have fM0:∀b,(aZ F b).isSome→M0.get b=none:=by
  intro b hb;cases h:M0.get b with
  |none=>rfl
  |some x=>have:=hr.apart b hb;rw[hsub.m b x h]at this;cases this
 have fM:∀b blk,aZ F b=some blk→look F M b=some blk:=fun b blk hb=>by rw[aO (hr.apart b (by rw[hb];rfl))];exact hb
 have nocommon:∀b blk',look F M b=some blk'→M0.get b=none→M1.get b=none:=by
  intro b blk' h2 h0;cases h1:M1.get b with
  |none=>rfl
  |some x=>
   exfalso;have:=new_old b b blk' (by rw[h1];rfl) h2 h0;exact this (old b blk' h2 h0).2.2.1
 have lookN:∀b blk,look F N b=some blk→M1.get b=some blk∨(look F M b=some blk∧M0.get b=none):=by
  intro b blk hb;cases h:N.get b with
  |some x=>
   rw[am h]at hb;obtain rfl:=ae hb;rcases hN b _ h with h1|⟨h1,h2⟩
   ·exact .inl h1
   ·exact .inr ⟨am h1,h2⟩
  |none=>
   rw[aO h]at hb;exact .inr ⟨fM b blk hb,fM0 b (by rw[hb];rfl)⟩
 refine⟨hS.ext,hS.le,⟨?_,?_,?_⟩,?_,?_,hS.size,hS.os,hS.output,hS.tape⟩
 ·intro b blk hb;rcases lookN b blk hb with h1|⟨h1,h2⟩
  ·exact hS.rel.has b blk (am h1)
  ·obtain⟨a1,a2,_,a3⟩:=old b blk h1 h2;exact⟨hS.le b a1,fp hS.le _ a2,a3⟩
 ·intro b b' h1 h2 e;obtain⟨x,hx⟩:=bn.1 h1;obtain⟨y,hy⟩:=bn.1 h2;rcases lookN b x hx with g1|⟨g1,g0⟩
  ·rcases lookN b' y hy with k1|⟨k1,k0⟩
   ·exact hS.rel.inj b b' (pg (by rw[g1];rfl)) (pg (by rw[k1];rfl)) e
   ·exfalso;exact new_old b b' y (by rw[g1];rfl) k1 k0 (e.trans (old b' y k1 k0).2.2.1)
  ·rcases lookN b' y hy with k1|⟨k1,k0⟩
   ·exfalso;exact new_old b' b x (by rw[k1];rfl) g1 g0 (e.symm.trans (old b x g1 g0).2.2.1)
   ·refine hr.inj b b' (by rw[g1];rfl) (by rw[k1];rfl) ?_;rw[←(old b x g1 g0).2.2.1,←(old b' y k1 k0).2.2.1];exact e
 ·intro b hb;obtain⟨x,hx⟩:=bn.1 hb;cases h:N.get b with
  |none=>rfl
  |some y=>
   exfalso;have:=nocommon b x (fM b x hx) (fM0 b hb);rcases hN b y h with h1|⟨h1,h2⟩
   ·rw[this]at h1;cases h1
   ·have:=hr.apart b hb;rw[h1]at this;cases this
 ·intro b hb;obtain⟨x,hx⟩:=bn.1 hb;rcases hN b x hx with h1|⟨h1,h2⟩
  ·rcases hS.own b (by rw[h1];rfl)with⟨b0,hb0,e0⟩|hge
   ·obtain⟨x0,hx0⟩:=bn.1 hb0;exact .inl ⟨b0,by rw[hsub.m b0 x0 hx0];rfl,e0⟩
   ·exact .inr hge
  ·exact .inl ⟨b,by rw[h1];rfl,((old b x (am h1) h2).2.2.1).symm⟩
 ·intro r hr' hn;refine hS.frame r hr' fun b hb=>?_;obtain⟨x,hx⟩:=bn.1 hb;exact hn b (by rw[hsub.m b x hx];rfl)
structure Wf(F:RO)(M:Mem)(ct:Nat)(args:List V):Prop where
 ge:1000≤ct
 args:fq (· <ct) args
 lt:∀b blk,look F M b=some blk→b<ct
 bd:∀b blk,look F M b=some blk→ff (· <ct) blk
 ap:∀b,(aZ F b).isSome→M.get b=none
theorem b51{P:Program}{E:cT}{F:RO}{M:Mem}{c:Nat→Prop}{w:World}{ct:Nat}{args:List V}(hr:kj P E F M c w)(hbig:∀g,g<1000→c g)(hf:gb c ct)(ha:fq c args):Wf F M ct args:=by
 have hlt:∀b,c b→b<ct:=fun b hb=>by
  by_cases h:b<ct
  ·exact h
  ·exact absurd hb (hf b (by omega))
 refine⟨?_,lg hlt args ha,fun b blk hb=>hlt b (hr.has b blk hb).1,fun b blk hb=>fp hlt blk (hr.has b blk hb).2.1,hr.apart⟩
 by_cases h:1000≤ct
 ·exact h
 ·exact absurd (hbig ct (by omega)) (hf ct (ah _))
mutual
theorem pz{p q:Nat→Prop}:∀v,bd p v→bd q v→bd (fun b=>p b∧q b) v
 | .b _,_,_| .i _ _,_,_| .s _ _,_,_| .p0,_,_| .l0,_,_| .m0,_,_| .f0,_,_| .a0,_,_=>trivial
 | .p _ _,h,g=>⟨h,g⟩
 | .l _ _ _ _,h,g=>⟨h,g⟩
 | .u _ _ _ _ _,h,g=>⟨h,g⟩
 | .ue _ _ _,h,g=>⟨h,g⟩
 | .m _,h,g=>⟨h,g⟩
 | .y _,h,g=>⟨h,g⟩
 | .f _ a e,h,g=>⟨qo a h.1 g.1,qo e h.2 g.2⟩
 | .a _ v,h,g=>pz v h g
 | .g cs,h,g=>qo cs h g
 | .t cs,h,g=>qo cs h g
theorem qo{p q:Nat→Prop}:∀l,fq p l→fq q l→fq (fun b=>p b∧q b) l
 |[],_,_=>trivial
 |v::l,h,g=>⟨pz v h.1 g.1,qo l h.2 g.2⟩
end
theorem Jt{p q:Nat→Prop}(blk:bz)(h:ff p blk)(g:ff q blk):ff (fun b=>p b∧q b) blk:=by
 cases blk with
 |cells ty n ex fz str d t=>exact fun k v hk=>pz v (h k v hk) (g k v hk)
 |map es c=>exact fun e he=>⟨pz _ (h e he).1 (g e he).1,pz _ (h e he).2 (g e he).2⟩
 |loop s pe fn tm ps a b d=>exact⟨fun p=>pz _ (h.1 p) (g.1 p),h.2,g.2⟩
 |defs _=>trivial
 |siter _ _ _=>trivial
 |miter m _ _ _=>exact fun b hb=>⟨h b hb,g b hb⟩
theorem bh7{P:Program}(hm:P.follows .mixedOrders=true){Φ:Nat→Option CF}(hΦ:eC P Φ){f:Nat}{g:RO→List V→Mem→Nat→RC}
 (h:∀F args M ct v N ct',g F args M ct= .k v N ct'→Wf F M ct args→ ∃F0 M0 M1 ct1,rD F0 M0 F M∧fu (mW Φ) F0 f args M0 ct (Φ f)= .k v M1 ct1∧ct≤ct'∧bd (· <ct') v∧
  ∀b blk,N.get b=some blk→(M1.get b=some blk∧b<ct'∧ff (· <ct') blk)∨(M.get b=some blk∧M0.get b=none)):bg P f g:=by
 intro F args M ct v N ct' hg E c w hr hglob hbig hf ha
 obtain⟨F0,M0,M1,ct1,hsub,hc,hle,hbv,hN⟩:=h F args M ct v N ct' hg (b51 hr hbig hf ha)
 obtain⟨fn,h1,h2,h3,hC⟩:=iw (rd:=none) (fn:=0) (F₀:=[]) hΦ (D1 hm hΦ) F0 f args M0 ct v M1 ct1 hc E c w (hsub.rel hr) hglob hbig hf ha
 refine⟨fn,h1,h2,h3,hC.mono ?_⟩
 rintro e w' ⟨E',c',rfl,hS,hb,hG⟩
 have hS':=hS.framed hsub hr (N:=N) fun b blk hb=>(hN b blk hb).imp (fun h=>h.1) id
 have hlt:∀b,c b→b<ct:=fun b hb=>by
  by_cases h:b<ct
  ·exact h
  ·exact absurd hb (hf b (by omega))
 have up:∀b,c b→c' b∧b<ct':=fun b hb=>⟨hS.le b hb,Nat.lt_of_lt_of_le (hlt b hb) hle⟩
 refine⟨E',fun b=>c' b∧b<ct',rfl,⟨hS'.ext,up,⟨?_,hS'.rel.inj,hS'.rel.apart⟩,hS'.own,hS'.frame,hS'.size,hS'.os,hS'.output,hS'.tape⟩,pz v hb hbv,⟨hle,fun b hb=>?_⟩⟩
 ·intro b blk hb;obtain⟨g1,g2,g3⟩:=hS'.rel.has b blk hb
  have old:look F M b=some blk→(c' b∧b<ct')∧ff (fun b=>c' b∧b<ct') blk:=fun ho=>by
   obtain⟨k1,k2,_⟩:=hr.has b blk ho;exact⟨up b k1,fp up blk k2⟩
  have:(c' b∧b<ct')∧ff (fun b=>c' b∧b<ct') blk:=by
   cases hn:N.get b with
   |some x=>
    rw[am hn]at hb;obtain rfl:=ae hb;rcases hN b _ hn with⟨k1,k2,k3⟩|⟨k1,_⟩
    ·exact⟨⟨g1,k2⟩,Jt _ g2 k3⟩
    ·exact old (am k1)
   |none=>
    rw[aO hn]at hb;exact old (by rw[aO (hr.apart b (by rw[hb];rfl))];exact hb)
  exact⟨this.1,this.2,g3⟩
 ·rcases hG.new b hb.1 with h|h
  ·exact .inl h
  ·exact .inr ⟨h.1,hb.2⟩
def aj(h:List V→Option V)(_:RO)(args:List V)(M:Mem)(c:Nat):RC:=match h args with
 |some v=> .k v M c
 |none=> .f
theorem bK{P:Program}(hm:P.follows .mixedOrders=true){Φ:Nat→Option CF}(hΦ:eC P Φ){f:Nat}{h:List V→Option V}
 (hh:∀args v ct,h args=some v→1000≤ct→bd (fun _=>False) v∧ ∃M1 ct1,fu (mW Φ) [] f args .e ct (Φ f)= .k v M1 ct1):bg P f (aj h):=by
 refine bh7 hm hΦ ?_
 intro F args M ct v N ct' hg hW
 unfold aj at hg
 split at hg
 ·rename_i x hx;injection hg with e1 e2 e3
  subst e1 e2 e3;obtain⟨h1,M1,ct1,h2⟩:=hh args x ct hx hW.ge;exact⟨[],.e,M1,ct1,⟨fun b blk hb=>(by cases hb),fun b blk hb=>(by cases hb),fun b hb=>(by cases hb)⟩,h2,ah _,dw (fun b hb=>hb.elim) x h1,fun b blk hb=> .inr ⟨hb,rfl⟩⟩
 ·cases hg
def kM(Φ:Nat→Option CF)(f:Nat)(cf:CF):Nat→Option CF:=fun k=>if k=f then some cf else Φ k
theorem bH{P:Program}{Φ:Nat→Option CF}(hΦ:eC P Φ){f:Nat}{g:RO→List V→Mem→Nat→RC}(hg:bg P f g):eC P (kM Φ f (.orc g)):=by
 intro k cf hk
 unfold kM at hk
 split at hk
 ·rename_i e;subst e;obtain rfl:=ae hk;exact hg
 ·exact hΦ k cf hk
section
variable{Φ:Nat→Option CF}{rd:Option Nat}{fn:Nat}{F:RO}
abbrev K(Φ:Nat→Option CF)(rd:Option Nat)(fn:Nat)(F:RO):Kn:= .mk Φ (mW Φ) rd fn F
def Wp(c:CC)(k:Kn)(s:St)(Q:Ex→St→Prop):Prop:=∃e s',aY c k s= .k e s'∧Q e s'
def oN(ops:List CO)(k:Kn)(s:St)(R:St→Prop):Prop:=∃s',dy ops k s=some s'∧R s'
def mZ(b:CC)(k:Kn)(Q:Ex→St→Prop):Ex→St→Prop
 | .nrm,s=>Wp b k s Q
 |e,s=>Q e s
def yQ(id:Nat)(Q:Ex→St→Prop):Ex→St→Prop
 | .ext id',s=>if id'=id then Q .nrm s else Q (.ext id') s
 |e,s=>Q e s
def HQ(b:CC)(k:Kn)(Q:Ex→St→Prop):Ex→St→Prop
 | .nrm,s=>Wp (.loop b) k s Q
 |e,s=>Q e s
theorem af5(k:Kn)(s:St)(Q:Ex→St→Prop):Wp .skip k s Q=Q .nrm s:=by
 apply propext;constructor
 ·rintro⟨e,s',h,q⟩;cases h;exact q
 ·exact fun q=>⟨_,_,rfl,q⟩
theorem bp6(k:Kn)(s:St)(Q:Ex→St→Prop):Wp .ret k s Q=Q .ret s:=by
 apply propext;constructor
 ·rintro⟨e,s',h,q⟩;cases h;exact q
 ·exact fun q=>⟨_,_,rfl,q⟩
theorem af4(id:Nat)(k:Kn)(s:St)(Q:Ex→St→Prop):Wp (.exit id) k s Q=Q (.ext id) s:=by
 apply propext;constructor
 ·rintro⟨e,s',h,q⟩;cases h;exact q
 ·exact fun q=>⟨_,_,rfl,q⟩
theorem bp5(ops:List CO)(k:Kn)(s:St)(Q:Ex→St→Prop):Wp (.reg ops) k s Q=oN ops k s (Q .nrm):=by
 apply propext;constructor
 ·rintro⟨e,s',h,q⟩;have h':qV (dy ops k s)= .k e s':=h;cases hs:dy ops k s with
  |none=>rw[hs]at h';cases h'
  |some s1=>
   rw[hs]at h';have:Rs.k .nrm s1= .k e s':=h';injection this with e1 e2
   subst e1 e2;exact⟨_,hs,q⟩
 ·rintro⟨s',h,q⟩;exact⟨_,_,show qV (dy ops k s)=_ by rw[h];rfl,q⟩
theorem ke(a b:CC)(k:Kn)(s:St)(Q:Ex→St→Prop):Wp (.seq a b) k s Q=Wp a k s (mZ b k Q):=by
 apply propext;constructor
 ·rintro⟨e,s',h,q⟩;have h':lD (aY b) k (aY a k s)= .k e s':=h;cases hs:aY a k s with
  |f=>rw[hs]at h';cases h'
  |k e1 s1=>
   rw[hs]at h';refine⟨e1,s1,hs,?_⟩;cases e1 with
   |nrm=>exact⟨e,s',h',q⟩
   |ret=>have h2:Rs.k .ret s1= .k e s':=h';injection h2 with a1 a2;subst a1 a2;exact q
   |ext id=>have h2:Rs.k (.ext id) s1= .k e s':=h';injection h2 with a1 a2;subst a1 a2;exact q
   |gto id=>have h2:Rs.k (.gto id) s1= .k e s':=h';injection h2 with a1 a2;subst a1 a2;exact q
 ·rintro⟨e1,s1,h1,q⟩;cases e1 with
  |nrm=>
   obtain⟨e,s',h2,q⟩:=q;exact⟨e,s',show lD (aY b) k (aY a k s)=_ by rw[h1];exact h2,q⟩
  |ret=>exact⟨_,_,show lD (aY b) k (aY a k s)=_ by rw[h1];rfl,q⟩
  |ext id=>exact⟨_,_,show lD (aY b) k (aY a k s)=_ by rw[h1];rfl,q⟩
  |gto id=>exact⟨_,_,show lD (aY b) k (aY a k s)=_ by rw[h1];rfl,q⟩
theorem W7(b:CC)(k:Kn)(Q:Ex→St→Prop)(s:St):mZ b k Q .nrm s=Wp b k s Q:=rfl
theorem W8(b:CC)(k:Kn)(Q:Ex→St→Prop)(s:St):mZ b k Q .ret s=Q .ret s:=rfl
theorem W6(b:CC)(k:Kn)(Q:Ex→St→Prop)(s:St)(id:Nat):mZ b k Q (.ext id) s=Q (.ext id) s:=rfl
theorem Xh(id:Nat)(b:CC)(k:Kn)(s:St)(Q:Ex→St→Prop):Wp (.block id b) k s Q=Wp b k s (yQ id Q):=by
 apply propext;constructor
 ·rintro⟨e,s',h,q⟩;have h':fS id (aY b k s)= .k e s':=h;cases hs:aY b k s with
  |f=>rw[hs]at h';cases h'
  |k e1 s1=>
   rw[hs]at h';refine⟨e1,s1,hs,?_⟩;cases e1 with
   |nrm=>have h2:Rs.k .nrm s1= .k e s':=h';injection h2 with a1 a2;subst a1 a2;exact q
   |ret=>have h2:Rs.k .ret s1= .k e s':=h';injection h2 with a1 a2;subst a1 a2;exact q
   |gto l=>have h2:Rs.k (.gto l) s1= .k e s':=h';injection h2 with a1 a2;subst a1 a2;exact q
   |ext i=>
    have h2:Bool.rec (motive:=fun _=>Rs) (.k (.ext i) s1) (.k .nrm s1) (Nat.beq i id)= .k e s':=h';rw[bb,bp]at h2;show(if i=id then Q .nrm s1 else Q (.ext i) s1);by_cases hi:i=id
    ·rw[ac (by simpa using hi)]at h2;injection h2 with a1 a2;subst a1 a2
     rw[ac hi];exact q
    ·rw[ab (by simpa using hi)]at h2;injection h2 with a1 a2;subst a1 a2
     rw[ab hi];exact q
 ·rintro⟨e1,s1,h1,q⟩;cases e1 with
  |nrm=>exact⟨_,_,show fS id (aY b k s)=_ by rw[h1];rfl,q⟩
  |ret=>exact⟨_,_,show fS id (aY b k s)=_ by rw[h1];rfl,q⟩
  |gto l=>exact⟨_,_,show fS id (aY b k s)=_ by rw[h1];rfl,q⟩
  |ext i=>
   have h2:fS id (aY b k s)=Bool.rec (motive:=fun _=>Rs) (.k (.ext i) s1) (.k .nrm s1) (Nat.beq i id):=by rw[h1];rfl
   rw[bb,bp]at h2;replace q:(if i=id then Q .nrm s1 else Q (.ext i) s1):=q;by_cases hi:i=id
   ·rw[ac (by simpa using hi)]at h2;rw[ac hi]at q;exact⟨_,_,h2,q⟩
   ·rw[ab (by simpa using hi)]at h2;rw[ab hi]at q;exact⟨_,_,h2,q⟩
theorem CN(id:Nat)(Q:Ex→St→Prop)(s:St):yQ id Q .nrm s=Q .nrm s:=rfl
theorem CP(id:Nat)(Q:Ex→St→Prop)(s:St):yQ id Q .ret s=Q .ret s:=rfl
theorem CM(id i:Nat)(Q:Ex→St→Prop)(s:St):yQ id Q (.ext i) s=if i=id then Q .nrm s else Q (.ext i) s:=rfl
theorem kN(b:CC)(s:St)(Q:Ex→St→Prop):Wp (.loop b) (K Φ rd fn F) s Q=Wp b (K Φ rd fn F) s (HQ b (K Φ rd fn F) Q):=by
 apply propext;constructor
 ·rintro⟨e,s',h,q⟩;have h':gV b (K Φ rd fn F) (aY b (K Φ rd fn F) s)= .k e s':=h;cases hs:aY b (K Φ rd fn F) s with
  |f=>rw[hs]at h';cases h'
  |k e1 s1=>
   rw[hs]at h';refine⟨e1,s1,hs,?_⟩;cases e1 with
   |nrm=>
    have h2:mW Φ rd fn F (.loop b) s1= .k e s':=h';rw[uZ]at h2;exact⟨e,s',h2,q⟩
   |ret=>have h2:Rs.k .ret s1= .k e s':=h';injection h2 with a1 a2;subst a1 a2;exact q
   |ext id=>have h2:Rs.k (.ext id) s1= .k e s':=h';injection h2 with a1 a2;subst a1 a2;exact q
   |gto id=>have h2:Rs.k (.gto id) s1= .k e s':=h';injection h2 with a1 a2;subst a1 a2;exact q
 ·rintro⟨e1,s1,h1,q⟩;cases e1 with
  |nrm=>
   obtain⟨e,s',h2,q⟩:=q;refine⟨e,s',show gV b (K Φ rd fn F) (aY b (K Φ rd fn F) s)=_ from ?_,q⟩;rw[h1];show mW Φ rd fn F (.loop b) s1=_;rw[uZ];exact h2
  |ret=>exact⟨_,_,show gV b (K Φ rd fn F) (aY b (K Φ rd fn F) s)=_ by rw[h1];rfl,q⟩
  |ext id=>exact⟨_,_,show gV b (K Φ rd fn F) (aY b (K Φ rd fn F) s)=_ by rw[h1];rfl,q⟩
  |gto id=>exact⟨_,_,show gV b (K Φ rd fn F) (aY b (K Φ rd fn F) s)=_ by rw[h1];rfl,q⟩
theorem K7(b:CC)(k:Kn)(Q:Ex→St→Prop)(s:St):HQ b k Q .nrm s=Wp (.loop b) k s Q:=rfl
theorem K8(b:CC)(k:Kn)(Q:Ex→St→Prop)(s:St):HQ b k Q .ret s=Q .ret s:=rfl
theorem K6(b:CC)(k:Kn)(Q:Ex→St→Prop)(s:St)(id:Nat):HQ b k Q (.ext id) s=Q (.ext id) s:=rfl
theorem Wp.mono{c:CC}{k:Kn}{s:St}{Q Q':Ex→St→Prop}(h:Wp c k s Q)(hq:∀e s',Q e s'→Q' e s'):Wp c k s Q':=by
 obtain⟨e,s',h1,q⟩:=h
 exact⟨e,s',h1,hq e s' q⟩
theorem L9{b:CC}{Q:Ex→St→Prop}(I:Nat→St→Prop)(h:∀n s,I n s→Wp b (K Φ rd fn F) s fun e s'=>match e with| .nrm=>∃m,m<n∧I m s'|e=>Q e s'):∀n s,I n s→Wp (.loop b) (K Φ rd fn F) s Q:=by
 intro n
 induction n using Nat.strongRecOn with
 |_ n ih=>
  intro s hs;rw[kN];refine(h n s hs).mono fun e s' he=>?_;cases e with
  |nrm=>obtain⟨m,hm,hI⟩:=he;exact ih m hm s' hI
  |_=>exact he
theorem iM{x:X}{a b:CC}{k:Kn}{t:T}{d:List Nat}{M:Mem}{c:Nat}{Q:Ex→St→Prop}{e:Bool}(hx:x.ev t= .b e)
 (h1:e=true→Wp a k (.mk t d M c) Q) (h2:e=false→Wp b k (.mk t d M c) Q):Wp (.cond x a b) k (.mk t d M c) Q:=by
 have he:aY (.cond x a b) k (.mk t d M c)=if e=true then aY a k (.mk t d M c)else aY b k (.mk t d M c):=by
  show iv x a b (aY a) (aY b) k (.mk t d M c)=_;unfold iv;show DB (x.ev t) _ _=_;rw[hx];cases e<;>rfl
 cases e with
 |true=>
  obtain⟨e,s',h,q⟩:=h1 rfl;exact⟨e,s',by rw[he];exact h,q⟩
 |false=>
  obtain⟨e,s',h,q⟩:=h2 rfl;exact⟨e,s',by rw[he];exact h,q⟩
theorem BV{x:X}{a b:CC}{k:Kn}{t:T}{d:List Nat}{M:Mem}{c:Nat}{Q:Ex→St→Prop}(hx:x.ev t= .b true):Wp (.cond x a b) k (.mk t d M c) Q=Wp a k (.mk t d M c) Q:=by
 have he:aY (.cond x a b) k (.mk t d M c)=aY a k (.mk t d M c):=by
  show iv x a b (aY a) (aY b) k (.mk t d M c)=_;unfold iv;show DB (x.ev t) _ _=_;rw[hx];rfl
 unfold Wp;rw[he]
theorem BU{x:X}{a b:CC}{k:Kn}{t:T}{d:List Nat}{M:Mem}{c:Nat}{Q:Ex→St→Prop}(hx:x.ev t= .b false):Wp (.cond x a b) k (.mk t d M c) Q=Wp b k (.mk t d M c) Q:=by
 have he:aY (.cond x a b) k (.mk t d M c)=aY b k (.mk t d M c):=by
  show iv x a b (aY a) (aY b) k (.mk t d M c)=_;unfold iv;show DB (x.ev t) _ _=_;rw[hx];rfl
 unfold Wp;rw[he]
theorem bp4(k:Kn)(s:St)(R:St→Prop):oN [] k s R=R s:=by
 apply propext;constructor
 ·rintro⟨s',h,q⟩;cases h;exact q
 ·exact fun q=>⟨_,rfl,q⟩
theorem fU(o:CO)(r:List CO)(k:Kn)(s:St)(R:St→Prop):oN (o::r) k s R↔ ∃s',eb o k s=some s'∧oN r k s' R:=by
 constructor
 ·rintro⟨s',h,q⟩;have h':mt (dy r) k (eb o k s)=some s':=h;cases hs:eb o k s with
  |none=>rw[hs]at h';cases h'
  |some s1=>rw[hs]at h';exact⟨s1,rfl,s',h',q⟩
 ·rintro⟨s1,h1,s',h2,q⟩;exact⟨s',show mt (dy r) k (eb o k s)=some s' by rw[h1];exact h2,q⟩
def QR.to{β:Type}(r:QR)(f:β)(g:V→β):β:=match r with
 | .f=>f
 | .v x=>g x
 | .r x _=>g x
theorem cD8{p:aE}{o:QO}{r:List CO}{k:Kn}{t:T}{d:List Nat}{M:Mem}{c:Nat}{R:St→Prop}{x:V}(h:(cY o k.F M t).val=some x):
 oN (.mk (some p) (.q o) none::r) k (.mk t d M c) R=oN r k (.mk (t.setP p x) d M c) R:=by
 have hs:eb (.mk (some p) (.q o) none) k (.mk t d M c)=some (.mk (t.setP p x) d M c):=by
  show ac9 (some p) t d M c (cY o k.F M t)=_;cases hq:cY o k.F M t with
  |f=>rw[hq]at h;cases h
  |v y=>rw[hq]at h;obtain rfl:=ae h;exact gj _ _ _ _ _ _
  |r y b=>rw[hq]at h;obtain rfl:=ae h;exact gj _ _ _ _ _ _
 apply propext
 rw[fU,hs]
 constructor
 ·rintro⟨s',h,q⟩;obtain rfl:=ae h;exact q
 ·exact fun q=>⟨_,rfl,q⟩
theorem cD7{p:aE}{o:AO}{r:List CO}{k:Kn}{t:T}{d:List Nat}{M:Mem}{c:Nat}{R:St→Prop}{v:V}{blk:bz}(h:kP o c t=some (v,blk)):
 oN (.mk (some p) (.a o) none::r) k (.mk t d M c) R=oN r k (.mk (t.setP p v) d (M.set c blk) (c+1)) R:=by
 have hs:eb (.mk (some p) (.a o) none) k (.mk t d M c)=some (.mk (t.setP p v) d (M.set c blk) (c+1)):=by
  show ac8 (some p) t d M c (kP o c t)=_;rw[h];show W2 (some p) t d M c v blk=_;unfold W2;rw[Tr.force_eq,aQ,gj];rfl
 apply propext
 rw[fU,hs]
 constructor
 ·rintro⟨s',h,q⟩;obtain rfl:=ae h;exact q
 ·exact fun q=>⟨_,rfl,q⟩
theorem cb9{dst:Option aE}{o:EO}{r:List CO}{k:Kn}{t:T}{d:List Nat}{M M':Mem}{c c':Nat}{R:St→Prop}{v:V}(h:iG o k M c t= .k v M' c'):
 oN (.mk dst (.e o) none::r) k (.mk t d M c) R=oN r k (.mk (setT t dst v) d M' c') R:=by
 have hs:eb (.mk dst (.e o) none) k (.mk t d M c)=some (.mk (setT t dst v) d M' c'):=by
  show wQ dst t d (iG o k M c t)=_;rw[h];exact gj _ _ _ _ _ _
 apply propext
 rw[fU,hs]
 constructor
 ·rintro⟨s',h,q⟩;obtain rfl:=ae h;exact q
 ·exact fun q=>⟨_,rfl,q⟩
theorem wT{dst:Option aE}{o:OK}{g:aE}{want:Bool}{r:List CO}{k:Kn}{t:T}{d:List Nat}{M:Mem}{c:Nat}{R:St→Prop}{e:Bool}(hg:cz t g= .b e)
 (h1:e=want→oN (.mk dst o none::r) k (.mk t d M c) R) (h2:e=(!want)→oN r k (.mk (setT t dst undef) d M c) R):oN (.mk dst o (some (g,want))::r) k (.mk t d M c) R:=by
 have hw:wanted t (some (g,want))=(e==want):=by
  show hU want (cz t g)=_;rw[hg];cases e<;>cases want<;>rfl
 have hs:eb (.mk dst o (some (g,want))) k (.mk t d M c)=if e=want then eb (.mk dst o none) k (.mk t d M c)else some (.mk (setT t dst undef) d M c):=by
  show s_w o k dst t d M c (wanted t (some (g,want)))=_;rw[hw];by_cases he:e=want
  ·rw[ac he,show(e==want)=true by simpa using he];rfl
  ·rw[ab he,show(e==want)=false by simpa using he];exact gj _ _ _ _ _ _
 rw[fU,hs]
 by_cases he:e=want
 ·rw[ac he];exact(fU _ _ _ _ _).1 (h1 he)
 ·rw[ab he];exact⟨_,rfl,h2 (by cases e<;>cases want<;>first|rfl|exact absurd rfl he)⟩
theorem cc1{dst:Option aE}{o:OK}{g:aE}{want:Bool}{r:List CO}{k:Kn}{t:T}{d:List Nat}{M:Mem}{c:Nat}{R:St→Prop}(hg:cz t g= .b want):
 oN (.mk dst o (some (g,want))::r) k (.mk t d M c) R=oN (.mk dst o none::r) k (.mk t d M c) R:=by
 have hw:wanted t (some (g,want))=true:=by
  show hU want (cz t g)=_;rw[hg];cases want<;>rfl
 have hs:eb (.mk dst o (some (g,want))) k (.mk t d M c)=eb (.mk dst o none) k (.mk t d M c):=by
  show s_w o k dst t d M c (wanted t (some (g,want)))=_;rw[hw];rfl
 apply propext
 rw[fU,fU,hs]
theorem cc0{dst:Option aE}{o:OK}{g:aE}{want:Bool}{r:List CO}{k:Kn}{t:T}{d:List Nat}{M:Mem}{c:Nat}{R:St→Prop}(hg:cz t g= .b (!want)):
 oN (.mk dst o (some (g,want))::r) k (.mk t d M c) R=oN r k (.mk (setT t dst undef) d M c) R:=by
 have hw:wanted t (some (g,want))=false:=by
  show hU want (cz t g)=_;rw[hg];cases want<;>rfl
 have hs:eb (.mk dst o (some (g,want))) k (.mk t d M c)=some (.mk (setT t dst undef) d M c):=by
  show s_w o k dst t d M c (wanted t (some (g,want)))=_;rw[hw];exact gj _ _ _ _ _ _
 apply propext
 rw[fU,hs]
 constructor
 ·rintro⟨s',h,q⟩;obtain rfl:=ae h;exact q
 ·exact fun q=>⟨_,rfl,q⟩
theorem cc2{dst:Option aE}{o:OK}{g:aE}{want:Bool}{r:List CO}{k:Kn}{t:T}{d:List Nat}{M:Mem}{c:Nat}{R:St→Prop}(hg:cz t g=undef):
 oN (.mk dst o (some (g,want))::r) k (.mk t d M c) R=oN r k (.mk (setT t dst undef) d M c) R:=by
 have hw:wanted t (some (g,want))=false:=by
  show hU want (cz t g)=_;rw[hg];rfl
 have hs:eb (.mk dst o (some (g,want))) k (.mk t d M c)=some (.mk (setT t dst undef) d M c):=by
  show s_w o k dst t d M c (wanted t (some (g,want)))=_;rw[hw];exact gj _ _ _ _ _ _
 apply propext
 rw[fU,hs]
 constructor
 ·rintro⟨s',h,q⟩;obtain rfl:=ae h;exact q
 ·exact fun q=>⟨_,rfl,q⟩
def Q(n:Nat):aE:=bq n
def J0(o:Option (List V))(M:Mem)(c:Nat)(Post:V→Mem→Nat→Prop):Prop:=match o with
 |none=>False
 |some vs=>Post (tW vs) M c
def LB(o:Option Mem)(F:RO)(t:T)(res:List RV)(c:Nat)(Post:V→Mem→Nat→Prop):Prop:=match o with
 |none=>False
 |some M=>J0 (eN F M t res) M c Post
def j5(F:RO)(res:List RV)(Post:V→Mem→Nat→Prop):Ex→St→Prop
 | .nrm,.mk t d M c=>LB (cA d M) F t res c Post
 | .ret,.mk t d M c=>LB (cA d M) F t res c Post
 |_,_=>False
theorem UE(F:RO)(res:List RV)(Post:V→Mem→Nat→Prop)(t:T)(M:Mem)(c:Nat):j5 F res Post .nrm (.mk t [] M c)=J0 (eN F M t res) M c Post:=rfl
theorem UF(F:RO)(res:List RV)(Post:V→Mem→Nat→Prop)(t:T)(M:Mem)(c:Nat):j5 F res Post .ret (.mk t [] M c)=J0 (eN F M t res) M c Post:=rfl
theorem cm2(vs:List V)(M:Mem)(c:Nat)(Post:V→Mem→Nat→Prop):J0 (some vs) M c Post=Post (tW vs) M c:=rfl
def xp(v:V):Option (List V)→Option (List V)
 |some l=>some (v::l)
 |none=>none
theorem CX(v:V)(l:List V):xp v (some l)=some (v::l):=rfl
theorem KD(F:RO)(M:Mem)(t:T):eN F M t []=some []:=rfl
theorem bj6(F:RO)(M:Mem)(t:T)(p:aE)(r:List RV):eN F M t (.t p::r)=xp (cz t p) (eN F M t r):=by
 show tY (cz t p) (eN F M t r)=_
 cases eN F M t r<;>rfl
theorem VB(v:V):tW [v]=v:=rfl
theorem VD(v w:V)(l:List V):tW (v::w::l)= .t (v::w::l):=rfl
theorem xf{f n:Nat}{res:List RV}{body:CC}{args:List V}{M:Mem}{c:Nat}{Post:V→Mem→Nat→Prop}(hf:Φ f=some (.mk n res body))
 (h:Wp body (K Φ none f F) (.mk (aS n args) [] M c) (j5 F res Post)):∃v M' c',fu (mW Φ) F f args M c (Φ f)= .k v M' c'∧Post v M' c':=by
 obtain⟨e,s,h1,hq⟩:=h
 obtain⟨t,d,M1,c1⟩:=s
 have hend:HL e=true∧LB (cA d M1) F t res c1 Post:=by
  cases e with
  |nrm=>exact⟨rfl,hq⟩
  |ret=>exact⟨rfl,hq⟩
  |ext id=>exact hq.elim
  |gto l=>exact hq.elim
 have hcall:fu (mW Φ) F f args M c (some (.mk n res body))=Bool.rec (motive:=fun _=>RC) .f (yZ res F t c1 (cA d M1)) (HL e):=by
  show nA res F (mW Φ none f F body (.mk (aS n args) [] M c))=_;rw[uZ,h1];rfl
 rw[hf,hcall,hend.1]
 have h2:=hend.2
 cases hd:cA d M1 with
 |none=>rw[hd]at h2;exact h2.elim
 |some M2=>
  rw[hd]at h2;have h3:J0 (eN F M2 t res) M2 c1 Post:=h2;cases hr:eN F M2 t res with
  |none=>rw[hr]at h3;exact h3.elim
  |some vs=>
   rw[hr]at h3;exact⟨tW vs,M2,c1,show za c1 M2 (eN F M2 t res)=_ by rw[hr];rfl,h3⟩
end
section
variable{Φ:Nat→Option CF}{rd:Option Nat}{fn:Nat}{F:RO}
def bt6(o:Option V)(p:aE)(r:List CO)(k:Kn)(t:T)(d:List Nat)(M:Mem)(c:Nat)(R:St→Prop):Prop:=match o with
 |none=>False
 |some x=>oN r k (.mk (t.setP p x) d M c) R
def bt5(o:Option (V×bz))(p:aE)(r:List CO)(k:Kn)(t:T)(d:List Nat)(M:Mem)(c:Nat)(R:St→Prop):Prop:=match o with
 |none=>False
 |some x=>oN r k (.mk (t.setP p x.1) d (M.set c x.2) (c+1)) R
def b61(o:RC)(p:aE)(r:List CO)(k:Kn)(t:T)(d:List Nat)(R:St→Prop):Prop:=match o with
 | .f=>False
 | .k v M c=>oN r k (.mk (t.setP p v) d M c) R
def aj6(o:RC)(r:List CO)(k:Kn)(t:T)(d:List Nat)(R:St→Prop):Prop:=match o with
 | .f=>False
 | .k v M c=>oN r k (.mk t d M c) R
theorem cx7(x:V)(p:aE)(r:List CO)(k:Kn)(t:T)(d:List Nat)(M:Mem)(c:Nat)(R:St→Prop):bt6 (some x) p r k t d M c R=oN r k (.mk (t.setP p x) d M c) R:=rfl
theorem cx5(v:V)(b:bz)(p:aE)(r:List CO)(k:Kn)(t:T)(d:List Nat)(M:Mem)(c:Nat)(R:St→Prop):bt5 (some (v,b)) p r k t d M c R=oN r k (.mk (t.setP p v) d (M.set c b) (c+1)) R:=rfl
theorem cx6(v:V)(M:Mem)(c:Nat)(p:aE)(r:List CO)(k:Kn)(t:T)(d:List Nat)(R:St→Prop):b61 (.k v M c) p r k t d R=oN r k (.mk (t.setP p v) d M c) R:=rfl
theorem bU7(v:V)(M:Mem)(c:Nat)(r:List CO)(k:Kn)(t:T)(d:List Nat)(R:St→Prop):aj6 (.k v M c) r k t d R=oN r k (.mk t d M c) R:=rfl
theorem cE1(p:aE)(o:QO)(r:List CO)(t:T)(d:List Nat)(M:Mem)(c:Nat)(R:St→Prop):
 oN (.mk (some p) (.q o) none::r) (K Φ rd fn F) (.mk t d M c) R=bt6 (cY o F M t).val p r (K Φ rd fn F) t d M c R:=by
 cases h:(cY o F M t).val with
 |some x=>rw[cD8 (k:=K Φ rd fn F) h];rfl
 |none=>
  apply propext;rw[fU];constructor
  ·rintro⟨s',h1,_⟩;have h1':ac9 (some p) t d M c (cY o F M t)=some s':=h1;cases hq:cY o F M t with
   |f=>rw[hq]at h1';cases h1'
   |v y=>rw[hq]at h;cases h
   |r y b=>rw[hq]at h;cases h
  ·exact False.elim
theorem cD9(p:aE)(o:AO)(r:List CO)(t:T)(d:List Nat)(M:Mem)(c:Nat)(R:St→Prop):
 oN (.mk (some p) (.a o) none::r) (K Φ rd fn F) (.mk t d M c) R=bt5 (kP o c t) p r (K Φ rd fn F) t d M c R:=by
 cases h:kP o c t with
 |some x=>rw[cD7 (k:=K Φ rd fn F) (v:=x.1) (blk:=x.2) h];rfl
 |none=>
  apply propext;rw[fU];constructor
  ·rintro⟨s',h1,_⟩;have h1':ac8 (some p) t d M c (kP o c t)=some s':=h1;rw[h]at h1';cases h1'
  ·exact False.elim
theorem cE0(p:aE)(o:EO)(r:List CO)(t:T)(d:List Nat)(M:Mem)(c:Nat)(R:St→Prop):
 oN (.mk (some p) (.e o) none::r) (K Φ rd fn F) (.mk t d M c) R=b61 (iG o (K Φ rd fn F) M c t) p r (K Φ rd fn F) t d R:=by
 cases h:iG o (K Φ rd fn F) M c t with
 |k v M' c'=>rw[cb9 h];rfl
 |f=>
  apply propext;rw[fU];constructor
  ·rintro⟨s',h1,_⟩;have h1':wQ (some p) t d (iG o (K Φ rd fn F) M c t)=some s':=h1;rw[h]at h1';cases h1'
  ·exact False.elim
theorem cc7(o:EO)(r:List CO)(t:T)(d:List Nat)(M:Mem)(c:Nat)(R:St→Prop):
 oN (.mk none (.e o) none::r) (K Φ rd fn F) (.mk t d M c) R=aj6 (iG o (K Φ rd fn F) M c t) r (K Φ rd fn F) t d R:=by
 cases h:iG o (K Φ rd fn F) M c t with
 |k v M' c'=>rw[cb9 h];rfl
 |f=>
  apply propext;rw[fU];constructor
  ·rintro⟨s',h1,_⟩;have h1':wQ none t d (iG o (K Φ rd fn F) M c t)=some s':=h1;rw[h]at h1';cases h1'
  ·exact False.elim
theorem ag1(f:Nat)(as0:List X)(M:Mem)(c:Nat)(t:T):iG (.call f as0) (K Φ rd fn F) M c t=fu (mW Φ) F f (evs as0 t) M c (Φ f):=rfl
theorem Jz(F:RO)(f:Nat)(args:List V)(M:Mem)(c:Nat)(g:RO→List V→Mem→Nat→RC):fu (mW Φ) F f args M c (some (.orc g))=g F args M c:=rfl
theorem bd6(l r:T)(v:V):cz (Tr.n l (some v) r) .h=v:=Eq.trans (rfl:_=v) (Eq.refl v)
theorem bd8(l r:T):cz (Tr.n l none r) .h=undef:=Eq.trans (rfl:_=undef) (Eq.refl undef)
theorem bd7(l r:T)(v:Option V)(p:aE):cz (Tr.n l v r) (.l p)=cz l p:=Eq.trans (rfl:_=cz l p) (Eq.refl _)
theorem bd9(l r:T)(v:Option V)(p:aE):cz (Tr.n l v r) (.r p)=cz r p:=Eq.trans (rfl:_=cz r p) (Eq.refl _)
theorem ev_t(p:aE)(t:T):(X.t p).ev t=cz t p:=rfl
theorem ev_c(v:V)(t:T):(X.c v).ev t=v:=rfl
theorem Zf(t:T):evs [] t=[]:=rfl
theorem UN(x:X)(l:List X)(t:T):evs (x::l) t=x.ev t::evs l t:=rfl
theorem cB2(x:X)(M:Mem)(t:T):(cY (.mv x) F M t).val=some (x.ev t):=rfl
def pkV:V→V→V→Option V
 | .b x,a,b=>some (bif x then a else b)
 |_,_,_=>none
theorem bZ5(c a b:X)(M:Mem)(t:T):(cY (.pk c a b) F M t).val=pkV (c.ev t) (a.ev t) (b.ev t):=by
 show(Ky c a b F M t).val=_
 unfold Ky pkV
 cases c.ev t with
 |b x=>cases x<;>rfl
 |_=>rfl
theorem bU4(a b:V):pkV (.b true) a b=some a:=rfl
theorem bU3(a b:V):pkV (.b false) a b=some b:=rfl
def bu(op:BinOp):V→V→Option V
 | .i k a,.i k' b=>(fW op k a k' b).val
 | .s n a,.s m b=>(U9 op n a m b).val
 |_,_=>none
theorem af0(op:BinOp)(x y:X)(M:Mem)(t:T):(cY (.bi op x y) F M t).val=bu op (x.ev t) (y.ev t):=by
 show(Bf op x y F M t).val=_
 unfold Bf bu
 cases x.ev t with
 |i k a=>
  show(vH (y.ev t) QR.f fun k' b=>fW op k a k' b).val=_;cases y.ev t<;>rfl
 |s n a=>
  show(pR (y.ev t) QR.f fun m b=>U9 op n a m b).val=_;cases y.ev t<;>rfl
 |_=>cases y.ev t<;>rfl
theorem jN(k:IntKind)(a b:Int):bu .add (.i k a) (.i k b)=some (.i k (k.wrap (a+b))):=by
 cases k<;>simp[bu,fW,eG,pB,aY1,io,rY,eI,jh,Fb,QR.val]
theorem fX(k:IntKind)(a b:Int):bu .sub (.i k a) (.i k b)=some (.i k (k.wrap (a-b))):=by
 show _=some (V.i k (k.wrap (Int.sub a b)))
 cases k<;>simp[bu,fW,eG,pB,aZ0,io,rY,eI,jh,QR.val]
theorem b81(k:IntKind)(a b:Int):bu .lss (.i k a) (.i k b)=some (.b (decide (a<b))):=by
 cases k<;>simp[bu,fW,eG,pB,aY7,io,rY,mP,gi,QR.val]
theorem b79(k:IntKind)(a b:Int):bu .gtr (.i k a) (.i k b)=some (.b (decide (b<a))):=by
 cases k<;>simp[bu,fW,eG,pB,aY5,io,rY,mP,gi,QR.val]
theorem dle(a b:Int):decide (a≤b)= !decide (b<a):=by
 by_cases h:b<a
 ·rw[af h,ag (by omega)];rfl
 ·rw[ag h,af (by omega)];rfl
theorem b80(k:IntKind)(a b:Int):bu .leq (.i k a) (.i k b)=some (.b (decide (a≤b))):=by
 cases k<;>simp[bu,fW,eG,pB,aY6,io,rY,mP,gi,iH,QR.val,dle,-decide_not,-Int.not_lt]
theorem b78(k:IntKind)(a b:Int):bu .geq (.i k a) (.i k b)=some (.b (decide (b≤a))):=by
 cases k<;>simp[bu,fW,eG,pB,aY4,io,rY,mP,gi,iH,QR.val,dle,-decide_not,-Int.not_lt]
theorem b77(k:IntKind)(a b:Int):bu .eql (.i k a) (.i k b)=some (.b (decide (a=b))):=by
 cases k<;>simp[bu,fW,eG,pB,aY3,io,rY,mP,cV,QR.val]
theorem b82(k:IntKind)(a b:Int):bu .neq (.i k a) (.i k b)=some (.b (decide (a≠b))):=by
 cases k<;>simp[bu,fW,eG,pB,aY9,io,rY,mP,cV,iH,QR.val]
def unV(op:UnOp)(x:V):Option V:=(cY (.un op (.c x)) [] .e .e).val
theorem bZ6(op:UnOp)(x:X)(M:Mem)(t:T):(cY (.un op x) F M t).val=unV op (x.ev t):=by
 cases op<;>rfl
theorem bk9(x:Bool):unV .not (.b x)=some (.b (!x)):=by cases x<;>rfl
def lnV(sh:Sh)(F:RO)(M:Mem)(x:V):Option V:=(cY (.ln sh (.c x)) F M .e).val
theorem bl2(sh:Sh)(x:X)(M:Mem)(t:T):(cY (.ln sh x) F M t).val=lnV sh F M (x.ev t):=by
 cases sh<;>rfl
theorem lnS(n x:Nat)(M:Mem):lnV .str F M (.s n x)=some (.i .i64 (n:Int)):=rfl
def qI(x i:V):Option V:=(cY (.ixS (.c x) (.c i)) [] .e .e).val
theorem b11(x i:X)(M:Mem)(t:T):(cY (.ixS x i) F M t).val=qI (x.ev t) (i.ev t):=rfl
end
def wl(k:IntKind):List Int→List V
 |[]=>[]
 |z::r=> .i k z::wl k r
def sy(ty:Nat)(k:IntKind)(zs:List Int):bz:= .cells ty zs.length false zs.length true [] (aX (wl k zs) 0 .e)
abbrev gF:=Nat×IntKind×List Int
def mA:List gF→(Nat→Nat)→RO
 |[],_=>[]
 |(g,k,zs)::r,ty=>(g,sy (ty g) k zs)::mA r ty
def x4(W:World)(t:gF):Prop:=∃ty fr,W.heap[t.1]?=some (.cells (t.2.2.map fun z=>Value.int t.2.1 z).toArray ty fr)
theorem oA(k:IntKind)(zs:List Int):wl k zs=zs.map (V.i k):=by
 induction zs with
 |nil=>rfl
 |cons z r ih=>rw[wl,ih];rfl
theorem bk7{c:Nat→Prop}{ty:Nat}{k:IntKind}{zs:List Int}:ff c (sy ty k zs):=by
 intro j v hv
 rw[bY]at hv
 split at hv
 ·rename_i hj;rw[dk]at hv;have hlen:(wl k zs).length=zs.length:=by rw[oA];simp
  rw[ac (by omega)]at hv;rw[oA]at hv;simp only[Nat.sub_zero,List.getElem?_map]at hv;rw[List.getElem?_eq_getElem hj]at hv;simp only[Option.map_some]at hv;obtain rfl:=ae hv;trivial
 ·cases hv
theorem rp{L:List gF}{ty:Nat→Nat}{b:Nat}{blk:bz}(h:aZ (mA L ty) b=some blk):∃t∈L,t.1=b∧blk=sy (ty b) t.2.1 t.2.2:=by
 induction L with
 |nil=>cases h
 |cons t r ih=>
  obtain⟨g,k,zs⟩:=t;have h':Bool.rec (motive:=fun _=>Option bz) (aZ (mA r ty) b) (some (sy (ty g) k zs)) (Nat.beq g b)=some blk:=h;rw[bb,bp]at h';by_cases e:g=b
  ·rw[ac (by simpa using e)]at h';subst e;exact⟨_,bh ..,rfl,(ae h').symm⟩
  ·rw[ab (by simpa using e)]at h';obtain⟨t,ht,h1,h2⟩:=ih h';exact⟨t,bc _ ht,h1,h2⟩
theorem pn{P:Program}{W:World}{name:String}{k:IntKind}{zs:List Int}{g:Nat}{t e:TypeId}{n:Nat}
 (hg:P.globalNamed name=some g) (hty:(P.globals[g]?).map (·.type)=some t) (ht:P.underlying t=some (.array n e)) (he:P.underlying e=some (.int k)) (hce:P.cellsOf e=1) (hct:P.cellsOf t=n):
 ∀{laid:List (String×DataW Unit)} {ps:List MemPlace},(name,Lib.tabData k zs)∈laid→DataW.LaidVars P W laid ps→x4 W (g,k,zs)
 |x::r,ps,hm,h=>by
  obtain⟨g',t',cs,fuel,p,q,hg',ht',hvar,hd,hr,_⟩:=h;rcases bj.1 hm with e1|hm'
  ·subst e1;obtain rfl:=ae (hg.symm.trans hg');obtain rfl:=ae (hty.symm.trans ht');have hcs:=Lib.cells_of_tab ht he hce hct hd;unfold World.var? at hvar;rw[hg]at hvar;simp only[Option.bind_some]at hvar;split at hvar
   ·rename_i cs' ty fr hh;obtain rfl:=ae hvar;refine⟨ty,fr,?_⟩;show W.heap[g]?=_;rw[hh,←hcs]
   ·cases hvar
  ·exact pn hg hty ht he hce hct hm' hr
theorem wj{P:Program}{W:World}{name:String}{k:IntKind}{zs:List Int}{g:Nat}{t e:TypeId}{n:Nat}
 (hg:P.globalNamed name=some g) (hty:(P.globals[g]?).map (·.type)=some t) (ht:P.underlying t=some (.array n e)) (he:P.underlying e=some (.int k)) (hce:P.cellsOf e=1) (hct:P.cellsOf t=n)
 {laid:List (String×DataW Unit)} (hm:(name,Lib.tabData k zs)∈laid) (h:laidMet P laid W):x4 W (g,k,zs):=by
 obtain⟨ps,hv,_⟩:=h
 exact pn hg hty ht he hce hct hm hv
def Ec(k:IntKind)(z:Int):V→Bool
 | .i k' z'=>io k k'&&JH z z'
 |_=>false
def kc(n:Nat)(d:List V)(c:T)(k:IntKind):List Int→Nat→Bool
 |[],i=>Nat.beq i n
 |z::r,i=>match cell n d c i with
  |some v=>Ec k z v&&kc n d c k r (Nat.succ i)
  |none=>false
def rq(F:RO)(t:gF):Bool:=match aZ F t.1 with
 |some (.cells _ n false fz true d c)=>Nat.beq fz n&&kc n d c t.2.1 t.2.2 0
 |_=>false
def bB(F:RO):List gF→Bool
 |[]=>true
 |t::r=>Nat.blt t.1 1000&&(rq F t&&bB F r)
theorem mz{n:Nat}{d:List V}{c:T}{k:IntKind}:∀{zs:List Int} {i:Nat},kc n d c k zs i=true→i+zs.length=n∧ ∀j z,zs[j]?=some z→cell n d c (i+j)=some (.i k z)
 |[],i,h=>by
  have:decide (i=n)=true:=by rw[←bp];exact h
  exact⟨by simpa using this,fun j z hz=>by simp at hz⟩
 |z::r,i,h=>by
  unfold kc at h;split at h
  ·rename_i v hv;rw[aJ]at h;obtain⟨h1,h2⟩:=h;obtain⟨h3,h4⟩:=mz h2;have hve:v= .i k z:=by
    unfold Ec at h1;split at h1
    ·rename_i k' z';rw[aJ,fc,cV]at h1;have a1:=aP h1.1;have a2:=aP h1.2;rw[a1,a2]
    ·cases h1
   refine⟨by simp only[bk];omega,fun j z' hz=>?_⟩;cases j with
   |zero=>simp at hz;subst hz;rw[←hve];exact hv
   |succ j=>
    rw[show i+(j+1)=Nat.succ i+j by omega];exact h4 j z' (by simpa using hz)
  ·cases h
theorem Ws{ty:Nat}{k:IntKind}{zs:List Int}{j:Nat}{v:V}(h:cell zs.length [] (aX (wl k zs) 0 .e) j=some v):∃z,zs[j]?=some z∧v= .i k z:=by
 rw[bY]at h
 split at h
 ·rename_i hj;rw[dk]at h;have hlen:(wl k zs).length=zs.length:=by rw[oA];simp
  rw[ac (by omega)]at h;rw[oA]at h;simp only[Nat.sub_zero,List.getElem?_map]at h;rw[List.getElem?_eq_getElem hj]at h;simp only[Option.map_some]at h;exact⟨zs[j],List.getElem?_eq_getElem hj,(ae h).symm⟩
 ·cases h
theorem Wr{P:Program}{E:cT}{F:RO}{M:Mem}{c:Nat→Prop}{w:World}{t:gF}(hr:kj P E F M c w)(h:rq F t=true):∃ty o,w.heap[E.ρ t.1]?=some o∧fe P E t.1 (sy ty t.2.1 t.2.2) o:=by
 unfold rq at h
 split at h
 ·rename_i ty n fz d cs hF;rw[aJ,bp]at h;obtain⟨h0,h⟩:=h;have h0:=aP h0;subst h0;obtain⟨h1,h2⟩:=mz h;have hl:look F M t.1=some (.cells ty fz false fz true d cs):=by
   rw[aO (hr.apart t.1 (by rw[hF];rfl))];exact hF
  obtain⟨_,_,o,ho,arr,fr,rfl,hc⟩:=hr.has _ _ hl;have hn:t.2.2.length=fz:=by omega
  subst hn;refine⟨ty,_,ho,arr,fr,rfl,?_,hc.size,hc.free,hc.plain⟩;intro j v hv;obtain⟨z,hz,rfl⟩:=Ws (ty:=ty) hv;refine hc.cell j _ ?_;have:=h2 j z hz
  rwa [Nat.zero_add]at this
 ·cases h
theorem kd{F:RO}:∀{L:List gF},bB F L=true→ ∀t∈L,t.1<1000∧rq F t=true
 |[],_,t,ht=>by cases ht
 |x::r,h,t,ht=>by
  have h':(Nat.blt x.1 1000&&(rq F x&&bB F r))=true:=h;rw[aJ,aJ,eT]at h';rcases bj.1 ht with e|ht'
  ·subst e;exact⟨aP h'.1,h'.2.1⟩
  ·exact kd h'.2.2 t ht'
theorem vX{P:Program}{E:cT}{F:RO}{M:Mem}{c:Nat→Prop}{w:World}{L:List gF}(hr:kj P E F M c w)(hglob:∀g,g<1000→E.ρ g=g∧E.β g=0)(h:bB F L=true):∃ty,kj P E (mA L ty) .e c0 w:=by
 have hall:=kd h
 have hty:∃ty:Nat→Nat,∀b,∀t∈L,t.1=b→ ∃o,w.heap[E.ρ b]?=some o∧fe P E b (sy (ty b) t.2.1 t.2.2) o:=by
  refine⟨fun b=>match w.heap[E.ρ b]? with|some (.cells _ ty _)=>ty|_=>0,fun b t ht e=>?_⟩;subst e;obtain⟨ty,o,ho,hB⟩:=Wr hr (hall t ht).2;have hB':=hB;obtain⟨arr,fr,rfl,_⟩:=hB;refine⟨_,ho,?_⟩;simp only[ho];exact hB'
 obtain⟨ty,hty⟩:=hty
 refine⟨ty,⟨?_,?_,fun b hb=>rfl⟩⟩
 ·intro b blk hb;rw[aO (show(Tr.e:Mem).get b=none from rfl)]at hb;obtain⟨t,ht,e,rfl⟩:=rp hb;subst e;obtain⟨o,ho,hB⟩:=hty _ t ht rfl;exact⟨(hall t ht).1,bk7,o,ho,hB⟩
 ·intro b b' h1 h2 e;have lt:∀x,(look (mA L ty) .e x).isSome→x<1000:=by
   intro x hx;obtain⟨y,hy⟩:=bn.1 hx;rw[aO (show(Tr.e:Mem).get x=none from rfl)]at hy;obtain⟨t,ht,e,_⟩:=rp hy;subst e;exact(hall t ht).1
  rw[(hglob b (lt b h1)).1,(hglob b' (lt b' h2)).1]at e;exact e
theorem Tr.setP_same{α:Type}(p:aE)(v w:α):∀t:Tr α,(t.setP p v).setP p w=t.setP p w:=by
 induction p with
 |h=>intro t;cases t<;>rfl
 |l p ih=>
  intro t;cases t with
  |e=>rw[Tr.setP_el,Tr.setP_l,ih,Tr.setP_el]
  |n l x r=>rw[Tr.setP_l,Tr.setP_l,ih,Tr.setP_l]
 |r p ih=>
  intro t;cases t with
  |e=>rw[Tr.setP_er,Tr.setP_r,ih,Tr.setP_er]
  |n l x r=>rw[Tr.setP_r,Tr.setP_r,ih,Tr.setP_r]
theorem ss{α:Type}(v:α):∀(f k:Nat),k+1<2^(f+1)→Tr.single (some v) f k=(Tr.e:Tr α).setP (mj f k) v
 |0,k,h=>by
  have:k=0:=by simp at h;omega
  subst this;rfl
 |f+1,k,h=>by
  have hp:(2:Nat)^(f+1+1)=2*2^(f+1):=by rw[Nat.pow_succ];omega
  rw[Tr.single_succ,td];by_cases h0:k=0
  ·rw[ac h0,ac h0];rfl
  ·rw[ab h0,ab h0];by_cases h2:k%2=0
   ·rw[ac h2,ac h2,Tr.setP_er,ss v f _ (by omega)]
   ·rw[ab h2,ab h2,Tr.setP_el,ss v f _ (by omega)]
theorem pW{α:Type}(v:α)(t:Tr α):∀k:Nat,t.set k v=t.setP (bq k) v:=by
 induction t with
 |e=>
  intro k;show(Tr.e:Tr α).put (some v) k=_;rw[Tr.put_e];refine ss v _ k ?_;have:=Nat.lt_log2_self (n:=k);have hp:(2:Nat)^(k.log2+1+1)=2*2^(k.log2+1):=by rw[Nat.pow_succ];omega
  omega
 |n l x r ihl ihr=>
  intro k;show(Tr.n l x r).put (some v) k=_;rw[Tr.put_n];by_cases h0:k=0
  ·subst h0;rfl
  ·rw[ab h0];by_cases h2:k%2=0
   ·rw[ac h2];have e:bq k= .r (bq (k/2-1)):=by rw[←vO];congr 1;omega
    rw[e,Tr.setP_r,←ihr];rfl
   ·rw[ab h2];have e:bq k= .l (bq (k/2)):=by rw[←y9];congr 1;omega
    rw[e,Tr.setP_l,←ihl];rfl
theorem zM{α:Type}(t:Tr α)(k:Nat)(v w:α):(t.set k v).set k w=t.set k w:=by
 rw[pW,pW,pW,Tr.setP_same]
theorem set_comm{α:Type}(t:Tr α){k j:Nat}(h:k≠j)(v w:α):(t.set k v).set j w=(t.set j w).set k v:=by
 rw[pW,pW,pW,pW,Tr.setP_comm (bq k) v (bq j) w t (fun e=>h (y8 e).symm)]
def iZ(l:List V):T:=aX l 0 .e
theorem pd(v:V):∀(l:List V) (k i:Nat) (t:T),i<k→aX l k (t.set i v)=(aX l k t).set i v
 |[],k,i,t,h=>rfl
 |x::l,k,i,t,h=>by
  rw[cO,cO,set_comm _ (show i≠k by omega),pd v l (k+1) i _ (by omega)]
theorem vC(v:V):∀(l:List V) (k i:Nat) (t:T),i<l.length→(aX l k t).set (k+i) v=aX (l.set i v) k t
 |[],k,i,t,h=>by cases h
 |x::l,k,0,t,h=>by
  rw[List.set_cons_zero,cO,cO,cE k,←pd v l (k+1) k _ (by omega),zM]
 |x::l,k,i+1,t,h=>by
  rw[List.set_cons_succ,cO,cO,show k+(i+1)=(k+1)+i by omega,vC v l (k+1) i _ (by simpa using h)]
theorem VX(v:V)(l:List V)(i:Nat)(h:i<l.length):(iZ l).set i v=iZ (l.set i v):=by
 have:=vC v l 0 i .e h
 rwa [Nat.zero_add]at this
def over:List V→Nat→List V→List V
 |l,_,[]=>l
 |l,i,v::r=>over (l.set i v) (i+1) r
theorem nM:∀(vs l:List V) (i:Nat),(over l i vs).length=l.length
 |[],l,i=>rfl
 |v::r,l,i=>by rw[over,nM r];simp
theorem t8:∀(vs l:List V) (i:Nat),i+vs.length≤l.length→aX vs i (iZ l)=iZ (over l i vs)
 |[],l,i,h=>rfl
 |v::r,l,i,h=>by
  simp only[bk]at h;rw[cO,VX _ _ _ (by omega),over,t8 r _ _ (by simp;omega)]
def aK(ty:Nat)(l:List V):bz:= .cells ty l.length true 0 false [] (iZ l)
theorem uR(l:List V)(i:Nat):cell l.length [] (iZ l) i=l[i]?:=by
 rw[bY]
 by_cases h:i<l.length
 ·rw[ac h];unfold iZ;rw[dk,ac (by omega)];simp only[Nat.sub_zero];rw[List.getElem?_eq_getElem h]
 ·rw[ab h,List.getElem?_eq_none (by omega)]
theorem sQ(l:List V):∀(n i:Nat),i+n≤l.length→fg l.length [] (iZ l) n i=some ((l.drop i).take n)
 |0,i,h=>by rw[qw];simp
 |n+1,i,h=>by
  rw[jn,uR,List.getElem?_eq_getElem (by omega)];show(match fg l.length [] (iZ l) n (i+1)with|none=>none|some r=>some (l[i]::r))=_;rw[sQ l n (i+1) (by omega)];simp only;rw[←List.getElem_cons_drop (by omega:i<l.length),List.take_succ_cons]
section
variable{Φ:Nat→Option CF}{rd:Option Nat}{fn:Nat}{F:RO}
theorem ph(M:Mem)(b:Nat)(x:bz):look F (M.set b x) b=some x:=am (by rw[Tr.get_set,ac rfl])
theorem nG(M:Mem){b b':Nat}(x:bz)(h:b'≠b):look F (M.set b x) b'=look F M b':=eM (by rw[Tr.get_set,ab h])
theorem pN(M:Mem)(b o ty:Nat)(l:List V):load1 F (M.set b (aK ty l)) b o=l[o]?:=by
 unfold load1
 rw[ph]
 exact uR l o
theorem AW(M:Mem){b b':Nat}(o:Nat)(x:bz)(h:b'≠b):load1 F (M.set b x) b' o=load1 F M b' o:=by
 unfold load1
 rw[nG M x h]
theorem vE(M:Mem)(b o n ty:Nat)(l:List V)(h:o+n≤l.length):loadN F (M.set b (aK ty l)) b o n=some ((l.drop o).take n):=by
 unfold loadN
 rw[ph]
 exact sQ l n o h
theorem Vp(M:Mem){b b':Nat}(o n:Nat)(x:bz)(h:b'≠b):loadN F (M.set b x) b' o n=loadN F M b' o n:=by
 unfold loadN
 rw[nG M x h]
theorem nW(M:Mem)(b o ty:Nat)(l vs:List V)(h:o+vs.length≤l.length)(h1:br vs=true):dA (M.set b (aK ty l)) b o vs=some (M.set b (aK ty (over l o vs))):=by
 have hg:(M.set b (aK ty l)).get b=some (aK ty l):=by rw[Tr.get_set,ac rfl]
 show Option.rec (motive:=fun _=>Option Mem) none (fun blk=>oy (M.set b (aK ty l)) b o vs blk) ((M.set b (aK ty l)).get b)=_
 rw[hg]
 show(Bool.rec (motive:=fun _=>Option Mem) none (Bool.rec (motive:=fun _=>Option Mem) none (Bool.rec (motive:=fun _=>Option Mem) none (fE (M.set b (aK ty l)) b o vs ty l.length true 0 false [] (iZ l)) (br vs)) (Nat.ble 0 o)) (Nat.ble (Nat.add o vs.length) l.length))=_
 rw[bb,bb,bb,bG,bG,af (show Nat.add o vs.length≤l.length from h),af (aM o),h1]
 simp only[if_true]
 unfold fE
 rw[Tr.force_eq,Tr.force_eq,t8 _ _ _ h,zM]
 unfold aK
 rw[nM]
theorem KX(M:Mem){b b':Nat}(o:Nat)(x:bz)(vs:List V)(h:b'≠b){M':Mem}(hs:dA M b' o vs=some M'):dA (M.set b x) b' o vs=some (M'.set b x):=by
 obtain⟨ty,n,ex,fz,str,d,cs,hM,h1,h2,h3,rfl⟩:=nX hs
 have hg:(M.set b x).get b'=some (.cells ty n ex fz str d cs):=by rw[Tr.get_set,ab h];exact hM
 show Option.rec (motive:=fun _=>Option Mem) none (fun blk=>oy (M.set b x) b' o vs blk) ((M.set b x).get b')=_
 rw[hg]
 show(Bool.rec (motive:=fun _=>Option Mem) none (Bool.rec (motive:=fun _=>Option Mem) none (Bool.rec (motive:=fun _=>Option Mem) none (fE (M.set b x) b' o vs ty n ex fz str d cs) (br vs)) (Nat.ble fz o)) (Nat.ble (Nat.add o vs.length) n))=_
 rw[bb,bb,bb,bG,bG,af (show Nat.add o vs.length≤n from h1),af h2,h3]
 simp only[if_true]
 unfold fE
 rw[Tr.force_eq,Tr.force_eq,set_comm _ (Ne.symm h)]
def bN2(F:RO)(M:Mem)(x:V):Option V:=(cY (.ld1 (.c x)) F M .e).val
def bN7(n:Nat)(F:RO)(M:Mem)(x:V):Option V:=(cY (.ldn n (.c x)) F M .e).val
theorem bZ1(x:X)(M:Mem)(t:T):(cY (.ld1 x) F M t).val=bN2 F M (x.ev t):=rfl
theorem bZ2(n:Nat)(x:X)(M:Mem)(t:T):(cY (.ldn n x) F M t).val=bN7 n F M (x.ev t):=rfl
theorem bN3(M:Mem)(b o:Nat):bN2 F M (.p b o)=load1 F M b o:=by
 show(qrb b (load1 F M b o)).val=_
 cases load1 F M b o<;>rfl
theorem bN8(n:Nat)(M:Mem)(b o:Nat):bN7 n F M (.p b o)=(loadN F M b o n).map .g:=by
 show(qgb b (loadN F M b o n)).val=_
 cases loadN F M b o n<;>rfl
theorem bY7(off:Nat)(x:X)(M:Mem)(t:T):(cY (.fa off x) F M t).val=match x.ev t with| .p b o=>some (.p b (o+off))|_=>none:=by
 show(sc (x.ev t) .f fun b o=>uc b (Nat.add o off)).val=_
 cases x.ev t with
 |p b o=>
  show(uc b (Nat.add o off)).val=_;unfold uc;rw[aQ];rfl
 |_=>rfl
theorem Yh(ty:Nat)(cs:List V)(b:Nat)(t:T)(h:br cs=true):kP (.al ty cs) b t=some (.p b 0,aK ty cs):=by
 show(bif br cs then some (V.p b 0,bz.cells ty cs.length true 0 false [] (aX cs 0 .e))else none)=_
 rw[h];rfl
theorem Yk(ty sz:Nat)(x:X)(b:Nat)(t:T):kP (.bx ty sz x) b t=if(flatten (x.ev t)).length=sz∧br (flatten (x.ev t))=true then some (.p b 0,aK ty (flatten (x.ev t)))else none:=by
 show(bif Nat.beq (flatten (x.ev t)).length sz&&br (flatten (x.ev t))then some (V.p b 0,bz.cells ty sz true 0 false [] (aX (flatten (x.ev t)) 0 .e))else none)=_
 rw[bp]
 by_cases h:(flatten (x.ev t)).length=sz
 ·rw[af h];cases ha:br (flatten (x.ev t))with
  |true=>rw[ac ⟨h,rfl⟩,←h];rfl
  |false=>rw[ab (fun hh=>by cases hh.2)];rfl
 ·rw[ag h,ab (fun hh=>h hh.1)];rfl
theorem Z5(n:Nat)(x v:X)(M:Mem)(c:Nat)(t:T):iG (.st n x v) (K Φ rd fn F) M c t=match x.ev t with
 | .p b o=>if(flatten (v.ev t)).length=n then er c (dA M b o (flatten (v.ev t)))else .f
 |_=> .f:=by
 show(sc (x.ev t) .f fun b o=>xu n b o (flatten (v.ev t)) M c)=_
 cases x.ev t with
 |p b o=>
  show xu n b o (flatten (v.ev t)) M c=_;unfold xu;rw[bb,bp];simp only[decide_eq_true_eq]
 |_=>rfl
theorem Zb(c:Nat)(M:Mem):er c (some M)= .k undef M c:=rfl
end
section
variable{Φ:Nat→Option CF}{rd:Option Nat}{fn:Nat}{F:RO}
def ofO(o:Option V)(M:Mem)(c:Nat):RC:=match o with
 |some v=> .k v M c
 |none=> .f
theorem VK(h:List V→Option V)(F:RO)(args:List V)(M:Mem)(c:Nat):aj h F args M c=ofO (h args) M c:=rfl
theorem Vy(v:V)(M:Mem)(c:Nat):ofO (some v) M c= .k v M c:=rfl
theorem JL(x:Bool):flatten (.b x)=[.b x]:=rfl
theorem JO(k:IntKind)(x:Int):flatten (.i k x)=[.i k x]:=rfl
theorem JS(n x:Nat):flatten (.s n x)=[.s n x]:=rfl
theorem JR(b o:Nat):flatten (.p b o)=[.p b o]:=rfl
theorem Dc:flatten .p0=[.p0]:=rfl
theorem JP(b o n c:Nat):flatten (.l b o n c)=[.l b o n c]:=rfl
theorem JT(b o n e k:Nat):flatten (.u b o n e k)=[.u b o n e k]:=rfl
theorem Da:flatten .l0=[.l0]:=rfl
theorem JQ(b:Nat):flatten (.m b)=[.m b]:=rfl
theorem Db:flatten .m0=[.m0]:=rfl
theorem JM(f:Nat)(a b:List V):flatten (.f f a b)=[.f f a b]:=rfl
theorem D9:flatten .f0=[.f0]:=rfl
theorem JN(l:List V):flatten (.g l)=l:=rfl
theorem Cs:br []=true:=rfl
theorem iP(v:V)(l:List V):br (v::l)=(dq v&&br l):=by
 show Bool.rec (motive:=fun _=>Bool) false (br l) (dq v)=_
 cases dq v<;>rfl
theorem Zp(x:Bool):dq (.b x)=true:=rfl
theorem Zr(k:IntKind)(x:Int):dq (.i k x)=true:=rfl
theorem Zv(n x:Nat):dq (.s n x)=true:=rfl
theorem Zu(b o:Nat):dq (.p b o)=true:=rfl
theorem Vb:dq .p0=true:=rfl
theorem Zs(b o n c:Nat):dq (.l b o n c)=true:=rfl
theorem Zw(b o n e k:Nat):dq (.u b o n e k)=true:=rfl
theorem Va:dq .l0=true:=rfl
theorem Zt(b:Nat):dq (.m b)=true:=rfl
theorem Zq(f:Nat)(a b:List V):dq (.f f a b)=true:=rfl
theorem V9:dq .f0=true:=rfl
def sW(cs:List V):List (Nat×Nat×List V)→Option (List V)
 |[]=>some cs
 |(o,n,vs)::r=>if vs.length=n then(match il cs o vs with|some cs=>sW cs r|none=>none)else none
theorem pV:∀(o:Nat) (l vs:List V),o+vs.length≤l.length→il l o vs=some (over l o vs)
 |0,l,[],h=>by cases l<;>rfl
 |0,[],v::r,h=>by simp at h
 |0,x::l,v::r,h=>by
  have key:∀(r l:List V) (v:V),over (v::l) 1 r=v::over l 0 r:=by
   have gen:∀(r l:List V) (v:V) (i:Nat),over (v::l) (i+1) r=v::over l i r:=by
    intro r
    induction r with
    |nil=>intro l v i;rfl
    |cons a r ih=>intro l v i;rw[over,over,List.set_cons_succ,ih]
   exact fun r l v=>gen r l v 0
  rw[il,pV 0 l r (by simp at h;omega),over,List.set_cons_zero,key]
 |o+1,[],vs,h=>by simp at h
 |o+1,x::l,vs,h=>by
  have gen:∀(r l:List V) (v:V) (i:Nat),over (v::l) (i+1) r=v::over l i r:=by
   intro r
   induction r with
   |nil=>intro l v i;rfl
   |cons a r ih=>intro l v i;rw[over,over,List.set_cons_succ,ih]
  rw[il,pV o l vs (by simp at h;omega),gen]
def evP(t:T):List (Nat×Nat×X)→List (Nat×Nat×List V)
 |[]=>[]
 |(o,n,x)::r=>(o,n,flatten (x.ev t))::evP t r
theorem Ze(t:T):evP t []=[]:=rfl
theorem Az(t:T)(o n:Nat)(x:X)(r:List (Nat×Nat×X)):evP t ((o,n,x)::r)=(o,n,flatten (x.ev t))::evP t r:=rfl
theorem JJ(cs:List V):sW cs []=some cs:=rfl
theorem vf(cs:List V)(o n:Nat)(vs:List V)(r:List (Nat×Nat×List V)):sW cs ((o,n,vs)::r)=if vs.length=n then(match il cs o vs with|some cs=>sW cs r|none=>none)else none:=rfl
theorem vL(l:List V)(i:Nat):over l i []=l:=rfl
theorem jG(l:List V)(i:Nat)(v:V)(r:List V):over l i (v::r)=over (l.set i v) (i+1) r:=rfl
theorem qG(t:T):∀(ps:List (Nat×Nat×X)) (cs:List V),fillParts t cs ps=sW cs (evP t ps)
 |[],cs=>rfl
 |(o,n,x)::ps,cs=>by
  rw[Az,vf,fillParts,bp];by_cases hc:(flatten (x.ev t)).length=n
  ·rw[af hc,cond_true,ac hc];cases il cs o (flatten (x.ev t))with
   |none=>rfl
   |some cs'=>exact qG t ps cs'
  ·rw[ag hc,cond_false,ab hc]
theorem b10(zero:List V)(ps:List (Nat×Nat×X))(M:Mem)(t:T):(cY (.bld zero ps) F M t).val=(sW zero (evP t ps)).map .g:=by
 show(qg (fillParts t zero ps)).val=_
 rw[qG]
 cases sW zero (evP t ps)<;>rfl
theorem bY8(off:Nat)(x:X)(M:Mem)(t:T):(cY (.fl1 off x) F M t).val=match x.ev t with| .g cs=>cs[off]?|_=>none:=by
 show(Kg (x.ev t) .f fun cs=>qr (zr cs off)).val=_
 cases x.ev t with
 |g cs=>
  show(qr (zr cs off)).val=cs[off]?;rw[kV];cases cs[off]?<;>rfl
 |_=>rfl
theorem bY9(off n:Nat)(x:X)(M:Mem)(t:T):(cY (.fln off n x) F M t).val=match x.ev t with| .g cs=>(mO n (kF off cs)).map .g|_=>none:=by
 show(Kg (x.ev t) .f fun cs=>qg (mO n (kF off cs))).val=_
 cases x.ev t with
 |g cs=>
  show(qg (mO n (kF off cs))).val=(mO n (kF off cs)).map .g;cases mO n (kF off cs)<;>rfl
 |_=>rfl
theorem bY6(i:Nat)(x:X)(M:Mem)(t:T):(cY (.ex i x) F M t).val=match x.ev t with| .t cs=>cs[i]?|_=>none:=by
 show(vR i x F M t).val=_
 unfold vR
 cases x.ev t with
 |t cs=>
  show(qr (zr cs i)).val=cs[i]?;rw[kV];cases cs[i]?<;>rfl
 |_=>rfl
theorem bY4(k:IntKind)(x:X)(M:Mem)(t:T):(cY (.ci k x) F M t).val=match x.ev t with| .i _ n=>some (.i k (k.wrap n))|_=>none:=by
 show(vH (x.ev t) .f fun _ n=>vI k (wr k n)).val=_
 cases x.ev t with
 |i k' n=>
  show(vI k (wr k n)).val=_;rw[eI,jh];rfl
 |_=>rfl
def b65:Option Bool→Option Bool→Option Bool
 |some b,r=>if b=true then r else some false
 |none,_=>none
theorem Jp(b c:Bool):b65 (some b) (some c)=some (b&&c):=by cases b<;>rfl
def bI5(F:RO)(M:Mem)(sh:Sh)(x y:Option V):Option Bool:=match x,y with
 |some x,some y=>Hq F M sh false x y
 |_,_=>none
theorem JG(M:Mem)(sh:Sh)(x y:V):bI5 F M sh (some x) (some y)=Hq F M sh false x y:=rfl
theorem JF(M:Mem)(xs ys:List V):mJ F M xs ys []=some true:=rfl
theorem pE(M:Mem)(xs ys:List V)(o:Nat)(sh:Sh)(r:List (Nat×Sh)):mJ F M xs ys ((o,sh)::r)=b65 (bI5 F M sh (xs[o]?) (ys[o]?)) (mJ F M xs ys r):=by
 rw[mJ,kV,kV]
 cases xs[o]? with
 |none=>rfl
 |some x=>
  cases ys[o]? with
  |none=>rfl
  |some y=>
   show(match Hq F M sh false x y with|some true=>mJ F M xs ys r|r=>r)=b65 (Hq F M sh false x y) _;cases Hq F M sh false x y with
   |none=>rfl
   |some b=>cases b<;>rfl
def a06(neg:Bool):Option Bool→Option V
 |some r=>some (.b (bif neg then !r else r))
 |none=>none
theorem bg7(r:Bool):a06 false (some r)=some (.b r):=rfl
theorem bg8(r:Bool):a06 true (some r)=some (.b (!r)):=rfl
theorem bY5(neg:Bool)(sh:Sh)(lit:Bool)(x y:X)(M:Mem)(t:T):(cY (.eq neg sh lit x y) F M t).val=a06 neg (ua F M sh lit (x.ev t) (y.ev t)):=by
 show(ya neg (ua F M sh lit (x.ev t) (y.ev t))).val=_
 cases ua F M sh lit (x.ev t) (y.ev t)with
 |none=>rfl
 |some r=>
  show(vB (bif neg then !r else r)).val=_;rw[mP];rfl
theorem Z8(ks:List (Nat×Sh))(lit:Bool)(M:Mem)(xs ys:List V):ua F M (.agg ks) lit (.g xs) (.g ys)=mJ F M xs ys ks:=rfl
theorem Z9(lit:Bool)(M:Mem)(k:IntKind)(a b:Int):ua F M .int lit (.i k a) (.i k b)=some (decide (a=b)):=by
 show Lu (.i k a) (.i k b)=_
 simp[Lu,fc,cV]
theorem Z7(lit:Bool)(M:Mem)(k:IntKind)(a b:Int):Hq F M .int lit (.i k a) (.i k b)=some (decide (a=b)):=by
 show Lu (.i k a) (.i k b)=_
 simp[Lu,fc,cV]
theorem Av(lit:Bool)(M:Mem)(a b:Bool):Hq F M .bool lit (.b a) (.b b)=some (decide (a=b)):=by
 show eqB (.b a) (.b b)=_
 cases a<;>cases b<;>rfl
theorem cc6(x:X)(as0:List X)(M:Mem)(c:Nat)(t:T):iG (.cv x as0) (K Φ rd fn F) M c t=lh (K Φ rd fn F) (x.ev t) (evs as0 t) M c:=rfl
theorem YL(f:Nat)(first caps args:List V)(M:Mem)(c:Nat):lh (K Φ rd fn F) (.f f first caps) args M c=fu (mW Φ) F f (first++(args++caps)) M c (Φ f):=rfl
theorem bZ3(f:Nat)(first caps:List X)(M:Mem)(t:T):(cY (.mkf f first caps) F M t).val=some (.f f (evs first t) (evs caps t)):=rfl
theorem ac3(M:Mem)(t:T)(p:aE)(sz:Nat)(r:List RV):eN F M t (.cn p sz::r)=match cz t p with
 | .p b o=>match loadN F M b o sz with|some l=>xp (.g l) (eN F M t r)|none=>none
 |_=>none:=by
 show Option.rec (motive:=fun _=>Option (List V)) none (fun v=>tY v (eN F M t r)) (ye F M t (.cn p sz))=_
 show Option.rec (motive:=fun _=>Option (List V)) none (fun v=>tY v (eN F M t r)) (sc (cz t p) none fun b o=>Option.rec (motive:=fun _=>Option V) none (fun l=>some (.g l)) (loadN F M b o sz))=_
 cases cz t p with
 |p b o=>
  show Option.rec (motive:=fun _=>Option (List V)) none (fun v=>tY v (eN F M t r)) (Option.rec (motive:=fun _=>Option V) none (fun l=>some (.g l)) (loadN F M b o sz))=_;simp only;cases loadN F M b o sz with
  |none=>rfl
  |some l=>
   show tY (.g l) (eN F M t r)=xp (.g l) (eN F M t r);cases eN F M t r<;>rfl
 |_=>rfl
theorem ac2(M:Mem)(t:T)(p:aE)(r:List RV):eN F M t (.c1 p::r)=match cz t p with
 | .p b o=>match load1 F M b o with|some v=>xp v (eN F M t r)|none=>none
 |_=>none:=by
 show Option.rec (motive:=fun _=>Option (List V)) none (fun v=>tY v (eN F M t r)) (sc (cz t p) none fun b o=>load1 F M b o)=_
 cases cz t p with
 |p b o=>
  show Option.rec (motive:=fun _=>Option (List V)) none (fun v=>tY v (eN F M t r)) (load1 F M b o)=_;simp only;cases load1 F M b o with
  |none=>rfl
  |some v=>
   show tY v (eN F M t r)=xp v (eN F M t r);cases eN F M t r<;>rfl
 |_=>rfl
def Vd(len sz:Nat)(x i:V):Option V:=(cY (.ixA1 len sz (.c x) (.c i)) [] .e .e).val
theorem bl1(len sz:Nat)(x i:X)(M:Mem)(t:T):(cY (.ixA1 len sz x i) F M t).val=Vd len sz (x.ev t) (i.ev t):=rfl
theorem Ve(len:Nat)(cs:List V)(k:IntKind)(n:Int):Vd len 1 (.g cs) (.i k n)=if 0≤n∧n<len then cs[n.toNat]? else none:=by
 show(Kg (V.g cs) QR.f fun cs=>AR len 1 cs (rA (.i k n))).val=_
 show(AR len 1 cs (rA (.i k n))).val=_
 cases n with
 |ofNat m=>
  show(bif Nat.blt m len then qr (zr cs (Nat.mul m 1))else QR.f).val=_;rw[eT];by_cases h:m<len
  ·rw[af h,cond_true,ac ⟨Int.natCast_nonneg m,Int.ofNat_lt.2 h⟩];show(qr (zr cs (Nat.mul m 1))).val=_;rw[kV,show Nat.mul m 1=m from Nat.mul_one m];show _=cs[m]?;cases cs[m]?<;>rfl
  ·rw[ag h,cond_false,ab (fun hh=>h (Int.ofNat_lt.1 hh.2))];rfl
 |negSucc m=>
  rw[ab (fun hh=>by have:=hh.1;exact absurd this (by simp))];rfl
theorem getD_some{l:List V}{i:Nat}(h:i<l.length)(d:V):l[i]?=some ((l[i]?).getD d):=by
 rw[List.getElem?_eq_getElem h];rfl
def bO2(b:Nat)(x:bz):Option Mem→Option Mem
 |some M=>some (M.set b x)
 |none=>none
theorem Ka(b:Nat)(x:bz)(M:Mem):bO2 b x (some M)=some (M.set b x):=rfl
theorem Eb(M:Mem){b b':Nat}(o:Nat)(x:bz)(vs:List V)(h:b'≠b):dA (M.set b x) b' o vs=bO2 b x (dA M b' o vs):=by
 cases hs:dA M b' o vs with
 |some M'=>rw[KX M o x vs h hs];rfl
 |none=>
  cases hs2:dA (M.set b x) b' o vs with
  |none=>rfl
  |some M2=>
   exfalso;obtain⟨ty,n,ex,fz,str,d,cs,hM,h1,h2,h3,_⟩:=nX hs2;rw[Tr.get_set,ab h]at hM;have:dA M b' o vs=some (M.set b' (.cells ty n ex fz str d (aX vs o cs))):=by
    show Option.rec (motive:=fun _=>Option Mem) none (fun blk=>oy M b' o vs blk) (M.get b')=_;rw[hM];show(Bool.rec (motive:=fun _=>Option Mem) none (Bool.rec (motive:=fun _=>Option Mem) none (Bool.rec (motive:=fun _=>Option Mem) none (fE M b' o vs ty n ex fz str d cs) (br vs)) (Nat.ble fz o)) (Nat.ble (Nat.add o vs.length) n))=_;rw[bb,bb,bb,bG,bG,af (show Nat.add o vs.length≤n from h1),af h2,h3];simp only[if_true];unfold fE;rw[Tr.force_eq,Tr.force_eq]
   rw[hs]at this;cases this
theorem a04(c n:Nat):(c≠c+(n+1))=True:=eq_true (by omega)
theorem a05(c n:Nat):(c+(n+1)≠c)=True:=eq_true (by omega)
theorem bg6(c i j:Nat)(h:(i==j)=false):(c+i≠c+j)=True:=eq_true (fun e=>by
 have:i=j:=by omega
 rw[beq_eq_false_iff_ne]at h
 exact h this)
def To(Φ:Nat→Option CF)(f:Nat)(args:List V)(ct:Nat)(v:V):Prop:=∃M1 ct1,fu (mW Φ) [] f args .e ct (Φ f)= .k v M1 ct1
theorem bL{f n:Nat}{res:List RV}{body:CC}{args:List V}{c:Nat}{v:V}(hf:Φ f=some (.mk n res body))
 (h:Wp body (K Φ none f []) (.mk (aS n args) [] .e c) (j5 [] res fun v' _ _=>v'=v)):To Φ f args c v:=by
 obtain⟨v',M',c',h1,rfl⟩:=xf hf h
 exact⟨M',c',h1⟩
end
theorem dh(n:Int):IntKind.u8.wrap n=n%256:=oa .u8 n 256 rfl rfl
theorem Xl(n:Int):IntKind.u16.wrap n=n%65536:=oa .u16 n 65536 rfl rfl
theorem i9(n:Int):IntKind.u32.wrap n=n%4294967296:=oa .u32 n 4294967296 rfl rfl
theorem fF(n:Int):IntKind.u64.wrap n=n%18446744073709551616:=oa .u64 n 18446744073709551616 rfl rfl
theorem gg{n:Int}(h1: -9223372036854775808≤n)(h2:n<9223372036854775808):IntKind.i64.wrap n=n:=by
 rw[o8 .i64 n 18446744073709551616 9223372036854775808 rfl rfl rfl]
 split<;>omega
theorem Xk(n:Int):IntKind.i16.wrap n=if n%65536≥32768 then n%65536-65536 else n%65536:=o8 .i16 n 65536 32768 rfl rfl rfl
theorem um(n:Int):toU .u32 n=(n%4294967296).toNat:=rfl
theorem IE(n:Int):toU .i64 n=(n%18446744073709551616).toNat:=rfl
theorem uM(k:IntKind)(a b:Int):bu .mul (.i k a) (.i k b)=some (.i k (k.wrap (a*b))):=by
 show _=some (V.i k (k.wrap (Int.mul a b)))
 cases k<;>simp[bu,fW,eG,pB,aY8,io,rY,eI,jh,QR.val]
theorem aX1(k:IntKind)(a b:Int):bu .or (.i k a) (.i k b)=some (.i k (k.wrap ((toU k a|||toU k b:Nat):Int))):=by
 show _=some (V.i k (k.wrap ((Nat.lor (toU k a) (toU k b):Nat):Int)))
 cases k<;>simp[bu,fW,eG,pB,bM8,io,rY,jM,QR.val]
theorem CK(k:IntKind)(a b:Int):bu .and (.i k a) (.i k b)=some (.i k (k.wrap ((toU k a&&&toU k b:Nat):Int))):=by
 show _=some (V.i k (k.wrap ((Nat.land (toU k a) (toU k b):Nat):Int)))
 cases k<;>simp[bu,fW,eG,pB,aY2,io,rY,jM,QR.val]
theorem pA(k k':IntKind)(a:Int)(n:Nat):bu .shl (.i k a) (.i k' (n:Int))=some (.i k (k.wrap (a*((2^dV k n:Nat):Int)))):=by
 show(ad4 k a (Int.ofNat n)).val=_
 show(vI k (wr k (Int.mul a (.ofNat (Nat.pow 2 (dV k n)))))).val=_
 rw[eI,jh];rfl
theorem yO(k k':IntKind)(a:Int)(n:Nat):bu .shr (.i k a) (.i k' (n:Int))=some (.i k (Int.fdiv a ((2^dV k n:Nat):Int))):=by
 show(ad5 k a (Int.ofNat n)).val=_
 show(vI k (Int.fdiv a (.ofNat (Nat.pow 2 (dV k n))))).val=_
 rw[eI];rfl
theorem qa(a b:Nat)(ha:a<4294967296)(hb:b<4294967296):bu .or (.i .u32 (a:Int)) (.i .u32 (b:Int))=some (.i .u32 ((a|||b:Nat):Int)):=by
 rw[aX1,um,um,i9]
 have e1:((a:Int)%4294967296).toNat=a:=by omega
 have e2:((b:Int)%4294967296).toNat=b:=by omega
 rw[e1,e2]
 have:a|||b<2^32:=Nat.or_lt_two_pow ha hb
 congr 2
 omega
theorem L4(a:Nat)(ha:a<1048576):bu .shl (.i .u32 (a:Int)) (.i .u64 12)=some (.i .u32 ((4096*a:Nat):Int)):=by
 have:=pA .u32 .u64 (a:Int) 12
 rw[show((12:Nat):Int)=12 from rfl]at this
 rw[this,i9]
 congr 2
 show(a:Int)*4096%4294967296=_
 omega
theorem wo(a:Nat)(ha:a<16777216):bu .shl (.i .u32 (a:Int)) (.i .u64 8)=some (.i .u32 ((256*a:Nat):Int)):=by
 have:=pA .u32 .u64 (a:Int) 8
 rw[show((8:Nat):Int)=8 from rfl]at this
 rw[this,i9]
 congr 2
 show(a:Int)*256%4294967296=_
 omega
theorem oE(a:Nat)(ha:a<65536):bu .shl (.i .u32 (a:Int)) (.i .u64 16)=some (.i .u32 ((65536*a:Nat):Int)):=by
 have:=pA .u32 .u64 (a:Int) 16
 rw[show((16:Nat):Int)=16 from rfl]at this
 rw[this,i9]
 congr 2
 show(a:Int)*65536%4294967296=_
 omega
theorem yp(a:Nat)(ha:a<256):bu .shl (.i .u32 (a:Int)) (.i .u64 24)=some (.i .u32 ((16777216*a:Nat):Int)):=by
 have:=pA .u32 .u64 (a:Int) 24
 rw[show((24:Nat):Int)=24 from rfl]at this
 rw[this,i9]
 congr 2
 show(a:Int)*16777216%4294967296=_
 omega
theorem uo(a n:Nat)(hn:n≤32):bu .shr (.i .u32 (a:Int)) (.i .u64 (n:Int))=some (.i .u32 ((a/2^n:Nat):Int)):=by
 rw[yO]
 have:dV .u32 n=n:=by
  unfold dV;rw[bG,af (show n≤jY .u32 from hn)];rfl
 rw[this]
 congr 2
 rw[Int.fdiv_eq_ediv_of_nonneg _ (Int.natCast_nonneg _)]
 exact(Int.natCast_ediv a (2^n)).symm
theorem IH(a b:Nat)(ha:a<4294967296)(hb:b<4294967296):bu .and (.i .u32 (a:Int)) (.i .u32 (b:Int))=some (.i .u32 ((a&&&b:Nat):Int)):=by
 rw[CK,um,um,i9]
 have e1:((a:Int)%4294967296).toNat=a:=by omega
 have e2:((b:Int)%4294967296).toNat=b:=by omega
 rw[e1,e2]
 have:a&&&b<2^32:=Nat.and_lt_two_pow _ hb
 congr 2
 omega
theorem cJ(n:Nat)(h:n<4294967296):IntKind.u32.wrap (n:Int)=(n:Int):=by rw[i9];omega
theorem zf(i:Int):bu .and (.i .i64 i) (.i .i64 65535)=some (.i .i64 (i%65536)):=by
 rw[CK,IE,IE]
 have e:((65535:Int)%18446744073709551616).toNat=2^16-1:=by decide
 rw[e,Nat.and_two_pow_sub_one_eq_mod]
 have e2:(((i%18446744073709551616).toNat%2^16:Nat):Int)=i%65536:=by omega
 rw[e2,gg (by omega) (by omega)]
theorem dg(a b:Nat)(h:a+b<4294967296):bu .add (.i .u32 (a:Int)) (.i .u32 (b:Int))=some (.i .u32 ((a+b:Nat):Int)):=by
 rw[jN,i9]
 congr 2
 omega
theorem eP(a b:Nat)(h:a*b<4294967296):bu .mul (.i .u32 (a:Int)) (.i .u32 (b:Int))=some (.i .u32 ((a*b:Nat):Int)):=by
 rw[uM,i9]
 congr 2
 rw[←Int.natCast_mul]
 omega
theorem bA(a b:Int)(h1: -9223372036854775808≤a+b)(h2:a+b<9223372036854775808):bu .add (.i .i64 a) (.i .i64 b)=some (.i .i64 (a+b)):=by
 rw[jN,gg h1 h2]
theorem jq(a b:Int)(h1: -9223372036854775808≤a*b)(h2:a*b<9223372036854775808):bu .mul (.i .i64 a) (.i .i64 b)=some (.i .i64 (a*b)):=by
 rw[uM,gg h1 h2]
section
variable{Φ:Nat→Option CF}{rd:Option Nat}{fn:Nat}{F:RO}
def qj(base:Nat)(ops:List (Nat×Nat×CO))(k:Kn)(s:DS)(R:DS→Prop):Prop:=∃s',jo k base ops s=some s'∧R s'
def aX5(d:List Nat)(Q:Ex→St→Prop):DS→Prop
 | .mk t M c pend _=>Q .nrm (.mk t d (dT pend M) c)
theorem af3(n:Nat)(ops:List (Nat×Nat×CO))(k:Kn)(t:T)(d:List Nat)(M:Mem)(c:Nat)(Q:Ex→St→Prop):
 Wp (.dreg n ops) k (.mk t d M c) Q=qj c ops k (.mk t M (c+n) [] []) (aX5 d Q):=by
 have he:aY (.dreg n ops) k (.mk t d M c)=uV d (jo k c ops (.mk t M (c+n) [] [])):=by
  show(fN (Nat.add c n) fun c'=>uV d (jo k c ops (.mk t M c' [] [])))=_;rw[aQ];rfl
 apply propext;constructor
 ·rintro⟨e,s',h,q⟩;rw[he]at h;cases hs:jo k c ops (.mk t M (c+n) [] [])with
  |none=>rw[hs]at h;cases h
  |some s1=>
   rw[hs]at h;obtain⟨t1,M1,c1,p1,r1⟩:=s1;have h2:((dT p1 M1).force fun M=>Rs.k .nrm (.mk t1 d M c1))= .k e s':=h;rw[Tr.force_eq]at h2;injection h2 with a1 a2
   subst a1 a2;exact⟨_,hs,q⟩
 ·rintro⟨s1,hs,q⟩;obtain⟨t1,M1,c1,p1,r1⟩:=s1;refine⟨_,_,?_,q⟩;rw[he,hs];show((dT p1 M1).force fun M=>Rs.k .nrm (.mk t1 d M c1))=_;rw[Tr.force_eq]
theorem Uz(d:List Nat)(Q:Ex→St→Prop)(t:T)(M:Mem)(c:Nat)(pend:List (Nat×Nat×bz))(reads:List (Nat×Nat)):aX5 d Q (.mk t M c pend reads)=Q .nrm (.mk t d (dT pend M) c):=Eq.trans rfl (Eq.refl _)
theorem zo(M:Mem):dT [] M=M:=Eq.trans rfl (Eq.refl _)
theorem bp3(base:Nat)(k:Kn)(s:DS)(R:DS→Prop):qj base [] k s R=R s:=by
 apply propext;constructor
 ·rintro⟨s',h,q⟩;cases h;exact q
 ·exact fun q=>⟨_,rfl,q⟩
theorem iL(base:Nat)(o:Nat×Nat×CO)(r:List (Nat×Nat×CO))(k:Kn)(s:DS)(R:DS→Prop):qj base (o::r) k s R↔ ∃s',wJ k base o s=some s'∧qj base r k s' R:=by
 constructor
 ·rintro⟨s',h,q⟩;rw[jo]at h;cases hs:wJ k base o s with
  |none=>rw[hs]at h;cases h
  |some s1=>rw[hs]at h;exact⟨s1,rfl,s',h,q⟩
 ·rintro⟨s1,h1,s',h2,q⟩;exact⟨s',by rw[jo,h1];exact h2,q⟩
def oZ(o:QO)(F:RO)(M:Mem)(t:T):QR:=JC o F M t (cY o F M t)
def b60(q:QR)(base i:Nat)(p:aE)(r:List (Nat×Nat×CO))(k:Kn)(t:T)(M:Mem)(c:Nat)(pend:List (Nat×Nat×bz))(reads:List (Nat×Nat))(R:DS→Prop):Prop:=match q with
 | .f=>False
 | .v x=>qj base r k (.mk (t.setP p x) M c pend reads) R
 | .r x b=>qj base r k (.mk (t.setP p x) M c pend ((i,b)::reads)) R
theorem bi2(x:V)(base i:Nat)(p:aE)(r:List (Nat×Nat×CO))(k:Kn)(t:T)(M:Mem)(c:Nat)(pend:List (Nat×Nat×bz))(reads:List (Nat×Nat))(R:DS→Prop):
 b60 (.v x) base i p r k t M c pend reads R=qj base r k (.mk (t.setP p x) M c pend reads) R:=Eq.trans rfl (Eq.refl _)
theorem bi1(x:V)(b base i:Nat)(p:aE)(r:List (Nat×Nat×CO))(k:Kn)(t:T)(M:Mem)(c:Nat)(pend:List (Nat×Nat×bz))(reads:List (Nat×Nat))(R:DS→Prop):
 b60 (.r x b) base i p r k t M c pend reads R=qj base r k (.mk (t.setP p x) M c pend ((i,b)::reads)) R:=Eq.trans rfl (Eq.refl _)
theorem cD6(base i mask:Nat)(p:aE)(o:QO)(r:List (Nat×Nat×CO))(t:T)(M:Mem)(c:Nat)(pend:List (Nat×Nat×bz))(reads:List (Nat×Nat))(R:DS→Prop):
 qj base ((i,mask,.mk (some p) (.q o) none)::r) (K Φ rd fn F) (.mk t M c pend reads) R=b60 (oZ o F M t) base i p r (K Φ rd fn F) t M c pend reads R:=by
 have he:wJ (K Φ rd fn F) base (i,mask,.mk (some p) (.q o) none) (.mk t M c pend reads)=tL i (some p) t M c pend reads (oZ o F M t):=rfl
 apply propext
 rw[iL,he]
 cases oZ o F M t with
 |f=>exact⟨fun⟨s',h,_⟩=>(by cases h),False.elim⟩
 |v x=>
  have:tL i (some p) t M c pend reads (.v x)=some (.mk (t.setP p x) M c pend reads):=by
   show((setT t (some p) x).force fun t=>some (DS.mk t M c pend reads))=_;rw[Tr.force_eq];rfl
  rw[this];constructor
  ·rintro⟨s',h,q⟩;obtain rfl:=ae h;exact q
  ·exact fun q=>⟨_,rfl,q⟩
 |r x b=>
  have:tL i (some p) t M c pend reads (.r x b)=some (.mk (t.setP p x) M c pend ((i,b)::reads)):=by
   show((setT t (some p) x).force fun t=>some (DS.mk t M c pend ((i,b)::reads)))=_;rw[Tr.force_eq];rfl
  rw[this];constructor
  ·rintro⟨s',h,q⟩;obtain rfl:=ae h;exact q
  ·exact fun q=>⟨_,rfl,q⟩
def oV:Option V→QR
 |none=> .f
 |some x=> .v x
theorem a07(x:V):oV (some x)= .v x:=Eq.trans rfl (Eq.refl _)
theorem gR{o:QO}{M:Mem}{t:T}(h:∀F' M',cY o F' M' t=oV (cY o [] .e t).val):oZ o F M t=oV (cY o F M t).val:=by
 have h1:=h F M
 have h0:=h [] .e
 unfold oZ
 rw[h1]
 cases hv:(cY o [] .e t).val with
 |none=>rfl
 |some x=>
  show cY o [] .e t= .v x;rw[h0,hv];rfl
theorem bY3(k:IntKind)(n:Int):vI k n=oV (vI k n).val:=by rw[eI];rfl
theorem bH6(x:X)(M:Mem)(t:T):oZ (.mv x) F M t= .v (x.ev t):=Eq.trans rfl (Eq.refl _)
theorem bH2(k:IntKind)(x:X)(M:Mem)(t:T):oZ (.ci k x) F M t=oV (match x.ev t with| .i _ n=>some (.i k (k.wrap n))|_=>none):=by
 refine(gR ?_).trans (congrArg oV (bY4 (F:=F) k x M t))
 intro F' M'
 show(vH (x.ev t) QR.f fun _ n=>vI k (wr k n))=oV (vH (x.ev t) QR.f fun _ n=>vI k (wr k n)).val
 cases x.ev t with
 |i k' n=>exact bY3 _ _
 |_=>rfl
theorem mM{q:QR}(h:q= .f∨ ∃x,q= .v x):q=oV q.val:=by
 rcases h with rfl|⟨x,rfl⟩<;>rfl
theorem b84(op:BinOp)(k:IntKind)(a:Int)(k':IntKind)(b:Int):fW op k a k' b= .f∨ ∃x,fW op k a k' b= .v x:=by
 have hb:∀(c:Bool) (q:QR),(q= .f∨ ∃x,q= .v x)→(Bool.rec (motive:=fun _=>QR) .f q c= .f∨ ∃x,(Bool.rec (motive:=fun _=>QR) .f q c:QR)= .v x):=by
  intro c q h;cases c
  ·exact .inl rfl
  ·exact h
 have vi:∀k n,vI k n= .f∨ ∃x,vI k n= .v x:=fun k n=> .inr ⟨_,eI k n⟩
 have vb:∀b,vB b= .f∨ ∃x,vB b= .v x:=fun b=> .inr ⟨_,mP b⟩
 cases op with
 |add=>exact hb _ _ (vi _ _)
 |sub=>exact hb _ _ (vi _ _)
 |mul=>exact hb _ _ (vi _ _)
 |quo=>
  refine hb _ _ ?_;have e:oT k a b= .f∨ ∃x,oT k a b= .v x:=by
   unfold oT;cases JH b 0
   ·exact vi _ _
   ·exact .inl rfl
  exact e
 |rem=>
  refine hb _ _ ?_;have e:oU k a b= .f∨ ∃x,oU k a b= .v x:=by
   unfold oU;cases JH b 0
   ·exact vi _ _
   ·exact .inl rfl
  exact e
 |and=>exact hb _ _ (vi _ _)
 |or=>exact hb _ _ (vi _ _)
 |xor=>exact hb _ _ (vi _ _)
 |andNot=>exact hb _ _ (vi _ _)
 |eql=>exact hb _ _ (vb _)
 |neq=>exact hb _ _ (vb _)
 |lss=>exact hb _ _ (vb _)
 |leq=>exact hb _ _ (vb _)
 |gtr=>exact hb _ _ (vb _)
 |geq=>exact hb _ _ (vb _)
 |shl=>
  show ad4 k a b= .f∨ ∃x,ad4 k a b= .v x;cases b with
  |ofNat n=>exact vi _ _
  |negSucc n=>exact .inl rfl
 |shr=>
  show ad5 k a b= .f∨ ∃x,ad5 k a b= .v x;cases b with
  |ofNat n=>exact vi _ _
  |negSucc n=>exact .inl rfl
theorem bH1(op:BinOp)(x y:X)(M:Mem)(t:T){k k':IntKind}{a b:Int}(hx:x.ev t= .i k a)(hy:y.ev t= .i k' b):oZ (.bi op x y) F M t=oV (bu op (x.ev t) (y.ev t)):=by
 rw[←af0 (F:=F) op x y M t]
 refine gR ?_
 intro F' M'
 have e:∀F' M',cY (.bi op x y) F' M' t=fW op k a k' b:=by
  intro F' M';show Bf op x y F' M' t=_;unfold Bf;rw[hx];show(vH (y.ev t) QR.f fun k' b=>fW op k a k' b)=_;rw[hy];rfl
 rw[e,e]
 exact mM (b84 op k a k' b)
theorem bH4(i:Nat)(x:X)(M:Mem)(t:T):oZ (.ex i x) F M t=oV (match x.ev t with| .t cs=>cs[i]?|_=>none):=by
 refine(gR ?_).trans (congrArg oV (bY6 (F:=F) i x M t))
 intro F' M'
 show vR i x F' M' t=oV (vR i x [] .e t).val
 unfold vR
 cases x.ev t with
 |t cs=>
  show qr (zr cs i)=oV (qr (zr cs i)).val;cases zr cs i<;>rfl
 |_=>rfl
theorem bb1(x:X)(M:Mem)(t:T){b o:Nat}{v:V}(hx:x.ev t= .p b o)(h:load1 F M b o=some v):oZ (.ld1 x) F M t= .r v b:=by
 have hq:∀F' M',cY (.ld1 x) F' M' t=qrb b (load1 F' M' b o):=by
  intro F' M';show(sc (x.ev t) QR.f fun b o=>qrb b (load1 F' M' b o))=_;rw[hx];rfl
 unfold oZ
 rw[hq,h]
 show YW (.ld1 x) t b (look F M b)=_
 unfold load1 at h
 cases hl:look F M b with
 |none=>rw[hl]at h;cases h
 |some blk=>
  rw[hl]at h;show Im b (cY (.ld1 x) [(b,blk)] .e t)=_;rw[hq];have h2:load1 [(b,blk)] .e b o=some v:=by
   unfold load1;have:look [(b,blk)] (.e:Mem) b=some blk:=by
    rw[aO (show(Tr.e:Mem).get b=none from rfl)];show Bool.rec (motive:=fun _=>Option bz) _ (some blk) (Nat.beq b b)=_;rw[bb,bp];simp
   rw[this];exact h
  rw[h2];rfl
theorem DR(M:Mem):bN M []=true:=Eq.trans rfl (Eq.refl _)
theorem zx(mask i b:Nat)(r:List (Nat×Nat))(h:testBit mask i=true)(F:RO)(M:Mem)(s:List (Nat×bz)):cQ mask ((i,b)::r) F M s=cQ mask r F M s:=by
 rw[cQ,h];rfl
def CJ(mask:Nat):List (Nat×Nat)→Bool
 |[]=>true
 |(i,_)::r=>(mask/2^i%2==1)&&CJ mask r
theorem U6(mask:Nat):CJ mask []=true:=Eq.trans rfl (Eq.refl _)
theorem xd(mask i b:Nat)(r:List (Nat×Nat)):CJ mask ((i,b)::r)=((mask/2^i%2==1)&&CJ mask r):=Eq.trans rfl (Eq.refl _)
theorem lT{mask:Nat}:∀{reads:List (Nat×Nat)},CJ mask reads=true→ ∀F M s,cQ mask reads F M s=Pr.mk F M s
 |[],_,F,M,s=>rfl
 |(i,b)::r,h,F,M,s=>by
  rw[xd,aJ]at h;rw[zx mask i b r (by show Nat.beq (Nat.mod (Nat.div mask (Nat.pow 2 i)) 2) 1=true;rw[bp];exact af (show mask/2^i%2=1 by simpa using h.1))];exact lT h.2 F M s
def EW(o:RC)(F:RO)(p:Option aE)(base:Nat)(r:List (Nat×Nat×CO))(k:Kn)(t:T)(reads:List (Nat×Nat))(R:DS→Prop):Prop:=match o with
 | .f=>False
 | .k v M c=>bN M F=true∧qj base r k (.mk (setT t p v) M c [] reads) R
theorem b01(v:V)(M:Mem)(c:Nat)(F:RO)(p:Option aE)(base:Nat)(r:List (Nat×Nat×CO))(k:Kn)(t:T)(reads:List (Nat×Nat))(R:DS→Prop):
 EW (.k v M c) F p base r k t reads R=(bN M F=true∧qj base r k (.mk (setT t p v) M c [] reads) R):=Eq.trans rfl (Eq.refl _)
theorem j0(base i mask:Nat)(dst:Option aE)(o:EO)(r:List (Nat×Nat×CO))(t:T)(M:Mem)(c:Nat)(reads:List (Nat×Nat))(R:DS→Prop)(hb:CJ mask reads=true):
 qj base ((i,mask,.mk dst (.e o) none)::r) (K Φ rd fn F) (.mk t M c [] reads) R=EW (iG o (K Φ rd fn F) M c t) F dst base r (K Φ rd fn F) t reads R:=by
 have hp:=lT hb
 have he:wJ (K Φ rd fn F) base (i,mask,.mk dst (.e o) none) (.mk t M c [] reads)=qz F dst t [] reads [] (iG o (K Φ rd fn F) M c t):=by
  show wK o (K Φ rd fn F) dst t c [] reads (cQ mask reads F M [])=_;rw[hp];rfl
 apply propext
 rw[iL,he]
 cases hd:iG o (K Φ rd fn F) M c t with
 |f=>exact⟨fun⟨s',h,_⟩=>(by cases h),False.elim⟩
 |k v M' c'=>
  have h2:qz F dst t [] reads [] (.k v M' c')=if bN M' F=true then some (DS.mk (setT t dst v) M' c' [] reads)else none:=by
   show(bif bN M' F&&cW F M' []then(bO [] M').force fun M=>(setT t dst v).force fun t=>some (DS.mk t M c' [] reads)else none)=_;cases bN M' F with
   |false=>rfl
   |true=>
    show((bO [] M').force fun M=>(setT t dst v).force fun t=>some (DS.mk t M c' [] reads))=_;rw[Tr.force_eq,Tr.force_eq];rfl
  rw[h2,b01];constructor
  ·rintro⟨s',h,q⟩;split at h
   ·rename_i hr;obtain rfl:=ae h;exact⟨hr,q⟩
   ·cases h
  ·rintro⟨hr,q⟩;exact⟨_,ac hr,q⟩
theorem iY(M:Mem)(b:Nat)(x:bz)(F:RO):bN M ((b,x)::F)=((M.get b).isNone&&bN M F):=by
 show(bif (M.get b).isNone then bN M F else false)=_
 cases(M.get b).isNone<;>rfl
theorem aq(M:Mem){b b':Nat}(x:bz)(h:b'≠b):(M.set b x).get b'=M.get b':=by rw[Tr.get_set,ab h]
theorem zi:(none:Option bz).isNone=true:=Eq.trans rfl (Eq.refl _)
def biQ(op:BinOp)(X Y:V)(F:RO)(M:Mem):QR:=oZ (.bi op (.c X) (.c Y)) F M .e
theorem ba7(op:BinOp)(x y:X)(M:Mem)(t:T):oZ (.bi op x y) F M t=biQ op (x.ev t) (y.ev t) F M:=Eq.trans rfl (Eq.refl _)
theorem bB8(op:BinOp)(k k':IntKind)(a b:Int)(M:Mem):biQ op (.i k a) (.i k' b) F M=oV (bu op (.i k a) (.i k' b)):=bH1 op _ _ M .e rfl rfl
def ldQ(X:V)(F:RO)(M:Mem):QR:=oZ (.ld1 (.c X)) F M .e
def ldR(b:Nat):Option V→QR
 |some v=> .r v b
 |none=> .f
theorem Vl(b:Nat)(v:V):ldR b (some v)= .r v b:=Eq.trans rfl (Eq.refl _)
theorem bb0(x:X)(M:Mem)(t:T):oZ (.ld1 x) F M t=ldQ (x.ev t) F M:=Eq.trans rfl (Eq.refl _)
theorem bN4(b o:Nat)(M:Mem):ldQ (.p b o) F M=ldR b (load1 F M b o):=by
 cases h:load1 F M b o with
 |some v=>exact bb1 _ M .e rfl h
 |none=>
  show JC (.ld1 (.c (.p b o))) F M .e (qrb b (load1 F M b o))=_;rw[h];rfl
theorem ba8(sz:Nat)(x i:X)(M:Mem)(t:T):oZ (.iaS sz x i) F M t=oV ((cY (.iaS sz x i) F M t).val):=by
 refine gR fun F' M'=>?_
 show qU sz x i F' M' t=oV (qU sz x i [] .e t).val
 have key:∀(b o n:Nat) (y:V),si sz b o n y=oV (si sz b o n y).val:=by
  intro b o n y;unfold si;cases y with
  |i k m=>
   show wP sz b o n m=oV (wP sz b o n m).val;cases m with
   |ofNat m=>
    show(Bool.rec (motive:=fun _=>QR) .f (uc b (Nat.add o (Nat.mul m sz))) (Nat.blt m n))=oV (Bool.rec (motive:=fun _=>QR) .f (uc b (Nat.add o (Nat.mul m sz))) (Nat.blt m n):QR).val;cases Nat.blt m n with
    |true=>
     show uc b (Nat.add o (Nat.mul m sz))=oV (uc b (Nat.add o (Nat.mul m sz))).val;unfold uc;rw[aQ];rfl
    |false=>rfl
   |negSucc m=>rfl
  |_=>rfl
 unfold qU
 cases x.ev t with
 |l b o n c=>exact key b o n _
 |u b o n e k=>exact key b o n _
 |_=>rfl
def Dv(x:V):Option V:=(cY (.ln .slice (.c x)) [] .e .e).val
theorem bN9(M:Mem)(x:V):lnV .slice F M x=Dv x:=Eq.trans rfl (Eq.refl _)
theorem aZ4(b o n c:Nat):Dv (.l b o n c)=some (.i .i64 (n:Int)):=Eq.trans rfl (Eq.refl _)
theorem Vn(b o n e k:Nat):Dv (.u b o n e k)=some (.i .i64 (n:Int)):=Eq.trans rfl (Eq.refl _)
theorem Dw:Dv .l0=some (.i .i64 0):=Eq.trans rfl (Eq.refl _)
theorem Vo(b o n:Nat):Dv (.ue b o n)=some (.i .i64 0):=Eq.trans rfl (Eq.refl _)
def dS(sz:Nat)(x i:V):Option V:=(cY (.iaS sz (.c x) (.c i)) [] .e .e).val
theorem bZ0(sz:Nat)(x i:X)(M:Mem)(t:T):(cY (.iaS sz x i) F M t).val=dS sz (x.ev t) (i.ev t):=Eq.trans rfl (Eq.refl _)
theorem dN(sz b o n c i:Nat)(k:IntKind)(h:i<n):dS sz (.l b o n c) (.i k (i:Int))=some (.p b (o+i*sz)):=by
 show(wP sz b o n (Int.ofNat i)).val=_
 show(Bool.rec (motive:=fun _=>QR) .f (uc b (Nat.add o (Nat.mul i sz))) (Nat.blt i n)).val=_
 rw[bb,eT,af h,ac rfl]
 unfold uc;rw[aQ];rfl
theorem bN1(sz b o n e kn i:Nat)(k:IntKind)(h:i<n):dS sz (.u b o n e kn) (.i k (i:Int))=some (.p b (o+i*sz)):=by
 show(wP sz b o n (Int.ofNat i)).val=_
 show(Bool.rec (motive:=fun _=>QR) .f (uc b (Nat.add o (Nat.mul i sz))) (Nat.blt i n)).val=_
 rw[bb,eT,af h,ac rfl]
 unfold uc;rw[aQ];rfl
end
section
variable{Φ:Nat→Option CF}{rd:Option Nat}{fn:Nat}{F:RO}
def sV(l:List UInt8):V:= .s l.length (bP l)
def bV(c:UInt8):V:= .i .u8 (c.toNat:Int)
theorem Wo:bP []=0:=rfl
theorem oz(c:UInt8)(l:List UInt8):bP (c::l)=c.toNat+256*bP l:=rfl
theorem ul:∀l:List UInt8,bP l<256^l.length
 |[]=>by decide
 |c::l=>by
  have:=ul l;have hc:=UInt8.toNat_lt c;rw[oz,bk,Nat.pow_succ];omega
theorem tn(a b:List UInt8):bP (a++b)=bP a+256^a.length*bP b:=by
 induction a with
 |nil=>simp[Wo]
 |cons c a ih=>
  rw[List.cons_append,oz,oz,ih,bk,Nat.pow_succ,Nat.mul_add,←Nat.mul_assoc,Nat.mul_comm 256 (256^a.length)];omega
theorem ae2(l:List UInt8)(n x:Nat)(h:bl n x=l):x%256^n=bP l:=by
 have hn:l.length=n:=by rw[←h];exact eZ n x
 have e:bl n x=bl n (bP l):=by rw[h];have:=jx l;rw[hn]at this;exact this.symm
 have:=Uc n x (bP l) e
 rw[this]
 exact Nat.mod_eq_of_lt (by have:=ul l;rwa [hn]at this)
theorem yl(l:List UInt8)(n:Nat)(h:n≤l.length):bP (l.take n)=bP l%256^n:=by
 symm
 refine ae2 _ n _ ?_
 rw[←yP n l.length (bP l) h,jx]
theorem yk(l:List UInt8)(n:Nat)(h:n≤l.length):bP (l.drop n)=bP l/256^n:=by
 have e:=tn (l.take n) (l.drop n)
 rw[List.take_append_drop,yl l n h,List.length_take,Nat.min_eq_left h]at e
 have h0:0<256^n:=Nat.pow_pos (by decide)
 rw[e,Nat.add_mul_div_left _ _ h0,Nat.div_eq_of_lt (Nat.mod_lt _ h0),Nat.zero_add]
theorem Wn(l:List UInt8)(i:Nat)(h:i<l.length):bP l/256^i%256=(l[i]).toNat:=by
 rw[←yk l i (by omega),eS h,oz]
 have:=UInt8.toNat_lt l[i]
 omega
theorem bO0(l:List UInt8)(M:Mem):lnV .str F M (sV l)=some (.i .i64 (l.length:Int)):=rfl
theorem tU(l:List UInt8)(k:IntKind)(i:Nat)(h:i<l.length):qI (sV l) (.i k (i:Int))=some (bV l[i]):=by
 show(nP l.length (bP l) i).val=_
 show(Bool.rec (motive:=fun _=>QR) QR.f (fN (Nat.mod (Nat.div (bP l) (kW i)) 256) fun c=>QR.v (.i .u8 (.ofNat c))) (Nat.blt i l.length)).val=_
 rw[bb,eT,ac (by simpa using h),aQ]
 show some (V.i .u8 (((bP l/256^i%256:Nat)):Int))=_
 rw[Wn l i h];rfl
theorem zP(a b:List UInt8):lG a.length (bP a) b.length (bP b)=decide (a=b):=by
 rw[jH,jx,jx]
theorem lU(a b:List UInt8):bu .eql (sV a) (sV b)=some (.b (decide (a=b))):=by
 show(vB (lG a.length (bP a) b.length (bP b))).val=_
 rw[zP]
 cases decide (a=b)<;>rfl
theorem np(a b:List UInt8):bu .neq (sV a) (sV b)=some (.b (!decide (a=b))):=by
 show(vB (!lG a.length (bP a) b.length (bP b))).val=_
 rw[zP]
 cases decide (a=b)<;>rfl
theorem Hr(lit:Bool)(M:Mem)(a b:List UInt8):Hq F M .str lit (sV a) (sV b)=some (decide (a=b)):=by
 show some (lG a.length (bP a) b.length (bP b))=_
 rw[zP]
theorem Za(lit:Bool)(M:Mem)(a b:List UInt8):ua F M .str lit (sV a) (sV b)=some (decide (a=b)):=Hr (F:=F) lit M a b
theorem eK(a b:List UInt8)(h:a.length+b.length≤1099511627776):bu .add (sV a) (sV b)=some (sV (a++b)):=by
 show(mw a.length (bP a) b.length (bP b)).val=_
 have e:mw a.length (bP a) b.length (bP b)=QR.v (sV (a++b)):=by
  unfold mw;rw[bG,show decide (Nat.add a.length b.length≤1099511627776)=true from af h,cond_true];show(fN (a.length+b.length) fun n=>fN (bP a%256^a.length+256^a.length*bP b) fun x=>QR.v (.s n x))=_;rw[aQ,aQ,Nat.mod_eq_of_lt (ul a),←tn,←bE];rfl
 rw[e];rfl
def BB(x:V)(lo hi:Option V):Option V:=(cY (.slS (.c x) (lo.map .c) (hi.map .c)) [] .e .e).val
theorem nL(tm:T)(d:Nat)(o:Option X):optN .e d ((o.map fun x=>x.ev tm).map .c)=optN tm d o:=by cases o<;>rfl
theorem b13(x:X)(lo hi:Option X)(M:Mem)(t:T):(cY (.slS x lo hi) F M t).val=BB (x.ev t) (lo.map fun x=>x.ev t) (hi.map fun x=>x.ev t):=by
 show(vV x lo hi F M t).val=(vV (.c (x.ev t)) _ _ [] .e .e).val
 unfold vV
 rw[nL]
 show _=(pR (x.ev t) .f fun n s=>k9 n s (optN t 0 lo) (optN .e n ((hi.map fun x=>x.ev t).map .c))).val
 congr 2
 funext n s
 rw[nL]
theorem bk3(l:List UInt8)(i j:Nat)(hi:i≤j)(hj:j≤l.length):(k9 l.length (bP l) (some i) (some j)).val=some (sV ((l.take j).drop i)):=by
 have e:k9 l.length (bP l) (some i) (some j)=QR.v (sV ((l.take j).drop i)):=by
  show(Bool.rec (motive:=fun _=>QR) .f (Bool.rec (motive:=fun _=>QR) .f (vS (j-i) (bP l/256^i%256^(j-i))) (Nat.ble j l.length)) (Nat.ble i j))=_;rw[bb,bb,bG,bG,ac (by simpa using hi),ac (by simpa using hj)];show(fN (j-i) fun n=>fN (bP l/256^i%256^(j-i)) fun x=>QR.v (.s n x))=_;rw[aQ,aQ];have e1:(l.take j).drop i=(l.drop i).take (j-i):=by rw[List.drop_take]
  rw[e1];unfold sV;rw[yl _ _ (by simp;omega),yk _ _ (by omega),List.length_take,cM,Nat.min_eq_left (by omega)]
 rw[e];rfl
theorem pl(l:List UInt8)(k:IntKind)(i:Nat)(hi:i≤l.length):BB (sV l) (some (.i k (i:Int))) none=some (sV (l.drop i)):=by
 have:=bk3 l i l.length hi (by omega)
 rw[List.take_length]at this
 exact this
theorem BC(l:List UInt8)(k:IntKind)(j:Nat)(hj:j≤l.length):BB (sV l) none (some (.i k (j:Int)))=some (sV (l.take j)):=by
 have:=bk3 l 0 j (by omega) hj
 rw[List.drop_zero]at this
 exact this
theorem Wh(l:List UInt8)(k k':IntKind)(i j:Nat)(hi:i≤j)(hj:j≤l.length):BB (sV l) (some (.i k (i:Int))) (some (.i k' (j:Int)))=some (sV ((l.take j).drop i)):=bk3 l i j hi hj
theorem kB:∀l:List UInt8,bM l.length (bP l)=l.map bV
 |[]=>rfl
 |c::l=>by
  have hc:=UInt8.toNat_lt c;show(fN ((c.toNat+256*bP l)%256) fun d=>V.i .u8 (.ofNat d)::bM l.length ((c.toNat+256*bP l)/256))=_;rw[aQ,show(c.toNat+256*bP l)%256=c.toNat by omega,show(c.toNat+256*bP l)/256=bP l by omega,kB l];rfl
theorem qp:∀l:List UInt8,gn (l.map bV)=some (l.length,bP l)
 |[]=>rfl
 |c::l=>by
  have hc:=UInt8.toNat_lt c;rw[List.map_cons];show(match gn (l.map bV)with|some (n,x)=>some (Nat.succ n,Nat.add (Nat.mod c.toNat 256) (Nat.mul 256 x))|none=>none)=_;rw[qp l];show some (l.length+1,c.toNat%256+256*bP l)=_;rw[Nat.mod_eq_of_lt (by omega)];rfl
theorem gL:∀l:List UInt8,br (l.map bV)=true
 |[]=>rfl
 |c::l=>by rw[List.map_cons,iP,gL l];rfl
end
end
end Go.Proofs.YtkcelmimbmbfkaaGreatDoor.Ev
