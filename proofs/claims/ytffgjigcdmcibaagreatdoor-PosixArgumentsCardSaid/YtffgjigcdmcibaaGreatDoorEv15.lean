/- What is proved here: pieces of the evaluator's soundness: if the evaluator comes to a value, the model's run comes to it, for every world and tape; no conditions beyond the hypotheses of each theorem. -/
import Derived.Test.YtffgjigcdmcibaaGreatDoorEv14
set_option linter.unusedSimpArgs false
set_option linter.unusedVariables false
set_option linter.defProp false
set_option maxRecDepth 10000
set_option maxHeartbeats 4000000
namespace Go.Proofs.YtffgjigcdmcibaaGreatDoor.Ev
open Go
noncomputable section
section
variable{Φ:Nat→Option CF}{rd:Option Nat}{fn:Nat}{F:RO}
end
theorem over_pre:∀(e p q:List V),q.length=e.length→over (p++q) p.length e=p++e
 |[],p,q,h=>by
  obtain rfl:q=[]:=List.eq_nil_of_length_eq_zero h;rfl
 |v::e,p,[],h=>by cases h
 |v::e,p,a::q,h=>by
  rw[over,List.set_append_right _ _ (Nat.le_refl _),Nat.sub_self,List.set_cons_zero];have:=over_pre e (p++[v]) q (by simpa using h);rw[List.length_append,List.length_singleton,List.append_assoc,List.append_assoc]at this;exact this
theorem over_all{z e:List V}(h:z.length=e.length):over z 0 e=e:=by
 have:=over_pre e [] z h
 simpa using this
section
variable{Φ:Nat→Option CF}{rd:Option Nat}{fn:Nat}{F:RO}
theorem protect_lk{c:Nat}(mask:Nat):∀(reads:List (Nat×Nat)) (F:RO) (M:Mem) (s:List (Nat×Blk)),roFree M F=true→(∀x,c≤x→M.get x=none)→
 ∃F' M' s2,protect mask reads F M s=Pr.mk F' M' (s2++s)∧roFree M' F'=true∧(∀b,look F' M' b=look F M b)∧(∀x,c≤x→M'.get x=none)∧ ∀N:Mem,(∀x,x<c→N.get x=M'.get x)→ ∀x,(unprotect s2 N).get x=if x<c then M.get x else N.get x
 |[],F,M,s,h2,h3=>⟨F,M,[],rfl,h2,fun _=>rfl,h3,fun N hN x=>by
  show N.get x=_;split
  ·rename_i h;exact hN x h
  ·rfl⟩
 |(i,x)::r,F,M,s,h2,h3=>by
  rw[protect];cases ht:testBit mask i with
  |true=>exact protect_lk mask r F M s h2 h3
  |false=>
   show∃F' M' s2,(match M.get x with|none=>protect mask r F M s|some blk=>(M.del x).force fun M=>protect mask r ((x,blk)::F) M ((x,blk)::s))=_∧_;cases hb:M.get x with
   |none=>exact protect_lk mask r F M s h2 h3
   |some blk=>
    have hxc:x<c:=by
     apply Classical.byContradiction;intro hx;rw[h3 x (by omega)]at hb;cases hb
    have hfr:roFree (M.del x) ((x,blk)::F)=true:=by
     rw[roFree_cons,Tr.get_del,if_pos rfl,roFree_del x h2];rfl
    obtain⟨F',M',s2,g1,g2,g3,g4,g5⟩:=protect_lk mask r ((x,blk)::F) (M.del x) ((x,blk)::s) hfr (fun y hy=>by rw[Tr.get_del];split<;>first|rfl|exact h3 y hy);refine⟨F',M',s2++[(x,blk)],?_,g2,fun b=>?_,g4,fun N hN z=>?_⟩
    ·show((M.del x).force fun M=>protect mask r ((x,blk)::F) M ((x,blk)::s))=_;rw[Tr.force_eq,g1,List.append_assoc];rfl
    ·rw[g3];by_cases e:b=x
     ·subst e;rw[look_some_M hb,look_none_M (by rw[Tr.get_del,if_pos rfl]),roGet_cons,if_pos rfl]
     ·cases hM:M.get b with
      |some y=>rw[look_some_M hM,look_some_M (by rw[Tr.get_del,if_neg e];exact hM)]
      |none=>rw[look_none_M hM,look_none_M (by rw[Tr.get_del,if_neg e];exact hM),roGet_cons,if_neg (fun h=>e h.symm)]
    ·have key:∀(s2:List (Nat×Blk)) (N:Mem),unprotect (s2++[(x,blk)]) N=(unprotect s2 N).set x blk:=by
      intro s2
      induction s2 with
      |nil=>intro N;show(N.set x blk).force (fun M=>M)=_;rw[Tr.force_eq];rfl
      |cons a s2 ih=>intro N;show(N.set a.1 a.2).force (fun M=>unprotect (s2++[(x,blk)]) M)=_;rw[Tr.force_eq,ih];show _=((N.set a.1 a.2).force fun M=>unprotect s2 M).set x blk;rw[Tr.force_eq]
     rw[key,Tr.get_set,g5 N hN];by_cases e1:z=x
     ·subst e1;rw[if_pos rfl,if_pos hxc,hb]
     ·rw[if_neg e1,Tr.get_del,if_neg e1]
theorem wd_ef(base i mask:Nat)(dst:Option Pos)(o:EO)(r:List (Nat×Nat×CO))(t:T)(M:Mem)(c:Nat)(reads:List (Nat×Nat))(R:DS→Prop)(ok:Okm F M c)
 (h:∀F' M',Okm F' M' c→(∀b,look F' M' b=look F M b)→RTo (doE o (K Φ rd fn F') M' c t) fun v M2 c2=>Gr c M' c2 M2∧ ∀M3,Gr c M c2 M3→(∀x,c≤x→M3.get x=M2.get x)→WpD base r (K Φ rd fn F) (.mk (setT t dst v) M3 c2 [] reads) R):
 WpD base ((i,mask,.mk dst (.e o) none)::r) (K Φ rd fn F) (.mk t M c [] reads) R:=by
 obtain⟨F',M',s2,g1,g2,g3,g4,g5⟩:=protect_lk (c:=c) mask reads F M [] ok.free ok.hiM
 have ok':Okm F' M' c:=by
  refine⟨g4,fun b hb=>?_,fun b hb=>?_,ok.ge⟩
  ·have:=g3 b;rw[look_none_M (g4 b hb),ok.look hb]at this;exact this
  ·have:∃blk,(b,blk)∈F':=by
    clear g1 g2 g3 g5 h
    induction F' with
    |nil=>cases hb
    |cons a F' ih=>
     obtain⟨k,z⟩:=a;rw[roGet_cons]at hb;split at hb
     ·rename_i e;have e:k=b:=e;exact⟨z,by rw[e];exact List.mem_cons_self ..⟩
     ·obtain⟨blk,hm⟩:=ih hb;exact⟨blk,List.mem_cons_of_mem _ hm⟩
   obtain⟨blk,hm⟩:=this;exact roFree_iff F' g2 b blk hm
 obtain⟨v,M2,c2,hd,hg,hR⟩:=h F' M' ok' g3
 have hun:=g5 M2 hg.old
 have he:dOp (K Φ rd fn F) base (i,mask,.mk dst (.e o) none) (.mk t M c [] reads)=some (.mk (setT t dst v) (unprotect s2 M2) c2 [] reads):=by
  show d_e1 o (K Φ rd fn F) dst t c [] reads (protect mask reads F M [])=_;rw[g1];show d_e2 F' dst t [] reads (s2++[]) (doE o (K Φ rd fn F') M' c t)=_;rw[hd,List.append_nil];show(bif roFree M2 F'&&true then(unprotect s2 M2).force fun M=>(setT t dst v).force fun t=>some (DS.mk t M c2 [] reads)else none)=_;rw[(hg.ok ok').free];show((unprotect s2 M2).force fun M=>(setT t dst v).force fun t=>some (DS.mk t M c2 [] reads))=_;rw[Tr.force_eq,Tr.force_eq]
 rw[wd_cons]
 have hle:=hg.le
 exact⟨_,he,hR _ ⟨hle,fun b hb=>by rw[hun,if_pos hb],fun b hb=>by rw[hun,if_neg (by omega)];exact hg.new b hb⟩ (fun x hx=>by rw[hun,if_neg (by omega)])⟩
theorem load1_lk{F':RO}{M M':Mem}(h:∀b,look F' M' b=look F M b)(b o:Nat):load1 F' M' b o=load1 F M b o:=by
 show asCells (look F' M' b) none (fun m d c=>cell m d c o)=asCells (look F M b) none fun m d c=>cell m d c o
 rw[h]
end
section
variable{Φ:Nat→Option CF}{rd:Option Nat}{fn:Nat}{F:RO}
end
section
variable{Φ:Nat→Option CF}{rd:Option Nat}{fn:Nat}{F:RO}
structure GrX(h:Nat→Prop)(c:Nat)(M:Mem)(c':Nat)(M':Mem):Prop where
 le:c≤c'
 old:∀b,b<c→ ¬h b→M'.get b=M.get b
 new:∀b,c'≤b→M'.get b=none
theorem appL_to{M:Mem}{c b n ty sz bytes:Nat}{y:V}{es ns:List (List V)}(h:SlAt F M c sz (.l b 0 n n) es)(hn:es.length=n)(hsz:0<sz)(hy:SlAt F M c sz y ns)(hne:ns≠[])(h1:allOne ns.flatten=true)(hr:room (es.length+ns.length) bytes=true):
 RTo (appV F M c ty sz bytes (.l b 0 n n) y) fun v' M' c'=>c'=c+1∧M'=M.set c (rowU ty (es++ns).flatten)∧v'= .u c 0 (es++ns).length 0 (es++ns).length:=by
 unfold appV
 rw[split_sl hsz hy]
 have hnl:=flat_len hy.1
 have hn0:ns.length≠0:=fun e=>hne (List.length_eq_zero_iff.1 e)
 have e1:e_app1 F M c ty sz bytes (.l b 0 n n) (some (ns.length,ns.flatten))=app_l F M c ty sz bytes b 0 n n ns.length ns.flatten:=by
  show(bif allOne ns.flatten&&Nat.beq ns.flatten.length (Nat.mul ns.length sz)then app F M c ty sz bytes (.l b 0 n n) ns.length ns.flatten else _)=_;rw[h1,beqN,decide_eq_true (show ns.flatten.length=Nat.mul ns.length sz from hnl)];show(bif Nat.beq ns.length 0 then _ else _)=_;rw[beqN,decide_eq_false hn0];rfl
 have hcl:CellsAt F M b 0 es.flatten:=by
  obtain⟨h0,⟨rfl,h2⟩|⟨b',o',hv,hb,hc⟩⟩:=h
  ·intro k hk;cases hk
  ·rcases hv with⟨cap,_,hv⟩|⟨el,kn,_,hv⟩
   ·injection hv with e1 e2;subst e1 e2;exact hc
   ·cases hv
 obtain⟨r,hrd⟩:=readB_of hsz h.1 hcl
 rw[hn]at hrd
 have e2:app_l F M c ty sz bytes b 0 n n ns.length ns.flatten=grown M c ty bytes (es.length+ns.length) 0 false (es.flatten++ns.flatten):=by
  unfold app_l;rw[bleN,decide_eq_false (show¬Nat.add n ns.length≤n by show¬n+ns.length≤n;omega),cond_false,hrd,←hn];rfl
 refine⟨_,_,_,(e1.trans e2).trans (grown_eq M c ty bytes _ _ hr),rfl,by rw[List.flatten_append],by rw[List.length_append]⟩
end
def BW(b0 b1:Blk):Prop:=b0=b1∨ ∃ty n ex fz str d0 d c0 c,b0= .cells ty n ex fz str d0 c0∧b1= .cells ty n ex fz str d c∧ ∀k v,cell n d c k=some v→cell n d0 c0 k=some v
theorem BW.rel{P:Program}{E:Env}{b:Nat}{b0 b1:Blk}(h:BW b0 b1){o:Obj}(hr:BlkRel P E b b0 o):BlkRel P E b b1 o:=by
 rcases h with rfl|⟨ty,n,ex,fz,str,d0,d,c0,c,rfl,rfl,h⟩
 ·exact hr
 ·obtain⟨arr,fr,rfl,hc⟩:=hr;exact⟨arr,fr,rfl,fun k v hk=>hc.cell k v (h k v hk),hc.size,hc.free,hc.plain⟩
theorem BW.bd{p:Nat→Prop}{b0 b1:Blk}(h:BW b0 b1)(hb:bdBlk p b0):bdBlk p b1:=by
 rcases h with rfl|⟨ty,n,ex,fz,str,d0,d,c0,c,rfl,rfl,h⟩
 ·exact hb
 ·exact fun k v hk=>hb k v (h k v hk)
def Weak(N0 N:Mem):Prop:=∀b blk,N.get b=some blk→ ∃b0,N0.get b=some b0∧BW b0 blk
theorem Stp.weak{P:Program}{F:RO}{E E':Env}{M N0 N:Mem}{c c':Nat→Prop}{w w':World}(h:Stp P F E M c w E' N0 c' w')(hw:Weak N0 N):Stp P F E M c w E' N c' w':=by
 have hs:∀b blk,look F N b=some blk→ ∃b0,look F N0 b=some b0∧BW b0 blk:=by
  intro b blk hb;cases hn:N.get b with
  |some x=>
   rw[look_some_M hn]at hb;obtain rfl:=Option.some.inj hb;obtain⟨b0,h0,h1⟩:=hw b _ hn;exact⟨b0,look_some_M h0,h1⟩
  |none=>
   rw[look_none_M hn]at hb;exact⟨blk,by rw[look_none_M (h.rel.apart b (by rw[hb];rfl))];exact hb,.inl rfl⟩
 have hs':∀b,(look F N b).isSome→(look F N0 b).isSome:=by
  intro b hb;obtain⟨x,hx⟩:=Option.isSome_iff_exists.1 hb;obtain⟨b0,h0,_⟩:=hs b x hx;rw[h0];rfl
 refine⟨h.ext,h.le,⟨?_,?_,?_⟩,?_,h.frame,h.size,h.os,h.output,h.tape⟩
 ·intro b blk hb;obtain⟨b0,h0,h1⟩:=hs b blk hb;obtain⟨g1,g2,o,g3,g4⟩:=h.rel.has b b0 h0;exact⟨g1,h1.bd g2,o,g3,h1.rel g4⟩
 ·exact fun b b' h1 h2 e=>h.rel.inj b b' (hs' b h1) (hs' b' h2) e
 ·intro b hb;cases hn:N.get b with
  |none=>rfl
  |some x=>
   obtain⟨b0,h0,_⟩:=hw b x hn;rw[h.rel.apart b hb]at h0;cases h0
 ·intro b hb;obtain⟨x,hx⟩:=Option.isSome_iff_exists.1 hb;obtain⟨b0,h0,_⟩:=hw b x hx;exact h.own b (by rw[h0];rfl)
theorem orc_weak{P:Program}{f:Nat}{g0 g:RO→List V→Mem→Nat→RC}(h0:OrcOk P f g0)
 (h:∀F args M ct v N ct',g F args M ct= .k v N ct'→Wf F M ct args→ ∃N0,g0 F args M ct= .k v N0 ct'∧Weak N0 N):OrcOk P f g:=by
 intro F args M ct v N ct' hg E c w hr hglob hbig hf ha
 obtain⟨N0,h1,h2⟩:=h F args M ct v N ct' hg (wf_of hr hbig hf ha)
 obtain⟨fn,k1,k2,k3,hC⟩:=h0 F args M ct v N0 ct' h1 E c w hr hglob hbig hf ha
 refine⟨fn,k1,k2,k3,hC.mono ?_⟩
 rintro e w' ⟨E',c',rfl,hS,hb,hG⟩
 exact⟨E',c',rfl,hS.weak h2,hb,hG⟩
theorem orc_self{P:Program}(hm:P.follows .mixedOrders=true){Φ:Nat→Option CF}(hΦ:PhiOk P Φ){f:Nat}:OrcOk P f (fun F args M ct=>callC (den Φ) F f args M ct (Φ f)):=
 fun F args M ct v M' ct' h E c w hr hglob hbig hf ha=>callOk_of (rd:=none) (fn:=0) (F₀:=[]) hΦ (den_ok hm hΦ) F f args M ct v M' ct' h E c w hr hglob hbig hf ha
theorem orc_of_weak{P:Program}(hm:P.follows .mixedOrders=true){Φ:Nat→Option CF}(hΦ:PhiOk P Φ){f:Nat}{g:RO→List V→Mem→Nat→RC}
 (h:∀F args M ct v N ct',g F args M ct= .k v N ct'→Wf F M ct args→ ∃N0,callC (den Φ) F f args M ct (Φ f)= .k v N0 ct'∧Weak N0 N):OrcOk P f g:=
 orc_weak (orc_self hm hΦ) h
def zr128:List V:=List.replicate 128 (.i .u8 (.ofNat 0))
theorem zr128_len:zr128.length=128:=List.length_replicate
theorem zr128_one:allOne zr128=true:=Eq.trans rfl (Eq.refl _)
def lkVV(sh:Sh)(z:V)(o:Bool)(X Y:V)(F:RO)(M:Mem):Option V:=(qop (.lk sh z o (.c X) (.c Y)) F M .e).val
theorem v_lk0{F:RO}(sh:Sh)(z:V)(o:Bool)(x k:X)(M:Mem)(t:T):(qop (.lk sh z o x k) F M t).val=lkVV sh z o (x.ev t) (k.ev t) F M:=Eq.trans rfl (Eq.refl _)
def lkOut:Option (Nat×V)→V
 |some (_,v)=>v
 |none=> .l0
theorem lkOut_some(j:Nat)(v:V):lkOut (some (j,v))=v:=rfl
theorem lkOut_none:lkOut none= .l0:=rfl
theorem lkVV_f{F:RO}{M:Mem}{pb clk:Nat}{es:List (V×V×Nat)}{kv:V}{o:Option (Nat×V)}(h:look F M pb=some (.map es clk))(hf:findK .int kv es 0=some o):lkVV .int .l0 false (.m pb) kv F M=some (lkOut o):=by
 show(asMap (look F M pb) .f fun es _=>q_lkr .l0 false pb (findK .int kv es 0)).val=_
 rw[h]
 show(q_lkr .l0 false pb (findK .int kv es 0)).val=_
 rw[hf]
 rcases o with _|⟨j,v⟩<;>rfl
def b354_1:CC:=(.reg [(pqq pa6 (.mv pz0)),(pqq pa7 (.nck pz6)),(pqq pa8 (.fa 1 pz7)),(pqq pa9 (.ld1 pz8)),(pqq pa10 (.mv pz1)),(pqq pa11 (.lk .int .l0 false pz9 pz10)),(pqq pa5 (.mv pz11))])
def b354_2:CC:=(.reg [(pqq pa12 (.mv pz5)),(pqq pa13 (.ln .slice pz12)),(pqq pa14 (.bi .gtr pz13 (px6 0)))])
def b354_3:CC:=(.reg [(pqq pa15 (.mv pz5)),(pqq pa16 (.mv pz5)),(pqq pa17 (.ln .slice pz16)),(pqq pa18 (.bi .sub pz17 (px6 1))),(pqq pa19 (.iaS 128 pz15 pz18)),(pqq pa20 (.ldn 128 pz19)),(pez (.st 128 pz4 pz20))])
def b354_4:CC:=(.seq b354_2 (.cond pz14 (.seq b354_3 .ret) .skip))
def b354_5:CC:=(.reg [(pqq pa21 (.mv pz0)),(pqq pa22 (.nck pz21)),(pqq pa23 (.fa 0 pz22)),(pqq pa24 (.ld1 pz23)),(pqq pa25 (.mv pz1)),(pqq pa26 (.iaS 128 pz24 pz25)),(pqq pa27 (.ldn 128 pz26)),(pez (.st 128 pz4 pz27))])
def b354_6:CC:=(.seq (.reg [(paa pa4 (.al 557 zr128))]) (.seq (.seq b354_1 b354_4) (.seq b354_5 .ret)))
def c354:CF:= .mk 5 [.cn pa4 128] b354_6
theorem e354(v0 v1:V):argTr 5 [v0,v1]=(.n (.n sk3 (some v1) sk3) (some v0) sk4):=rfl
def B354:=ai @e354 (ai (wu b354_1.eq_1) (ai (wu b354_2.eq_1) (ai (wu b354_3.eq_1) (ai (wu b354_4.eq_1) (ai (wu b354_5.eq_1) (wu b354_6.eq_1))))))
theorem w354(Φ:Nat→Option CF)(h:Φ 354=some c354){F:RO}{M:Mem}{c db fb pb n fcap clk s:Nat}{es:List (V×V×Nat)}{o:Option (Nat×V)}{r0:List V}(hc:db<c∧fb<c∧pb<c)
 (l0:load1 F M db 0=some (.l fb 0 n fcap)) (l1:load1 F M db 1=some (.m pb)) (hp:look F M pb=some (.map es clk)) (hf:findK .int (.i .i64 (s:Int)) es 0=some o) (hs:s<n)
 (hr:(∃j sb so el kn,o=some (j,.u sb so 1 el kn)∧sb<c∧loadN F M sb so 128=some r0)∨(o=none∧loadN F M fb (s*128) 128=some r0)) (hl:r0.length=128) (h1:allOne r0=true):
 Calls Φ F 354 [.p db 0,.i .i64 (s:Int)] M c fun r M' c'=>r= .g r0∧c'=c+1∧ ∃x,M'=M.set c x:=by
 refine calls_walk h ?_
 have hlk:∀x,lkVV .int .l0 false (.m pb) (.i .i64 (s:Int)) F (M.set c x)=some (lkOut o):=fun x=>lkVV_f (by rw[look_set_ne _ _ (by omega)];exact hp) hf
 have l0':∀x,load1 F (M.set c x) db 0=some (.l fb 0 n fcap):=fun x=>(load1_ne M 0 x (by omega)).trans l0
 have l1':∀x,load1 F (M.set c x) db 1=some (.m pb):=fun x=>(load1_ne M 1 x (by omega)).trans l1
 have hst:storeN (M.set c (rowB 557 zr128)) c 0 r0=some (M.set c (rowB 557 r0)):=by
  rw[storeN_same M c 0 557 zr128 r0 (by rw[zr128_len,hl];omega) h1,over_all (by rw[zr128_len,hl])]
 have hld:loadN F (M.set c (rowB 557 r0)) c 0 128=some r0:=by
  rw[loadN_same M c 0 128 557 r0 (by omega),List.drop_zero,List.take_of_length_le (by omega)]
 have i1:iaSV 128 (.l fb 0 n fcap) (.i .i64 (s:Int))=some (.p fb (s*128)):=by
  have:=iaS_l 128 fb 0 n fcap s .i64 hs
  simpa using this
 have d1:decide ((0:Int)<((1:Nat):Int))=true:=rfl
 have s1:((1:Nat):Int)=1:=rfl
 rcases hr with⟨j,sb,so,el,kn,rfl,hsb,hk⟩|⟨rfl,hv⟩
 ·have hk':∀x,loadN F (M.set c x) sb so 128=some r0:=fun x=>(loadN_ne M so 128 x (Nat.ne_of_lt hsb)).trans hk;have i0:iaSV 128 (.u sb so 1 el kn) (.i .i64 (IntKind.i64.wrap ((1:Int)-1)))=some (.p sb so):=by
   have:=iaS_u 128 sb so 1 el kn 0 .i64 (by omega);rw[show IntKind.i64.wrap ((1:Int)-1)=((0:Nat):Int) by decide,this];simp
  simp only[WX,Int.reduceLT,B354,v_lk0,s1,v_nck,nckV_p,hlk,lkOut_some,l1',hk',hst,hld,hl,zr128_one,i0];exact⟨_,rfl⟩
 ·have hv':∀x,loadN F (M.set c x) fb (s*128) 128=some r0:=fun x=>(loadN_ne M (s*128) 128 x (by omega)).trans hv;simp only[WX,Int.reduceLT,B354,v_lk0,v_nck,nckV_p,hlk,lkOut_none,l0',l1',hv',hst,hld,hl,zr128_one,i1];exact⟨_,rfl⟩
def b350_1:CC:=(.reg [(pqq pa3 (.mv pz0)),(pqq pa4 (.eq true .ptr true pz3 (.c .p0))),(pqq pa5 (.mv pz4)),⟨(some pa6),.q (.mv pz0),(some (pa5,true))⟩,⟨(some pa7),.q (.nck pz6),(some (pa5,true))⟩,⟨(some pa8),.q (.fa 0 pz7),(some (pa5,true))⟩,⟨(some pa9),.q (.ld1 pz8),(some (pa5,true))⟩,⟨(some pa10),.q (.ln .slice pz9),(some (pa5,true))⟩,⟨(some pa11),.q (.bi .gtr pz10 (px6 0)),(some (pa5,true))⟩,(pqq pa12 (.pk pz5 pz11 pxF)),(pqq pa2 (.mv pz12))])
def b350_2:CC:=(.seq (.reg [(pqq pa2 (.mv pxF))]) (.seq b350_1 .ret))
def c350:CF:= .mk 4 [.t pa2] b350_2
theorem e350(v0:V):argTr 4 [v0]=(.n sk3 (some v0) sk3):=rfl
def B350:=ai @e350 (ai (wu b350_1.eq_1) (wu b350_2.eq_1))
theorem w350(Φ:Nat→Option CF)(h:Φ 350=some c350){F:RO}{M:Mem}{c db fb n fcap:Nat}(l0:load1 F M db 0=some (.l fb 0 n fcap))(hn:0<n):
 Calls Φ F 350 [.p db 0] M c fun r M' c'=>r= .b true∧c'=c∧M'=M:=by
 refine calls_walk h ?_
 have d1:decide ((0:Int)<(n:Int))=true:=decide_eq_true (by omega)
 have e1:eqV F M .ptr true (.p db 0) .p0=some false:=Eq.trans rfl (Eq.refl _)
 simp only[WX,B350,v_nck,nckV_p,l0,d1,e1]
theorem cell_listTr(n:Nat)(d vs:List V)(o:Nat)(t:T)(ho:o+vs.length≤n)(q:Nat):cell n d (listTr vs o t) q=if o≤q∧q<o+vs.length then vs[q-o]? else cell n d t q:=by
 rw[cell_eq,cell_eq,listTr_get]
 by_cases h:o≤q∧q<o+vs.length
 ·rw[if_pos (by omega),if_pos h,if_pos h];have:q-o<vs.length:=by omega
  rw[List.getElem?_eq_getElem this]
 ·rw[if_neg h,if_neg h]
theorem cellsAt_congr{n:Nat}{d d':List V}{t t':T}:∀(m o:Nat),(∀j,j<m→cell n d t (o+j)=cell n d' t' (o+j))→cellsAt n d t m o=cellsAt n d' t' m o
 |0,o,_=>rfl
 |m+1,o,h=>by
  have e0:=h 0 (by omega);rw[Nat.add_zero]at e0
  have ih:cellsAt n d t m (o+1)=cellsAt n d' t' m (o+1):=cellsAt_congr m (o+1) fun j hj=>by
   have:=h (j+1) (by omega);rw[show o+1+j=o+(j+1) by omega];exact this
  simp only[cellsAt_succ,e0,ih]
theorem loadN_cells{F:RO}{M:Mem}{b ty n fz:Nat}{ex str:Bool}{d:List V}{t:T}(h:M.get b=some (.cells ty n ex fz str d t))(o m:Nat):loadN F M b o m=cellsAt n d t m o:=by
 show asCells (look F M b) none (fun n d c=>cellsAt n d c m o)=_
 rw[look_some_M h];rfl
theorem loadN_lk{F F':RO}{M M':Mem}(h:∀b,look F' M' b=look F M b)(b o m:Nat):loadN F' M' b o m=loadN F M b o m:=by
 show asCells (look F' M' b) none (fun n d c=>cellsAt n d c m o)=asCells (look F M b) none (fun n d c=>cellsAt n d c m o)
 rw[h]
def delV(X Y:V)(M:Mem)(c:Nat):RC:=e_del .int (.c X) (.c Y) [] M c .e
theorem x_del_eq{Φ:Nat→Option CF}{rd:Option Nat}{fn:Nat}{F:RO}(x y:X)(M:Mem)(c:Nat)(t:T):doE (.del .int x y) (K Φ rd fn F) M c t=delV (x.ev t) (y.ev t) M c:=Eq.trans rfl (Eq.refl _)
theorem delV_none{M:Mem}{c b clk:Nat}{es:List (V×V×Nat)}{kv:V}(h:M.get b=some (.map es clk))(hf:findK .int kv es 0=some none):delV (.m b) kv M c= .k undef M c:=by
 show asMap (M.get b) .f (fun es clock=>e_del1 M c b es clock (findK .int kv es 0))=_
 rw[h]
 show e_del1 M c b es clk (findK .int kv es 0)=_
 rw[hf];rfl
theorem delV_one{M:Mem}{c b clk:Nat}{e:V×V×Nat}{kv v:V}(h:M.get b=some (.map [e] clk))(hf:findK .int kv [e] 0=some (some (0,v))):delV (.m b) kv M c= .k undef (M.set b (.map [] clk)) c:=by
 show asMap (M.get b) .f (fun es clock=>e_del1 M c b es clock (findK .int kv es 0))=_
 rw[h]
 show e_del1 M c b [e] clk (findK .int kv [e] 0)=_
 rw[hf]
 show setM M c b (.map [] clk) undef=_
 unfold setM;rw[Tr.force_eq]
theorem fk_nil(s:Int):findK .int (.i .i64 s) [] 0=some none:=rfl
theorem fk_hit(s:Int)(v:V)(born:Nat):findK .int (.i .i64 s) [(.i .i64 s,v,born)] 0=some (some (0,v)):=by
 show(match some (eqI s s)with|some true=>some (some (0,v))|some false=>some none|none=>none)=_
 rw[(eqI_iff s s).trans (decide_eq_true rfl)]
theorem fk_miss{s k:Int}(h:s≠k)(v:V)(born:Nat):findK .int (.i .i64 s) [(.i .i64 k,v,born)] 0=some none:=by
 show(match some (eqI s k)with|some true=>some (some (0,v))|some false=>some none|none=>none)=_
 rw[(eqI_iff s k).trans (decide_eq_false h)]
def b249_1:CC:=(.reg [(pqq pa6 (.mv (px6 0)))])
def b249_2:CC:=(.reg [(pqq pa9 (.mv pz0)),(pee pa10 (.call 350 [pz9])),(pqq pa11 (.un .not pz10)),(pqq pa8 (.mv pz11))])
def b249_3:CC:=(.reg [(pqq pa6 (.mv (px6 1)))])
def b249_4:CC:=(.reg [(pqq pa13 (.mv pz2)),(pqq pa14 (.bi .lss pz13 (px6 0))),(pqq pa15 (.mv pz14)),⟨(some pa16),.q (.mv pz1),(some (pa15,false))⟩,⟨(some pa17),.q (.bi .lss pz16 (px6 0)),(some (pa15,false))⟩,(pqq pa18 (.pk pz15 pxT pz17)),(pqq pa19 (.mv pz18)),⟨(some pa20),.q (.mv pz1),(some (pa19,false))⟩,⟨(some pa21),.q (.mv pz0),(some (pa19,false))⟩,⟨(some pa22),.q (.nck pz21),(some (pa19,false))⟩,⟨(some pa23),.q (.fa 0 pz22),(some (pa19,false))⟩,⟨(some pa24),.q (.ld1 pz23),(some (pa19,false))⟩,⟨(some pa25),.q (.ln .slice pz24),(some (pa19,false))⟩,⟨(some pa26),.q (.bi .gtr pz20 pz25),(some (pa19,false))⟩,(pqq pa27 (.pk pz19 pxT pz26)),(pqq pa28 (.mv pz27)),⟨(some pa29),.q (.mv pz2),(some (pa28,false))⟩,⟨(some pa30),.q (.mv pz0),(some (pa28,false))⟩,⟨(some pa31),.q (.nck pz30),(some (pa28,false))⟩,⟨(some pa32),.q (.fa 0 pz31),(some (pa28,false))⟩,⟨(some pa33),.q (.ld1 pz32),(some (pa28,false))⟩,⟨(some pa34),.q (.ln .slice pz33),(some (pa28,false))⟩,⟨(some pa35),.q (.mv pz1),(some (pa28,false))⟩,⟨(some pa36),.q (.bi .sub pz34 pz35),(some (pa28,false))⟩,⟨(some pa37),.q (.bi .gtr pz29 pz36),(some (pa28,false))⟩,(pqq pa38 (.pk pz28 pxT pz37)),(pqq pa12 (.mv pz38))])
def b249_5:CC:=(.reg [(pqq pa6 (.mv (px6 2)))])
def b249_6:CC:=(.seq b249_4 (.cond pz12 (.seq b249_5 .ret) .skip))
def b249_7:CC:=(.seq b249_2 (.cond pz8 (.seq b249_3 .ret) b249_6))
def b249_8:CC:=(.reg [(pqq pa39 (.mv pz1)),(pqq pa7 (.mv pz39))])
def b249_9:CC:=(.reg [(pqq pa40 (.mv pz7)),(pqq pa41 (.mv pz1)),(pqq pa42 (.mv pz2)),(pqq pa43 (.bi .add pz41 pz42)),(pqq pa44 (.bi .lss pz40 pz43))])
def b249_10:CC:=(.seq b249_9 (.cond pz44 .skip (.exit 1)))
def b249_11:CC:=(.dreg 10 [(0,0,(pqq pa47 (.mv pz0))),(1,1,(pqq pa48 (.nck pz47))),(2,3,(pqq pa49 (.fa 0 pz48))),(3,7,(pqq pa50 (.ld1 pz49))),(4,0,(pqq pa51 (.mv pz7))),(5,0,(pqq pa52 (.mv pz0))),(6,0,(pqq pa53 (.mv pz7))),(7,96,(pee pa54 (.call 354 [pz52,pz53]))),(8,255,(pqq pa55 (.iaS 128 pz50 pz51))),(9,511,(pez (.st 128 pz55 pz54)))])
def b249_12:CC:=(.reg [(pqq pa56 (.mv pz0)),(pqq pa57 (.nck pz56)),(pqq pa58 (.fa 1 pz57)),(pqq pa59 (.ld1 pz58)),(pqq pa60 (.mv pz7)),(pez (.del .int pz59 pz60))])
def b249_13:CC:=(.reg [(pqq pa45 (.mv pz7)),(pqq pa46 (.bi .add pz45 (px6 1))),(pqq pa7 (.mv pz46))])
def b249_14:CC:=(.seq b249_10 (.seq (.block 2 (.seq b249_11 b249_12)) b249_13))
def b249_15:CC:=(.reg [(pqq pa6 (.mv (px6 0)))])
def b249_16:CC:=(.seq (.seq b249_8 (.block 1 (.loop b249_14))) (.seq b249_15 .ret))
def c249:CF:= .mk 6 [.t pa6] (.seq b249_1 (.seq (.block 0 b249_7) b249_16))
theorem e249(v0 v1 v2:V):argTr 6 [v0,v1,v2]=(.n (.n sk4 (some v1) sk4) (some v0) (.n sk4 (some v2) sk4)):=rfl
def B249:=ai @e249 (ai (wu b249_1.eq_1) (ai (wu b249_2.eq_1) (ai (wu b249_3.eq_1) (ai (wu b249_4.eq_1) (ai (wu b249_5.eq_1) (ai (wu b249_6.eq_1) (ai (wu b249_7.eq_1) (ai (wu b249_8.eq_1) (ai (wu b249_9.eq_1) (ai (wu b249_10.eq_1) (ai (wu b249_11.eq_1) (ai (wu b249_12.eq_1) (ai (wu b249_13.eq_1) (ai (wu b249_14.eq_1) (ai (wu b249_15.eq_1) (wu b249_16.eq_1))))))))))))))))
def FI(F:RO)(M:Mem)(c db fb pb n k fty:Nat)(ex str:Bool)(fd:List V)(ft:T)(vk:List V)(e:V×V×Nat)(clk i:Nat)(M1:Mem):Prop:=
 Okm F M1 (c+11*i)∧(∀b,b<c→b≠fb→b≠pb→M1.get b=M.get b)∧
 (∃ft1,M1.get fb=some (.cells fty (n*128) ex 0 str fd ft1)∧ ∀q,cell (n*128) fd ft1 q=if k<i∧k*128≤q∧q<k*128+128 then vk[q-k*128]? else cell (n*128) fd ft q)∧
 M1.get pb=some (.map (if k<i then[]else[e]) clk)
theorem w249(Φ:Nat→Option CF)(h:Φ 249=some c249)(h350:Φ 350=some c350)(h354:Φ 354=some c354){F:RO}{M:Mem}{c db fb pb sb so n fcap el kn k born clk fty:Nat}{ex str:Bool}{fd:List V}{ft:T}{vk:List V}
 (ok:Okm F M c) (hc:db<c∧fb<c∧pb<c∧sb<c) (hne:db≠fb∧db≠pb∧fb≠pb∧sb≠fb∧sb≠pb)
 (l0:load1 F M db 0=some (.l fb 0 n fcap)) (l1:load1 F M db 1=some (.m pb)) (hfb:M.get fb=some (.cells fty (n*128) ex 0 str fd ft)) (hpb:M.get pb=some (.map [(.i .i64 (k:Int),.u sb so 1 el kn,born)] clk))
 (hk:loadN F M sb so 128=some vk) (hkl:vk.length=128) (hk1:allOne vk=true) (hall:∀s,s<n→ ∃vs,loadN F M fb (s*128) 128=some vs∧vs.length=128∧allOne vs=true) (hkn:k<n) (hn:n≤65536):
 Calls Φ F 249 [.p db 0,.i .i64 0,.i .i64 (n:Int)] M c fun r M' c'=>r= .i .i64 0∧c'=c+11*n∧FI F M c db fb pb n k fty ex str fd ft vk (.i .i64 (k:Int),.u sb so 1 el kn,born) clk n M':=by
 refine calls_walk h ?_
 have hn0:0<n:=by omega
 have hc137:Calls Φ F 350 [.p db 0] M c fun r M' c'=>r= .b true∧c'=c∧M'=M:=w350 Φ h350 l0 hn0
 obtain⟨v7,M7,c1007,e1007,rfl,rfl,rfl⟩:=hc137
 have d1:decide ((n:Int)<0)=false:=decide_eq_false (by omega)
 have d2:decide ((n:Int)<0)=false:=decide_eq_false (by omega)
 have q1:biV .sub (.i .i64 (n:Int)) (.i .i64 0)=some (.i .i64 (n:Int)):=by rw[bi_sub];congr 2;rw[Int.sub_zero];exact wrap_i64 (by omega) (by omega)
 have d3:decide ((n:Int)<(n:Int))=false:=decide_eq_false (by omega)
 simp only[WX,Int.reduceLT,B249,v_nck,nckV_p,l0,e1007,d1,q1,d3]
 obtain⟨I,hI⟩:∃I:Nat→St→Prop,∀m s,I m s↔(∃(i:Nat) (u:List (Option V)) (M1:Mem),m=n-i∧i≤n∧s= .mk ((.n (.n (.n (.n (uv3 u 31 15 47) (some (.i .i64 (i:Int))) (uv3 u 39 23 55)) (uO u 3) (uv7 u 35 19 51 11 43 27 59)) (some (.i .i64 0)) (.n (uv7 u 33 17 49 9 41 25 57) (uO u 5) (uv7 u 37 21 53 13 45 29 61))) (some (.p db 0)) (.n (.n (uv7 u 32 16 48 8 40 24 56) (uO u 4) (uv7 u 36 20 52 12 44 28 60)) (some (.i .i64 (n:Int))) (.n (uv7 u 34 18 50 10 42 26 58) (uO u 6) (uv7 u 38 22 54 14 46 30 62))))) [] M1 (c1007+11*i)∧FI F M7 c1007 db fb pb n k fty ex str fd ft vk (.i .i64 (k:Int),.u sb so 1 el kn,born) clk i M1):=⟨fun m s=>_,fun _ _=>Iff.rfl⟩
 refine wp_while I ?_ n _ ((hI _ _).2 ⟨0,[none,none,none,_,_,_,_,none,_,_,_,_,_,_,_,_,_,_,_,_,_,_,_,_,_,_,_,_,_,_,_,_,_,_,_,_,_,_,_,_,_,_,_,_,_,_,_,_,_,_,_,_,_,_,_,_,_,_,_,_,_,_,_],M7,rfl,Nat.zero_le _,rfl,ok,fun b _ _ _=>rfl,⟨ft,hfb,fun q=>by rw[if_neg (by omega)]⟩,by rw[if_neg (by omega)];exact hpb⟩)
 intro m s hIs
 obtain⟨i,u,M1,rfl,hi,rfl,ok1,hold,⟨ft1,hf1,hcell⟩,hp1⟩:=(hI _ _).1 hIs
 clear hIs
 have q8:biV .add (.i .i64 (i:Int)) (.i .i64 1)=some (.i .i64 ((i+1:Nat):Int)):=by rw[i64_add _ _ (by omega) (by omega)];simp
 have q9:biV .add (.i .i64 0) (.i .i64 (n:Int))=some (.i .i64 (n:Int)):=by rw[i64_add _ _ (by omega) (by omega)];simp
 by_cases hlt:i<n
 ·have dlt:decide ((i:Int)<(n:Int))=true:=decide_eq_true (by omega);have k0:load1 F M1 db 0=some (.l fb 0 n fcap):=by rw[load1_fr (hold db hc.1 hne.1 hne.2.1)];exact l0
  have k1:load1 F M1 db 1=some (.m pb):=by rw[load1_fr (hold db hc.1 hne.1 hne.2.1)];exact l1
  have kk:loadN F M1 sb so 128=some vk:=by rw[loadN_fr (hold sb hc.2.2.2 hne.2.2.2.1 hne.2.2.2.2)];exact hk
  obtain⟨vs,hvs,hvl,hv1⟩:=hall i hlt;have hvs':=hvs;rw[loadN_cells hfb]at hvs';have hvc:=(cellsAt_get 128 (i*128) vs hvs').2
  have kv:i≠k→loadN F M1 fb (i*128) 128=some vs:=fun hik=>by
   rw[loadN_cells hf1,←hvs'];refine cellsAt_congr 128 (i*128) fun j hj=>?_;rw[hcell,if_neg (by omega)]
  obtain⟨r0,hr0⟩:∃r0,r0=if i=k then vk else vs:=⟨_,rfl⟩
  have hrl:r0.length=128:=by rw[hr0];split<;>assumption
  have hr1:allOne r0=true:=by rw[hr0];split<;>assumption
  obtain⟨o,ho,hso⟩:∃o,findK .int (.i .i64 (i:Int)) (if k<i then[]else[(V.i .i64 (k:Int),V.u sb so 1 el kn,born)]) 0=some o∧((i=k∧o=some (0,.u sb so 1 el kn))∨(i≠k∧o=none)):=by
   by_cases h1:k<i
   ·rw[if_pos h1];exact⟨none,fk_nil _,.inr ⟨by omega,rfl⟩⟩
   ·rw[if_neg h1];by_cases h2:i=k
    ·subst h2;exact⟨_,fk_hit _ _ _,.inl ⟨rfl,rfl⟩⟩
    ·exact⟨none,fk_miss (by omega) _ _,.inr ⟨h2,rfl⟩⟩
  have hle:i*128+r0.length≤n*128:=by rw[hrl];omega
  simp only[WX,B249,nckV_p,dq_nck,k0,q9,dlt];have okA:Okm F M1 (c1007+(11*i+10)):=⟨fun b hb=>ok1.hiM b (by omega),fun b hb=>ok1.hiF b (by omega),ok1.ap,by have:=ok1.ge;omega⟩
  refine wd_ef _ _ _ _ _ _ _ _ _ _ _ okA ?_;intro F' M' ok' hlk
  have hcall:=w354 Φ h354 (F:=F') (M:=M') (c:=c1007+(11*i+10)) (db:=db) (fb:=fb) (pb:=pb) (n:=n) (fcap:=fcap) (clk:=clk) (s:=i) (o:=o) (r0:=r0) ⟨by omega,by omega,by omega⟩ (by rw[load1_lk hlk];exact k0) (by rw[load1_lk hlk];exact k1) (by rw[hlk,look_some_M hp1]) ho hlt
   (by
    rcases hso with⟨h1,h2⟩|⟨h1,h2⟩
    ·exact .inl ⟨0,sb,so,el,kn,h2,by omega,by rw[loadN_lk hlk,hr0,if_pos h1];exact kk⟩
    ·exact .inr ⟨h2,by rw[loadN_lk hlk,hr0,if_neg h1];exact kv h1⟩) hrl hr1
  refine RTo.mono hcall ?_;rintro v M2 c2 ⟨rfl,rfl,x,rfl⟩;refine⟨(Gr.refl ok').set _ _ (Nat.le_refl _) (Nat.lt_succ_self _) (Nat.le_succ _),?_⟩;intro M3 hg3 h1003;have hf3:M3.get fb=some (.cells fty (n*128) ex 0 str fd ft1):=by rw[hg3.old fb (by omega)];exact hf1
  have hp3:M3.get pb=some (.map (if k<i then[]else[(V.i .i64 (k:Int),V.u sb so 1 el kn,born)]) clk):=by rw[hg3.old pb (by omega)];exact hp1
  have hst:=storeN_of hf3 hle (Nat.zero_le _) hr1;have hia:iaSV 128 (.l fb 0 n fcap) (.i .i64 (i:Int))=some (.p fb (i*128)):=by
   have:=iaS_l 128 fb 0 n fcap i .i64 hlt
   simpa using this
  have k13:load1 F M3 db 1=some (.m pb):=by rw[load1_fr (hg3.old db (by omega))];exact k1
  obtain⟨M4,hM4⟩:∃M4,M4=M3.set fb (.cells fty (n*128) ex 0 str fd (listTr r0 (i*128) ft1)):=⟨_,rfl⟩
  rw[←hM4]at hst;have g4:∀b,b≠fb→M4.get b=M3.get b:=fun b hb=>by rw[hM4,Tr.get_set,if_neg hb]
  have f4:M4.get fb=some (.cells fty (n*128) ex 0 str fd (listTr r0 (i*128) ft1)):=by rw[hM4,Tr.get_set,if_pos rfl]
  have k14:load1 F M4 db 1=some (.m pb):=by rw[load1_fr (g4 db hne.1)];exact k13
  have p4:M4.get pb=some (.map (if k<i then[]else[(V.i .i64 (k:Int),V.u sb so 1 el kn,born)]) clk):=by rw[g4 pb (Ne.symm hne.2.2.1)];exact hp3
  obtain⟨M5,hd5,p5,g5⟩:∃M5,delV (.m pb) (.i .i64 (i:Int)) M4 (c1007+(11*i+10+1))= .k undef M5 (c1007+(11*i+10+1))∧M5.get pb=some (.map (if k<i+1 then[]else[(V.i .i64 (k:Int),V.u sb so 1 el kn,born)]) clk)∧ ∀b,b≠pb→M5.get b=M4.get b:=by
   rcases hso with⟨h1,h2⟩|⟨h1,h2⟩
   ·subst h1;rw[if_neg (Nat.lt_irrefl i)]at p4;exact⟨_,delV_one p4 (fk_hit _ _ _),by rw[if_pos (Nat.lt_succ_self i),Tr.get_set,if_pos rfl],fun b hb=>by rw[Tr.get_set,if_neg hb]⟩
   ·refine⟨M4,delV_none p4 (by rw[ho,h2]),?_,fun _ _=>rfl⟩;rw[p4];by_cases h1003:k<i
    ·rw[if_pos h1003,if_pos (by omega)]
    ·rw[if_neg h1003,if_neg (by omega)]
  have ok3:Okm F M3 (c1007+(11*i+10)+1):=hg3.ok okA;have fr3:roFree M3 F=true:=ok3.free
  have hx4:∀b,M3.get b=none→M4.get b=none:=fun b hb=>by
   by_cases e:b=fb
   ·rw[e,hf3]at hb;cases hb
   ·rw[g4 b e];exact hb
  have hx5:∀b,M3.get b=none→M5.get b=none:=fun b hb=>by
   by_cases e:b=pb
   ·rw[e,hp3]at hb;cases hb
   ·rw[g5 b e];exact hx4 b hb
  have fr4:roFree M4 F=true:=roFree_of M4 F fun b hb=>hx4 b (ok3.ap b hb);have ok5:Okm F M5 (c1007+11*(i+1)):=⟨fun b hb=>hx5 b (ok3.hiM b (by omega)),fun b hb=>ok3.hiF b (by omega),fun b hb=>hx5 b (ok3.ap b hb),by have:=ok3.ge;omega⟩
  simp only[WX,Nat.reducePow,Nat.reduceDiv,Nat.reduceMod,Nat.reduceBEq,Nat.reduceAdd,wd_e1,B249,v_nck,nckV_p,hia,hst,hrl,fr4,k14,x_del_eq,hd5,q8];refine⟨n-(i+1),by omega,(hI _ _).2 ⟨i+1,[none,none,none,_,_,_,_,none,_,_,_,_,_,_,_,_,_,_,_,_,_,_,_,_,_,_,_,_,_,_,_,_,_,_,_,_,_,_,_,_,_,_,_,_,_,_,_,_,_,_,_,_,_,_,_,_,_,_,_,_,_,_,_],M5,rfl,by omega,rfl,ok5,?_,⟨_,by rw[g5 fb hne.2.2.1];exact f4,?_⟩,p5⟩⟩
  ·intro b hb h1 h2;rw[g5 b h2,g4 b h1,hg3.old b (by omega)];exact hold b hb h1 h2
  ·intro q;rw[cell_listTr _ _ _ _ _ hle,hrl];by_cases hq:i*128≤q∧q<i*128+128
   ·rw[if_pos hq];by_cases hik:i=k
    ·subst hik;rw[if_pos ⟨Nat.lt_succ_self i,hq⟩,hr0,if_pos rfl]
    ·rw[if_neg (by omega),hr0,if_neg hik];have hj:q-i*128<vs.length:=by omega
     rw[List.getElem?_eq_getElem hj];have:=hvc (q-i*128) _ (List.getElem?_eq_getElem hj);rw[show i*128+(q-i*128)=q by omega]at this;exact this.symm
   ·rw[if_neg hq,hcell];by_cases h1:k<i∧k*128≤q∧q<k*128+128
    ·rw[if_pos h1,if_pos (by omega)]
    ·rw[if_neg h1,if_neg (by
      intro h2;by_cases e:k=i
      ·subst e;exact hq h2.2
      ·exact h1 ⟨by omega,h2.2⟩)]
 ·obtain rfl:i=n:=by omega
  have dlt:decide ((i:Int)<(i:Int))=false:=decide_eq_false (by omega);simp only[WX,B249,q9,dlt];exact⟨ok1,hold,⟨ft1,hf1,hcell⟩,hp1⟩
noncomputable section
def oOne:Option V→Bool
 |some v=>isOne v
 |none=>true
def trOne:T→Bool
 | .e=>true
 | .n l v r=>trOne l&&(oOne v&&trOne r)
def nbq(a b:Nat):Bool:=notB (Nat.beq a b)
def flN(M:Mem)(ct db fb pb sb so k n sz clk fty:Nat)(ex str:Bool)(fd:List V)(ft:T)(ovk:Option (List V)):RC:=
 match ovk with
 |some vk=>
  bif (nbq db fb&&(nbq db pb&&(nbq fb pb&&(nbq sb fb&&nbq sb pb))))&&((Nat.beq sz (n*128)&&(Nat.blt k n&&Nat.ble n 65536))&&((allOne fd&&Nat.blt 0 fd.length)&&(trOne ft&&allOne vk)))then
   ((M.set fb (.cells fty sz ex 0 str fd (listTr vk (k*128) ft))).set pb (.map [] clk)).force fun N=>fN (ct+11*n) fun c'=> .k (.i .i64 (.ofNat 0)) N c'
  else .f
 |none=> .f
def flM(F:RO)(M:Mem)(ct db fb pb n:Nat)(o1 o2:Option Blk):RC:=
 match o1,o2 with
 |some (.cells fty sz ex 0 str fd ft),some (.map [(.i .i64 (.ofNat k),.u sb so 1 el kn,born)] clk)=>flN M ct db fb pb sb so k n sz clk fty ex str fd ft (loadN F M sb so 128)
 |_,_=> .f
def flL(F:RO)(M:Mem)(ct db n:Nat)(o1 o2:Option V):RC:=
 match o1,o2 with
 |some (.l fb 0 n' cap),some (.m pb)=>bif Nat.beq n' n then flM F M ct db fb pb n (M.get fb) (M.get pb)else .f
 |_,_=> .f
def flushO(F:RO)(args:List V)(M:Mem)(ct:Nat):RC:=
 match args with
 |[.p db 0,.i .i64 (.ofNat 0),.i .i64 (.ofNat n)]=>flL F M ct db n (load1 F M db 0) (load1 F M db 1)
 |_=> .f
end
theorem nbq_ne{a b:Nat}(h:nbq a b=true):a≠b:=by
 intro e
 subst e
 unfold nbq at h
 rw[Nat.beq_refl]at h;cases h
theorem trOne_get:∀{t:T},trOne t=true→ ∀q v,t.get q=some v→isOne v=true:=by
 intro t
 induction t with
 |e=>intro _ q v h;cases h
 |n l o r ihl ihr=>
  intro h q v hq;obtain⟨h1,h2⟩:=an2 (show(trOne l&&(oOne o&&trOne r))=true from h);obtain⟨h2,h1003⟩:=an2 h2;rw[Tr.get_n]at hq;split at hq
  ·subst hq;exact h2
  ·split at hq
   ·exact ihr h1003 _ v hq
   ·exact ihl h1 _ v hq
theorem cellsAt_all{n:Nat}{d:List V}{t:T}:∀(m o:Nat),(∀j,j<m→ ∃v,cell n d t (o+j)=some v∧isOne v=true)→ ∃vs,cellsAt n d t m o=some vs∧vs.length=m∧allOne vs=true
 |0,o,_=>⟨[],rfl,rfl,rfl⟩
 |m+1,o,h=>by
  obtain⟨v,h1,h2⟩:=h 0 (by omega);rw[Nat.add_zero]at h1
  obtain⟨vs,h1003,h1004,h1005⟩:=cellsAt_all m (o+1) fun j hj=>by
   have:=h (j+1) (by omega);rw[show o+1+j=o+(j+1) by omega];exact this
  exact⟨v::vs,by simp only[cellsAt_succ,h1,h1003],by rw[List.length_cons,h1004],by rw[allOne_cons,h2,h1005];rfl⟩
theorem cell_one{n:Nat}{d:List V}{t:T}(hd:allOne d=true)(hl:0<d.length)(ht:trOne t=true){q:Nat}(hq:q<n):∃v,cell n d t q=some v∧isOne v=true:=by
 rw[cell_eq,if_pos hq]
 cases h:t.get q with
 |some v=>exact⟨v,rfl,trOne_get ht q v h⟩
 |none=>
  have hj:=Nat.mod_lt q hl;exact⟨d[q%d.length],List.getElem?_eq_getElem hj,allOne_mem hd _ (List.getElem_mem hj)⟩
theorem okm_wf{F:RO}{M:Mem}{ct:Nat}{args:List V}(h:Wf F M ct args):Okm F M ct:=by
 refine⟨fun b hb=>?_,fun b hb=>?_,h.ap,h.ge⟩
 ·cases hm:M.get b with
  |none=>rfl
  |some x=>have:=h.lt b x (look_some_M hm);omega
 ·cases hm:roGet F b with
  |none=>rfl
  |some x=>
   have:=h.lt b x (by rw[look_none_M (h.ap b (by rw[hm];rfl))];exact hm);omega
theorem loadN_len{F:RO}{M:Mem}{b o m:Nat}{vs:List V}(h:loadN F M b o m=some vs):vs.length=m:=by
 have h':asCells (look F M b) none (fun n d c=>cellsAt n d c m o)=some vs:=h
 cases hl:look F M b with
 |none=>rw[hl]at h';cases h'
 |some x=>
  rw[hl]at h';cases x with
  |cells ty n ex fz str d t=>exact(cellsAt_get m o vs h').1
  |_=>cases h'
theorem orc_flush{P:Program}(hm:P.follows .mixedOrders=true){Φ:Nat→Option CF}(hΦ:PhiOk P Φ)(h:Φ 249=some c249)(h350:Φ 350=some c350)(h354:Φ 354=some c354):OrcOk P 249 flushO:=by
 refine orc_of_weak hm hΦ ?_
 intro F args M ct v N ct' hg hW
 unfold flushO at hg
 split at hg
 ·rename_i db n;unfold flL at hg;split at hg
  ·rename_i fb n' fcap pb l0 l1;cases hn:Nat.beq n' n with
   |false=>rw[hn]at hg;cases hg
   |true=>
    rw[hn,cond_true]at hg;obtain rfl:=nbeq hn;unfold flM at hg;split at hg
    ·rename_i fty sz ex str fd ft k sb so el kn born clk hfb hpb;unfold flN at hg;split at hg
     ·rename_i vk hk;generalize hb:((nbq db fb&&(nbq db pb&&(nbq fb pb&&(nbq sb fb&&nbq sb pb))))&&((Nat.beq sz (n'*128)&&(Nat.blt k n'&&Nat.ble n' 65536))&&((allOne fd&&Nat.blt 0 fd.length)&&(trOne ft&&allOne vk))))=bb at hg;cases bb with
      |false=>cases hg
      |true=>
       rw[cond_true,Tr.force_eq,fN_eq]at hg;injection hg with e1 e2 e1003
       subst e1 e2 e1003;obtain⟨ha,hb⟩:=an2 hb;obtain⟨pa1,ha⟩:=an2 ha;obtain⟨pa2,ha⟩:=an2 ha;obtain⟨pa3,ha⟩:=an2 ha;obtain⟨pa4,pa5⟩:=an2 ha;obtain⟨hb,hc⟩:=an2 hb;obtain⟨b1,hb⟩:=an2 hb;obtain⟨b2,b1003⟩:=an2 hb;obtain⟨hc,hd⟩:=an2 hc;obtain⟨d1,d2⟩:=an2 hc;obtain⟨d3,d4⟩:=an2 hd;obtain rfl:=nbeq b1;have hkn:k<n':=by rw[bltN]at b2;exact of_decide_eq_true b2
       have hnm:n'≤65536:=by rw[bleN]at b1003;exact of_decide_eq_true b1003
       have hfl:0<fd.length:=by rw[bltN]at d2;exact of_decide_eq_true d2
       have ok:=okm_wf hW;have hdb:db<ct:=hW.args.1;have hfbl:fb<ct:=hW.lt fb _ (look_some_M hfb);have hpbl:pb<ct:=hW.lt pb _ (look_some_M hpb);have hsbl:sb<ct:=by
        cases hs:look F M sb with
        |none=>
         have:loadN F M sb so 128=none:=by
          show asCells (look F M sb) none (fun n d c=>cellsAt n d c 128 so)=none;rw[hs];rfl
         rw[this]at hk;cases hk
        |some x=>exact hW.lt sb x hs
       have hkl:vk.length=128:=loadN_len hk
       have hall:∀s,s<n'→ ∃vs,loadN F M fb (s*128) 128=some vs∧vs.length=128∧allOne vs=true:=fun s hs=>by
        rw[loadN_cells hfb];exact cellsAt_all 128 (s*128) fun j hj=>cell_one d1 hfl d3 (by omega)
       obtain⟨r,N0,c0,hcall,rfl,rfl,okN,hold,⟨ft1,hf1,hcell⟩,hp1⟩:=w249 Φ h h350 h354 ok ⟨hdb,hfbl,hpbl,hsbl⟩ ⟨nbq_ne pa1,nbq_ne pa2,nbq_ne pa3,nbq_ne pa4,nbq_ne pa5⟩ l0 l1 hfb hpb hk hkl d4 hall hkn hnm;refine⟨N0,hcall,?_⟩;intro b blk hb;rw[Tr.get_set]at hb;by_cases e1:b=pb
       ·subst e1;rw[if_pos rfl]at hb;obtain rfl:=Option.some.inj hb;rw[if_pos hkn]at hp1;exact⟨_,hp1,.inl rfl⟩
       ·rw[if_neg e1,Tr.get_set]at hb;by_cases e2:b=fb
        ·subst e2;rw[if_pos rfl]at hb;obtain rfl:=Option.some.inj hb;refine⟨_,hf1,.inr ⟨fty,_,ex,0,str,fd,fd,ft1,_,rfl,rfl,fun q w hq=>?_⟩⟩;rw[cell_listTr _ _ _ _ _ (by rw[hkl];omega),hkl]at hq;rw[hcell];by_cases hq1:k*128≤q∧q<k*128+128
         ·rw[if_pos hq1]at hq;rw[if_pos ⟨hkn,hq1⟩];exact hq
         ·rw[if_neg hq1]at hq;rw[if_neg (fun h=>hq1 h.2)];exact hq
        ·rw[if_neg e2]at hb;exact⟨blk,by rw[hold b (hW.lt b blk (look_some_M hb)) e2 e1];exact hb,.inl rfl⟩
     ·cases hg
    ·cases hg
  ·cases hg
 ·cases hg
def b351_1:CC:=(.reg [(pqq pa3 (.mv pz0)),(pqq pa4 (.eq false .slice true pz3 (.c .l0)))])
def b351_2:CC:=(.seq (.reg [(pqq pa2 (.mv (.c .l0)))]) .ret)
def b351_3:CC:=(.reg [(paa pa5 (.bsl 557 0 128 zr128 [])),(pqq pa6 (.mv pz0)),(pee pa7 (.app 557 128 128 pz5 pz6)),(pqq pa2 (.mv pz7))])
def b351_4:CC:=(.seq (.seq b351_1 (.cond pz4 b351_2 .skip)) (.seq b351_3 .ret))
def b351_5:CC:=(.seq (.reg [(pqq pa2 (.mv (.c .l0)))]) b351_4)
def c351:CF:= .mk 4 [.t pa2] b351_5
theorem e351(v0:V):argTr 4 [v0]=(.n sk3 (some v0) sk3):=rfl
def B351:=ai @e351 (ai (wu b351_1.eq_1) (ai (wu b351_2.eq_1) (ai (wu b351_3.eq_1) (ai (wu b351_4.eq_1) (wu b351_5.eq_1)))))
theorem w351(Φ:Nat→Option CF)(h:Φ 351=some c351){F:RO}{M:Mem}{c fb n cap:Nat}{ns:List (List V)}(ok:Okm F M c)(hs:SlAt F M c 128 (.l fb 0 n cap) ns)(hn:ns.length=n)(h0:ns≠[])(h1:allOne ns.flatten=true)(hr:room n 128=true):
 Calls Φ F 351 [.l fb 0 n cap] M c fun r M' c'=>r= .u (c+1) 0 n 0 n∧c'=c+2∧ ∃x,M'=(M.set c x).set (c+1) (rowU 557 ns.flatten):=by
 refine calls_walk h ?_
 have e1:eqV F M .slice true (.l fb 0 n cap) .l0=some false:=Eq.trans rfl (Eq.refl _)
 simp only[WX,B351,e1]
 have hs0:SlAt F (M.set c (rowD zr128 557 [])) (c+1) 128 (.l c 0 0 0) []:=⟨fun e he=>(by cases he),.inr ⟨c,0,.inl ⟨0,Nat.le_refl _,rfl⟩,Nat.lt_succ_self c,fun k hk=>(by cases hk)⟩⟩
 have hs1:SlAt F (M.set c (rowD zr128 557 [])) (c+1) 128 (.l fb 0 n cap) ns:=SlAt.grow hs ((Gr.refl ok).set c _ (Nat.le_refl _) (Nat.lt_succ_self _) (Nat.le_succ _))
 refine putE_to ((appL_to hs0 rfl (by omega) hs1 h0 h1 (by rw[List.length_nil,Nat.zero_add,hn];exact hr)).mono ?_)
 rintro v' M' c' ⟨rfl,rfl,rfl⟩
 simp only[WX,Nat.reduceAdd,hn]
 exact⟨_,rfl⟩
def chunks(l:List V):Nat→List (List V)
 |0=>[]
 |n+1=>l.take 128::chunks (l.drop 128) n
theorem chunks_len:∀(n:Nat) (l:List V),(chunks l n).length=n
 |0,_=>rfl
 |n+1,l=>by rw[chunks,List.length_cons,chunks_len n]
theorem chunks_flat:∀(n:Nat) (l:List V),l.length=n*128→(chunks l n).flatten=l
 |0,l,h=>by
  obtain rfl:l=[]:=List.eq_nil_of_length_eq_zero (by omega);rfl
 |n+1,l,h=>by
  rw[chunks,List.flatten_cons,chunks_flat n _ (by rw[List.length_drop];omega),List.take_append_drop]
theorem chunks_each:∀(n:Nat) (l:List V),l.length=n*128→ ∀e∈chunks l n,e.length=128
 |0,l,h,e,he=>by cases he
 |n+1,l,h,e,he=>by
  rw[chunks]at he;rcases List.mem_cons.1 he with rfl|he
  ·rw[List.length_take];omega
  ·exact chunks_each n _ (by rw[List.length_drop];omega) e he
noncomputable section
def clM(M:Mem)(ct n cap:Nat)(o:Option Blk):RC:=
 match o with
 |some (.cells ty sz ex fz str fd ft)=>
  bif (Nat.beq sz (n*128)&&(Nat.blt 0 n&&Nat.ble n cap))&&(room n 128&&((allOne fd&&Nat.blt 0 fd.length)&&trOne ft))then
   (M.set (ct+1) (.cells 557 sz false 0 false fd ft)).force fun N=>fN (ct+2) fun c'=>fN (ct+1) fun b=> .k (.u b 0 n 0 n) N c'
  else .f
 |_=> .f
def cloneO(F:RO)(args:List V)(M:Mem)(ct:Nat):RC:=
 match args with
 |[.l fb 0 n cap]=>clM M ct n cap (look F M fb)
 |_=> .f
def isLs:List V→Bool
 |[.l _ 0 _ _]=>true
 |_=>false
end
theorem orc_clone{P:Program}(hm:P.follows .mixedOrders=true){Φ:Nat→Option CF}(hΦ:PhiOk P Φ)(h:Φ 351=some c351):OrcOk P 351 cloneO:=by
 refine orc_of_weak hm hΦ ?_
 intro F args M ct v N ct' hg hW
 unfold cloneO at hg
 split at hg
 ·rename_i fb n cap;generalize hl:look F M fb=ol at hg;unfold clM at hg;split at hg
  ·rename_i ty sz ex fz str fd ft;generalize hb:((Nat.beq sz (n*128)&&(Nat.blt 0 n&&Nat.ble n cap))&&(room n 128&&((allOne fd&&Nat.blt 0 fd.length)&&trOne ft)))=bb at hg;cases bb with
   |false=>cases hg
   |true=>
    rw[cond_true,Tr.force_eq,fN_eq,fN_eq]at hg;injection hg with e1 e2 e1003
    subst e1 e2 e1003;obtain⟨ha,hb⟩:=an2 hb;obtain⟨pa1,ha⟩:=an2 ha;obtain⟨pa2,pa3⟩:=an2 ha;obtain⟨b1,hb⟩:=an2 hb;obtain⟨hb,b1004⟩:=an2 hb;obtain⟨b2,b1003⟩:=an2 hb;obtain rfl:=nbeq pa1;have hn0:0<n:=by rw[bltN]at pa2;exact of_decide_eq_true pa2
    have hncap:n≤cap:=by rw[bleN]at pa3;exact of_decide_eq_true pa3
    have hfl:0<fd.length:=by rw[bltN]at b1003;exact of_decide_eq_true b1003
    have ok:=okm_wf hW
    obtain⟨vs,h1003,h1004,h1005⟩:=cellsAt_all (d:=fd) (t:=ft) (n:=n*128) (n*128) 0 fun j hj=>by
     rw[Nat.zero_add];exact cell_one b2 hfl b1004 hj
    have hget:=(cellsAt_get _ _ _ h1003).2
    have hcell:∀q,q<n*128→cell (n*128) fd ft q=vs[q]?:=fun q hq=>by
     have hq':q<vs.length:=by omega
     have:=hget q _ (List.getElem?_eq_getElem hq');rw[Nat.zero_add]at this;rw[this,List.getElem?_eq_getElem hq']
    have hfb:fb<ct:=hW.lt fb _ hl;have hs:SlAt F M ct 128 (.l fb 0 n cap) (chunks vs n):=by
     refine⟨chunks_each n vs h1004,.inr ⟨fb,0,.inl ⟨cap,by rw[chunks_len];exact hncap,by rw[chunks_len]⟩,hfb,?_⟩⟩;rw[chunks_flat n vs h1004];intro q hq;rw[Nat.zero_add];show asCells (look F M fb) none (fun n d c=>cell n d c q)=_;rw[hl];exact hcell q (by omega)
    obtain⟨r,N0,c0,hcall,rfl,rfl,x,rfl⟩:=w351 Φ h ok hs (chunks_len n vs) (by
     intro e;have:=chunks_len n vs;rw[e]at this;simp at this;omega) (by rw[chunks_flat n vs h1004];exact h1005) b1
    refine⟨_,hcall,?_⟩;intro b blk hb;rw[chunks_flat n vs h1004];rw[Tr.get_set]at hb;by_cases e1:b=ct+1
    ·subst e1;rw[if_pos rfl]at hb;obtain rfl:=Option.some.inj hb;refine⟨_,by rw[Tr.get_set,if_pos rfl],.inr ⟨557,n*128,false,0,false,[],fd,rowT vs,ft,?_,rfl,fun q w hq=>?_⟩⟩
     ·unfold rowU;rw[h1004]
     ·have hlt:q<n*128:=by
       rw[cell_eq]at hq;split at hq
       ·assumption
       ·cases hq
      rw[hcell q hlt]at hq;have:=cell_row vs q;rw[h1004]at this;rw[this];exact hq
    ·rw[if_neg e1]at hb;have hb':=hW.lt b blk (look_some_M hb);exact⟨blk,by rw[Tr.get_set,if_neg e1,Tr.get_set,if_neg (by omega)];exact hb,.inl rfl⟩
  ·cases hg
 ·cases hg
def elseL(Φ:Nat→Option CF)(fuel f:Nat)(q:List V→Bool)(g:RO→List V→Mem→Nat→RC):RO→List V→Mem→Nat→RC:=fun F args M ct=>bif q args then g F args M ct else callC (exec Φ fuel) F f args M ct (Φ f)
theorem orc_elseL{P:Program}(hm:P.follows .mixedOrders=true){Φ:Nat→Option CF}(hΦ:PhiOk P Φ){fuel f:Nat}{q:List V→Bool}{g:RO→List V→Mem→Nat→RC}(hg:OrcOk P f g):OrcOk P f (elseL Φ fuel f q g):=by
 intro F args M ct v N ct' h
 unfold elseL at h
 cases hq:q args with
 |true=>
  rw[hq,cond_true]at h;exact hg F args M ct v N ct' h
 |false=>
  rw[hq,cond_false]at h;exact callOk_of (rd:=none) (fn:=0) (F₀:=[]) hΦ (exec_sound hm hΦ fuel) F f args M ct v N ct' h
def iaAV(len sz:Nat)(x i:V):Option V:=(qop (.iaA len sz (.c x) (.c i)) [] .e .e).val
theorem v_iaA{F:RO}(len sz:Nat)(x i:X)(M:Mem)(t:T):(qop (.iaA len sz x i) F M t).val=iaAV len sz (x.ev t) (i.ev t):=Eq.trans rfl (Eq.refl _)
theorem iaA_p(len sz b o n:Nat)(k:IntKind)(h:n<len):iaAV len sz (.p b o) (.i k (n:Int))=some (.p b (o+n*sz)):=by
 show(q_ia sz b o len (n:Int)).val=_
 show(Bool.rec (motive:=fun _=>QR) .f (mkP b (Nat.add o (Nat.mul n sz))) (Nat.blt n len)).val=_
 rw[bb,bltN,if_pos (by simpa using h)]
 unfold mkP
 rw[fN_eq];rfl
theorem dq_iaA{F:RO}(len sz:Nat)(x i:X)(M:Mem)(t:T){b o:Nat}{k:IntKind}{n:Int}(hx:x.ev t= .p b o)(hi:i.ev t= .i k n):dqR (.iaA len sz x i) F M t=oV (iaAV len sz (.p b o) (.i k n)):=by
 have q:∀F' M',qop (.iaA len sz x i) F' M' t=q_ia sz b o len n:=by
  intro F' M';show(onP (x.ev t) QR.f fun b o=>onI (i.ev t) QR.f fun _ i=>q_ia sz b o len i)=_;rw[hx,hi];rfl
 have e:∀q:QR,(q= .f∨ ∃x,q= .v x)→q=oV q.val:=fun q h=>qv_oV h
 have hq:q_ia sz b o len n= .f∨ ∃x,q_ia sz b o len n= .v x:=by
  cases n with
  |ofNat n=>
   show(Bool.rec (motive:=fun _=>QR) .f (mkP b (Nat.add o (Nat.mul n sz))) (Nat.blt n len))= .f∨ ∃x,(Bool.rec (motive:=fun _=>QR) .f (mkP b (Nat.add o (Nat.mul n sz))) (Nat.blt n len))= .v x;cases Nat.blt n len
   ·exact .inl rfl
   ·refine .inr ⟨.p b (o+n*sz),?_⟩;show mkP b (Nat.add o (Nat.mul n sz))=_;unfold mkP;rw[fN_eq];rfl
  |negSucc n=>exact .inl rfl
 refine(dq_of ?_).trans ?_
 ·intro F' M';rw[q F' M',q [] .e];exact e _ hq
 ·rw[q F M];show _=oV (q_ia sz b o len n).val;rfl
def iaAQ(len sz:Nat)(X I:V)(F:RO)(M:Mem):QR:=dqR (.iaA len sz (.c X) (.c I)) F M .e
theorem dq_iaA0{F:RO}(len sz:Nat)(x i:X)(M:Mem)(t:T):dqR (.iaA len sz x i) F M t=iaAQ len sz (x.ev t) (i.ev t) F M:=Eq.trans rfl (Eq.refl _)
theorem iaAQ_p{F:RO}(len sz b o:Nat)(k:IntKind)(n:Int)(M:Mem):iaAQ len sz (.p b o) (.i k n) F M=oV (iaAV len sz (.p b o) (.i k n)):=dq_iaA len sz _ _ M .e rfl rfl
def sg(w:Int):Int:=IntKind.i64.wrap (IntKind.i32.wrap w)
def b17_1:CC:=(.reg [(pqq pa3 (.mv pz0)),(pqq pa4 (.ci .i32 pz3)),(pqq pa5 (.ci .i64 pz4)),(pqq pa2 (.mv pz5))])
def b17_2:CC:=(.seq (.reg [(pqq pa2 (.mv (px6 0)))]) (.seq b17_1 .ret))
def c17:CF:= .mk 3 [.t pa2] b17_2
theorem e17(v0:V):argTr 3 [v0]=(.n sk2 (some v0) sk2):=rfl
def B17:=ai @e17 (ai (wu b17_1.eq_1) (wu b17_2.eq_1))
def b9_1:CC:=(.reg [(pqq pa3 (.mv pz0)),(pqq pa4 (.ci .i32 pz3)),(pqq pa5 (.ci .i64 pz4)),(pqq pa2 (.mv pz5))])
def b9_2:CC:=(.seq (.reg [(pqq pa2 (.mv (px6 0)))]) (.seq b9_1 .ret))
def c9:CF:= .mk 3 [.t pa2] b9_2
theorem e9(v0:V):argTr 3 [v0]=(.n sk2 (some v0) sk2):=rfl
def B9:=ai @e9 (ai (wu b9_1.eq_1) (wu b9_2.eq_1))
theorem w17(Φ:Nat→Option CF)(h:Φ 17=some c17)(w:Int)(ct:Nat):To Φ 17 [.i .u32 w] ct (.i .i64 (sg w)):=by
 refine to_walk h ?_
 simp only[WX,B17]
 rfl
theorem w9(Φ:Nat→Option CF)(h:Φ 9=some c9)(w:Int)(ct:Nat):To Φ 9 [.i .u32 w] ct (.i .i64 (sg w)):=by
 refine to_walk h ?_
 simp only[WX,B9]
 rfl
def hsg:List V→Option V
 |[.i .u32 w]=>some (.i .i64 (sg w))
 |_=>none
theorem hsg_eq(w:Int):hsg [.i .u32 w]=some (.i .i64 (sg w)):=rfl
end
end Go.Proofs.YtffgjigcdmcibaaGreatDoor.Ev
