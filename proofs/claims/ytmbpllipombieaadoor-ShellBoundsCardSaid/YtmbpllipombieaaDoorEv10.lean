/- What is proved here: pieces of the evaluator's soundness: if the evaluator comes to a value, the model's run comes to it, for every world and tape; no conditions beyond the hypotheses of each theorem. -/
import Derived.Test.YtmbpllipombieaaDoorEv9
set_option linter.unusedSimpArgs false
set_option linter.unusedVariables false
set_option linter.defProp false
set_option maxRecDepth 10000
set_option maxHeartbeats 16000000
namespace Go.Proofs.YtmbpllipombieaaDoor.Ev
open Go
noncomputable section
def ZW(M:Mem)(lo hi:Nat)(v:V):Prop:=∃n,n≤9223372036854775807∧Pi M lo hi 36 1 v n
def SC:CC:=(.reg [(qq a3 (.mv z0)),(qq a2 (.mv z3))])
def SD:CC:=(.seq (.reg [(qq a2 (.mv (x6 0)))]) (.seq SC .ret))
def c13:CF:= .mk 3 [.t a2] SD
theorem e13(v0:V):bA 3 [v0]=(.n nI (some v0) nI):=rfl
def B13:=ai @e13 (ai (wu SC.eq_1) (wu SD.eq_1))
theorem yH(Φ:Nat→Option CF)(h:Φ 13=some c13){F:RO}{M:Mem}{c:Nat}(x:Int):Calls Φ F 13 [.i .i64 x] M c fun r M' c'=>r= .i .i64 x∧M'=M∧c'=c:=by
 refine aM h ?_
 simp only[WX,B13]
def Qj(c:UInt8):Bool:=decide (c=32)||decide (c=38)||decide (c=124)||decide (c=60)||decide (c=62)||decide (c=59)||decide (c=33)
theorem D0{c:UInt8}{t:List UInt8}(h:cP (c::t)≠[]):Qj c=true:=by
 have one:(c=124∨c=60∨c=62∨c=59∨c=33)→Qj c=true:=by
  rintro(h1|h1|h1|h1|h1)<;>subst h1<;>rfl
 cases t with
 |nil=>
  rw[cP]at h;by_cases h1:c=124∨c=60∨c=62∨c=59∨c=33
  ·exact one h1
  ·rw[ab h1]at h;exact absurd rfl h
 |cons b t=>
  rw[cP]at h;by_cases h0:(c=62∧b=62)∨(c=38∧b=38)∨(c=124∧b=124)
  ·rcases h0 with⟨h1,_⟩|⟨h1,_⟩|⟨h1,_⟩<;>subst h1<;>rfl
  ·rw[ab h0]at h;by_cases h1:c=124∨c=60∨c=62∨c=59∨c=33
   ·exact one h1
   ·rw[ab h1]at h;exact absurd rfl h
theorem aR8{c:UInt8}{t:List UInt8}(h:Qj c=true):c=32∨cP (c::t)≠[]∨c=38:=by
 unfold Qj at h
 simp only[Bool.or_eq_true,decide_eq_true_eq]at h
 rcases h with(((((h|h)|h)|h)|h)|h)|h
 ·exact .inl h
 ·exact .inr (.inr h)
 all_goals
  right;left;cases t with
  |nil=>subst h;decide
  |cons b t=>
   rw[cP];split
   ·simp
   ·subst h;simp
theorem xY(c:UInt8)(t:List UInt8):iW (c::t)=if Qj c=true then none
 else if c=39 then(if(t.drop (qn t)).head?=some 39 then some (some (qn t+1,t.take (qn t),false))else some none)
 else if c=36 then(if t.head?=some 63 then some (some (1,[],true))else some none)
 else if nb c=true then some (some (0,[c],false))else some none:=by
 by_cases h:Qj c=true
 ·rw[ac h,iW,ac (aR8 h)]
 ·rw[ab h,iW,ab];rintro(h1|h1|h1)
  ·subst h1;exact h rfl
  ·exact h (D0 h1)
  ·subst h1;exact h rfl
abbrev rp(n:Nat):List UInt8:=List.replicate n 32
def Bl(r:List UInt8):Prop:=r=[]∨ ∃q,r=32::q
def wdL(s:List UInt8)(n:Nat):List Tk→List UInt8→Nat→List UInt8×Nat
 |[],w,l=>(w,l)
 |t::r,w,l=>wdL s n r (w++((s.take t.1).drop l++rp n)) t.1
def wide(s:List UInt8)(n k:Nat):List UInt8:=rp k++((wdL s n (tk s 0) [] 0).1++(s.drop (wdL s n (tk s 0) [] 0).2++rp k))
theorem MF{c:UInt8}(h:nb c=true):Qj c=false∧c≠39∧c≠36:=by
 refine⟨?_,?_,?_⟩
 ·cases he:Qj c with
  |false=>rfl
  |true=>
   unfold Qj at he;simp only[Bool.or_eq_true,decide_eq_true_eq]at he;rcases he with(((((he|he)|he)|he)|he)|he)|he<;>subst he<;>exact absurd h (by decide)
 ·rintro rfl;exact absurd h (by decide)
 ·rintro rfl;exact absurd h (by decide)
theorem xJ:∀(x:List UInt8) (r:List UInt8) (w:List Pc) (text:List UInt8) (sm:Bool) (n:Nat),(∀c∈x,nb c=true)→x≠[]→jN (x++r) w text sm n=jN r w (text++x) true (n+x.length)
 |[],_,_,_,_,_,_,h=>absurd rfl h
 |c::x,r,w,text,sm,n,h,_=>by
  have hc:=h c (bJ ..);obtain⟨h1,h2,h3⟩:=MF hc;have hs:iW (c::(x++r))=some (some (0,[c],false)):=by
   rw[xY,ab (by rw[h1];exact Bool.false_ne_true),ab h2,ab h3,ac hc]
  show jN (c::(x++r)) w text sm n=_;rw[rC hs];show jN (x++r) w (text++[c]) true (n+1)=_;by_cases hx:x=[]
  ·subst hx;rfl
  ·rw[xJ x r w _ _ _ (fun d hd=>h d (br _ hd)) hx,bM,aw];show jN r w (text++(c::x)) true (n+1+x.length)=_;rw[show n+1+x.length=n+(x.length+1) by omega]
def Sig(ss:List (List UInt8))(R:List T2):Prop:=R=[]∨ ∃t r,R=t::r∧t.1∈ss
def rx(n:Nat):List UInt8:=List.replicate n 120
def sD:List UInt8:=[101,99,104,111]
def nH:List UInt8:=[99,97,116]
theorem Yv{x r:List UInt8}(hx:∀c∈x,nb c=true)(h0:x≠[])(hr:iW r=none):(∀i,tk (x++r) i=(i,[],[(x,false)])::tk r (i+x.length))∧rS (x++r)=rS r:=by
 have hw:jN (x++r) [] [] false 0=some ([(x,false)],x.length):=by
  rw[xJ x r [] [] false 0 hx h0,xI hr];show some (nn [] ([]++x) true,0+x.length)=_;unfold nn;rw[List.nil_append,ac (.inl h0),Nat.zero_add];rfl
 cases x with
 |nil=>exact absurd rfl h0
 |cons c x=>
  obtain⟨h1,h2,h3⟩:=MF (hx c (bJ ..));have hc:c≠32:=by rintro rfl;exact absurd h1 (by decide)
  have hs:cP (c::(x++r))=[]:=by
   rcases hq:cP (c::(x++r))with _|⟨a,q⟩
   ·rfl
   ·have:=D0 (c:=c) (t:=x++r) (by rw[hq];simp);rw[h1]at this;cases this
  have hd:(c::(x++r)).drop (c::x).length=r:=by
   show(c::x++r).drop (c::x).length=r;rw[List.drop_append_of_le_length (ah _),dG];rfl
  refine⟨fun i=>?_,?_⟩
  ·show tk (c::(x++r)) i=_;rw[Yx i hc hs hw (by simp),hd]
  ·show rS (c::(x++r))=_;rw[NJ hc hs hw (by simp),hd]
theorem Yf(n:Nat):∀c∈rx n,nb c=true:=fun c hc=>by rw[(List.mem_replicate.1 hc).2];decide
theorem Ye{n:Nat}(h:0<n):rx n≠[]:=by
 intro e
 have:=congrArg List.length e
 unfold rx at this
 rw[List.length_replicate]at this
 simp only[aL]at this
 omega
def lq(n:Nat)(r:List UInt8):List UInt8:=sD++32::(rx n++r)
theorem qE{n:Nat}(h:0<n){r:List UInt8}(hr:iW r=none):rS (lq n r)=rS r∧dh (lq n r)=([],[(sD,false)])::([],[(rx n,false)])::(tk r (5+(rx n).length)).map (·.2):=by
 obtain⟨h1,h2⟩:=Yv (x:=sD) (r:=32::(rx n++r)) (by decide) (by decide) (by rw[xY,ac (by decide)])
 obtain⟨h3,h4⟩:=Yv (Yf n) (Ye h) hr
 unfold lq dh
 refine⟨by rw[h2,NI,h4],?_⟩
 rw[h1,List.map_cons,Yw,h3,List.map_cons]
 rfl
theorem kM(n:Nat)(r:List UInt8):(lq n r).length=n+5+r.length:=by
 unfold lq rx
 simp only[aO,aw,List.length_replicate,show sD.length=4 from rfl]
 omega
def E2(w:List Pc):hU:=[[(sD,false)],w]
theorem LF(n:Nat):eN [(rx n,false)]=true:=by
 have:(rx n).all mw=true:=by
  rw[List.all_eq_true];intro c hc;rw[(List.mem_replicate.1 hc).2];decide
 unfold eN pz E5 pz
 simp[this]
theorem XL{w:List Pc}(hw:eN w=true)(n:Nat):yD n false (E2 w)=true:=by
 have h1:∃x,kn (zL (E2 w))=some x∧x.1=0∧x.2.1= -1:=⟨_,rfl,rfl,rfl⟩
 obtain⟨x,h1,h2,h3⟩:=h1
 have h4:stS (E2 w)=false:=rfl
 have h5:Q6 (E2 w)=false:=rfl
 have h6:eN [(sD,false)]=true:=by decide
 have h7:(E2 w).all eN=true:=by unfold E2;simp[h6,hw]
 unfold yD oU
 rw[h1]
 dsimp only
 rw[h4,h5,h2,h3,h7]
 rfl
theorem Oo{n:Nat}(h:0<n):dm [(rx n,false)]=rx n:=by
 show xr (rx n,false)++[]=rx n
 rw[bP]
 unfold xr
 rw[ab (by simp),ac]
 have:(rx n).all nb=true:=by rw[List.all_eq_true];exact Yf n
 simp[this,Ye h]
def L1(n:Nat):List fm:=[⟨0,false,[],[],false,[E2 [(rx n,false)]]⟩]
def L2(n:Nat):List fm:=[⟨0,false,[],[],false,[E2 [(rx n,false)]]⟩,⟨1,false,[],[],false,[[[(nH,false)]]]⟩]
theorem aE1(n:Nat):dJ 0 (L1 n)=true:=by
 have h:=XL (LF n) 1
 unfold L1 dJ kl dJ
 simp[h,jOk,hasW]
theorem aE2(n:Nat):dJ 0 (L2 n)=true:=by
 have h:=XL (LF n) 1
 have h2:(jOk 1 1&&kl ⟨1,false,[],[],false,[[[(nH,false)]]]⟩)=true:=by decide
 unfold L2 dJ dJ dJ
 rw[h2]
 unfold kl
 simp[h,jOk,hasW]
theorem Zq{n:Nat}(h:0<n):(dM [32] (nJ (L1 n))).length=n+5:=by
 have e:nJ (L1 n)=[dm [(sD,false)],dm [(rx n,false)]]:=rfl
 rw[e,Oo h]
 have e2:dm [(sD,false)]=sD:=rfl
 rw[e2]
 unfold dM rx
 simp[sD]
theorem yL{n:Nat}(h:0<n):(dM [32] (nJ (L2 n))).length=n+11:=by
 have e:nJ (L2 n)=[dm [(sD,false)],dm [(rx n,false)],[59],nH]:=rfl
 rw[e,Oo h]
 have e2:dm [(sD,false)]=sD:=rfl
 rw[e2]
 unfold dM rx
 simp[sD,nH]
theorem rt{s:List UInt8}{ts:List T2}{l:List fm}{b:Bool}{rest:List T2}(h1:s.length≤4096)(h2:rS s=true)(h3:dh s=ts)(h4:dA 0 ts=(l,b,rest)):(kZ s).2=if(b||(decide (0<rest.length)|| !pN l))=true then 4 else 0:=by
 unfold kZ
 rw[ab (by omega),ab (by rw[h2];decide),h3,h4]
 dsimp only
 split<;>rfl
theorem XK{l:List fm}(h:4096<(dM [32] (nJ l)).length):pN l=false:=by
 unfold pN
 rw[aj h]
 simp
theorem aY0{n:Nat}(h:0<n)(hl:n+5≤4096):(kZ (lq n [])).2=0:=by
 obtain⟨h1,h2⟩:=qE h (r:=[]) rfl
 rw[rt (l:=L1 n) (b:=false) (rest:=[]) (by rw[kM,aL];omega) (h1.trans rfl) h2 rfl]
 have hc:pN (L1 n)=true:=by
  unfold pN;rw[aE1,Zq h,ak (show¬(4096<n+5) by omega)];rfl
 rw[hc];rfl
theorem aY1{s:List UInt8}(h:4096<s.length):(kZ s).2=3:=by unfold kZ;rw[ac h]
theorem aY2{n:Nat}(h:0<n)(hl:n+6≤4096):(kZ (lq n [124])).2=4:=by
 obtain⟨h1,h2⟩:=qE h (r:=[124]) rfl
 rw[rt (l:=[⟨0,false,[],[],false,[E2 [(rx n,false)],[]]⟩]) (b:=false) (rest:=[]) (by rw[kM];simp only[aw,aL];omega) (h1.trans rfl) h2 rfl]
 have hc:pN [⟨0,false,[],[],false,[E2 [(rx n,false)],[]]⟩]=false:=by
  have h:yD 2 false []=false:=by decide
  unfold pN dJ kl;simp[h,hasW]
 rw[hc];rfl
theorem aY3{n:Nat}(h:0<n)(hl:n+9≤4096)(h2:4096<n+11):(kZ (lq n [59,99,97,116])).2=4:=by
 obtain⟨h1,h3⟩:=qE h (r:=[59,99,97,116]) rfl
 rw[rt (l:=L2 n) (b:=false) (rest:=[]) (by rw[kM];simp only[aw,aL];omega) (h1.trans rfl) h3 rfl]
 rw[XK (by rw[yL h];exact h2)];rfl
theorem aY4{n:Nat}(h:0<n)(hl:n+10≤4096)(h2:4096<n+11):(kZ (lq n [32,59,99,97,116])).2=4:=by
 obtain⟨h1,h3⟩:=qE h (r:=[32,59,99,97,116]) rfl
 rw[rt (l:=L2 n) (b:=false) (rest:=[]) (by rw[kM];simp only[aw,aL];omega) (h1.trans rfl) h3 rfl]
 rw[XK (by rw[yL h];exact h2)];rfl
theorem aY5{n:Nat}(h:0<n)(hl:n+11≤4096):(kZ (lq n [32,59,99,97,116])).2=0:=by
 obtain⟨h1,h3⟩:=qE h (r:=[32,59,99,97,116]) rfl
 rw[rt (l:=L2 n) (b:=false) (rest:=[]) (by rw[kM];simp only[aw,aL];omega) (h1.trans rfl) h3 rfl]
 have hc:pN (L2 n)=true:=by
  unfold pN;rw[aE2,yL h,ak (show¬(4096<n+11) by omega)];rfl
 rw[hc];rfl
def sj(a b:List UInt8):Nat→List UInt8
 |0=>a
 |n+1=>sj a b n++b
def jF:List UInt8:=[116,114,117,101]
theorem aX6:(kZ (sj jF (59::jF) 15)).2=0:=by decide+kernel
theorem aX7:(kZ (sj jF (59::jF) 15++(59::jF))).2=4:=by decide+kernel
theorem aX8:(kZ (sj nH (124::nH) 5)).2=0:=by decide+kernel
theorem aX9:(kZ (sj nH (124::nH) 5++(124::nH))).2=4:=by decide+kernel
theorem Ct:kZ [101,99,104,111,32,36,63,39,39]=kZ [101,99,104,111,32,36,63]∧(kZ [101,99,104,111,32,36,63]).2=0:=by decide+kernel
abbrev b13(u:List (Option V))(x0 x3 x4:V):T:=(.n (.n (.n (ek u 15 7 23) (some x3) (ek u 19 11 27)) (uO u 1) (aJ u 17 9 25 5 21 13 29)) (some x0) (.n (.n (ek u 16 8 24) (some x4) (ek u 20 12 28)) (uO u 2) (aJ u 18 10 26 6 22 14 30)))
def SQ:CC:=(.reg [(qq a5 (.mv z0)),(aa a6 (.mks 5 1 1 [(.i .u8 0)] z5 z5)),(qq a3 (.mv z6))])
def ST:CC:=(.reg [(qq a4 (.mv (x6 0)))])
def SU:CC:=(.reg [(qq a7 (.mv z4)),(qq a8 (.mv z0)),(qq a9 (.bi .lss z7 z8))])
def SV:CC:=(.reg [(qq fF (.mv z3)),(qq eO (.mv z4)),(qq gp (.iaS 1 eP ej)),(ez (.st 1 i9 (.c (.i .u8 120))))])
def SW:CC:=(.reg [(qq dV (.mv z4)),(qq fo (.bi .add fT (x6 1))),(qq a4 (.mv ec))])
def SX:CC:=(.seq (.seq SU (.cond z9 .skip (.exit 0))) (.seq (.block 1 SV) SW))
def SY:CC:=(.reg [(qq eC (.mv z3)),(qq i7 (.bs i5)),(qq a2 (.mv j3))])
def SZ:CC:=(.seq (.seq ST (.block 0 (.loop SX))) (.seq SY .ret))
def T0:CC:=(.seq (.reg [(qq a2 (.mv (.c (.s 0 0))))]) (.seq SQ SZ))
def c24:CF:= .mk 5 [.t a2] T0
theorem e24(v0:V):bA 5 [v0]=(.n j1 (some v0) j1):=rfl
def B24:=ai @e24 (ai (wu SQ.eq_1) (ai (wu ST.eq_1) (ai (wu SU.eq_1) (ai (wu SV.eq_1) (ai (wu SW.eq_1) (ai (wu SX.eq_1) (ai (wu SY.eq_1) (ai (wu SZ.eq_1) (wu T0.eq_1)))))))))
def T1:CC:=(.reg [(aa a3 (.bx 39 6 z0)),(qq a6 (.mv xF))])
def T3:CC:=(.reg [(qq a8 (.mv z2)),(qq a9 (.mv z8)),(aH dV (.fa 0 z3) a9),(aH fo (.ld1 fT) a9),(aH fF (.bi .eql ec (x6 1)) a9),(qq eO (.pk z9 xT eP)),(qq a7 (.mv ej))])
def T4:CC:=(.reg [(qq a6 (.mv xT))])
def T5:CC:=(.reg [(qq eC (.fa 0 z3)),(qq i7 (.ld1 i5)),(qq fY (.bi .eql j3 (x6 2))),(qq gp (.mv gy))])
def T6:CC:=(.reg [(qq gG (.mv z1)),(qq kG (.bi .eql ju (x6 0))),(qq a6 (.mv mA))])
def T7:CC:=(.seq T5 (.cond i9 (.seq T6 .ret) .skip))
def T8:CC:=(.seq T3 (.cond z7 (.seq T4 .ret) T7))
def T9:CC:=(.reg [(qq jI (.fa 0 z3)),(qq i4 (.ld1 mB)),(qq lw (.bi .eql nK (x6 3))),(qq kH (.mv nL)),(aR jJ (.mv z1) kH),(aR mq (.bi .neq oJ (x6 0)) kH),(qq lL (.pk mC qh xF)),(qq a6 (.mv pL))])
def c25:CF:= .mk 5 [.t a6] (.seq T1 (.seq (.block 0 T8) (.seq T9 .ret)))
theorem e25(v0 v1 v2:V):bA 5 [v0,v1,v2]=(.n (.n ir (some v1) ir) (some v0) (.n ir (some v2) ir)):=rfl
def B25:=ai @e25 (ai (wu T1.eq_1) (ai (wu T3.eq_1) (ai (wu T4.eq_1) (ai (wu T5.eq_1) (ai (wu T6.eq_1) (ai (wu T7.eq_1) (ai (wu T8.eq_1) (wu T9.eq_1))))))))
theorem jn(n:Nat):(rx n).length=n:=by unfold rx;rw[List.length_replicate]
theorem t24(Φ:Nat→Option CF)(h:Φ 24=some c24)(m:Nat)(h0:0<m)(hm:m≤1000000)(ct:Nat):To Φ 24 [.i .i64 (m:Int)] ct (sV (rx m)):=by
 refine gn h ?_
 have hmk:=af0 5 1 1 [.i .u8 0] .i64 .i64 m m ct (ah _) (by omega)
 rw[Nat.mul_one]at hmk
 simp only[WX,B24,hmk]
 obtain⟨I,hI⟩:∃I:Nat→St→Prop,∀n s',I n s'↔(∃(i:Nat) (t:Ev.T) (u:List (Option V)),n=m-i∧i≤m∧s'= .mk ((b13 u (.i .i64 (m:Int)) (.l ct 0 m m) (.i .i64 (i:Int)))) [] ((Tr.e:Mem).set ct (.cells 5 m true 0 false [.i .u8 0] t)) (ct+1)∧ ∀k,k<m→cell m [V.i .u8 0] t k=some (if k<i then bV 120 else .i .u8 0)):=⟨fun n s'=>_,fun _ _=>Iff.rfl⟩
 refine bS I ?_ m _ ((hI _ _).2 ⟨0,.e,(G1 (X2 (G2 (ce (X8 (X2 [])))))),rfl,az _,rfl,fun k hk=>by rw[cw,ac hk,ab (by omega)];show[V.i .u8 0][k%1]?=_;rw[Nat.mod_one];rfl⟩)
 intro n s' hIs
 obtain⟨i,t,u,rfl,hi,rfl,hc⟩:=(hI _ _).1 hIs
 clear hIs
 have q8:cZ .add (.i .i64 (i:Int)) (.i .i64 1)=some (.i .i64 ((i+1:Nat):Int)):=by rw[bF _ _ (by omega) (by omega)];simp
 by_cases hlt:i<m
 ·have d1:decide ((i:Int)<(m:Int))=true:=aj (by omega);have hia:=LQ 1 ct 0 m m i .i64 hlt;rw[Nat.zero_add,Nat.mul_one]at hia;have st:=oD (M:=(Tr.e:Mem).set ct (.cells 5 m true 0 false [.i .u8 0] t)) (b:=ct) (o:=i) (vs:=[V.i .u8 120]) (am _ _ _) (by simp only[aw,aL];omega) (az _) rfl;rw[l8]at st;simp only[WX,B24,d1,hia,st,q8];refine⟨m-(i+1),by omega,(hI _ _).2 ⟨i+1,_,(G1 (X2 (G2 (ce (X8 (X2 [])))))),rfl,by omega,rfl,fun k hk=>?_⟩⟩;have hk':=hc k hk;rw[cw,ac hk]at hk'⊢;rw[cN];simp only[aw,aL];by_cases hki:k=i
  ·subst hki;rw[ac (by omega),ac (by omega),Nat.sub_self];rfl
  ·rw[ab (by omega)];refine Eq.trans hk' ?_;by_cases hk2:k<i
   ·rw[ac hk2,ac (by omega)]
   ·rw[ab hk2,ab (by omega)]
 ·obtain rfl:i=m:=by omega
  have d1:decide ((i:Int)<(i:Int))=false:=ak (by omega);have hB:SlB [] ((Tr.e:Mem).set ct (.cells 5 i true 0 false [.i .u8 0] t)) (ct+1) (.l ct 0 i i) (rx i):=by
   refine⟨fun e he=>?_,.inr ⟨ct,0,.inl ⟨i,by rw[List.length_map,jn];exact ah _,by rw[List.length_map,jn]⟩,aA _,fun k hk=>?_⟩⟩
   ·obtain⟨b,_,rfl⟩:=List.mem_map.1 he;rfl
   ·rw[eG,List.length_map]at hk;have hk':k<i:=by unfold rx at hk;rw[List.length_replicate]at hk;exact hk
    have hr:(rx i)[k]?=some 120:=by unfold rx;rw[List.getElem?_replicate,ac hk']
    rw[eG,List.getElem?_map,hr,Nat.zero_add];unfold load1;rw[au (am _ _ _)];show cell i [V.i .u8 0] t k=_;rw[hc k hk',ac hk'];rfl
  have hbs:=KT hB;simp only[WX,B24,d1,hbs]
def h24:List V→Option V
 |[.i .i64 (.ofNat m)]=>if 0<m∧m≤1000000 then some (sV (rx m))else none
 |_=>none
theorem uS(m:Nat)(h0:0<m)(hm:m≤1000000):h24 [.i .i64 (m:Int)]=some (sV (rx m)):=by
 show(if 0<m∧m≤1000000 then some (sV (rx m))else none)=_
 rw[ac ⟨h0,hm⟩]
theorem o24{P:Program}(hm:P.follows .mixedOrders=true){Φ:Nat→Option CF}(hΦ:en P Φ)(h:Φ 24=some c24):dK P 24 (bh h24):=gj hm hΦ (by
 intro args v ct hv hct;unfold h24 at hv;split at hv
 ·rename_i m;split at hv
  ·rename_i hl;obtain rfl:=ae hv;exact⟨trivial,t24 Φ h m hl.1 hl.2 _⟩
  ·cases hv
 ·cases hv)
def vr(j st:Int):Bool:=decide (j=1)||(bif decide (j=2)then decide (st=0)else decide (j=3)&&decide (¬st=0))
theorem w25(Φ:Nat→Option CF)(h:Φ 25=some c25){F:RO}{M:Mem}{c:Nat}(ok:cU F M c)(j st:Int)(nt beh:Bool)(vi vo vc:V)(i1:bD vi=true)(o1:bD vo=true)(v1:bD vc=true):
 Calls Φ F 25 [.g [.i .i64 j,.b nt,vi,vo,.b beh,vc],.i .i64 st,.b false] M c fun r M' c'=>r= .b (vr j st)∧Gr c M c' M':=by
 refine aM h ?_
 have hall:=xN (j:=j) (nt:=nt) (beh:=beh) i1 o1 v1
 have hf:flatten (V.g [V.i .i64 j,.b nt,vi,vo,.b beh,vc])=[V.i .i64 j,.b nt,vi,vo,.b beh,vc]:=rfl
 have gX:=(Gr.refl ok).set c (af 39 [.i .i64 j,.b nt,vi,vo,.b beh,vc]) (ah _) (aA _) (aG _)
 have ld:load1 F (M.set c (af 39 [.i .i64 j,.b nt,vi,vo,.b beh,vc])) c 0=some (.i .i64 j):=aq (am _ _ _) 0
 cases hj1:decide (j=1)with
 |true=>
  simp only[WX,Nat.reduceAdd,B25,hf,hall,ld,hj1];exact⟨by unfold vr;rw[hj1];rfl,gX⟩
 |false=>
  cases hj2:decide (j=2)with
  |true=>
   simp only[WX,Nat.reduceAdd,B25,hf,hall,ld,hj1,hj2];exact⟨by unfold vr;rw[hj1,hj2];rfl,gX⟩
  |false=>
   cases hj3:decide (j=3)with
   |true=>
    simp only[WX,Nat.reduceAdd,B25,hf,hall,ld,hj1,hj2,hj3];exact⟨by unfold vr;rw[hj1,hj2,hj3];rfl,gX⟩
   |false=>
    simp only[WX,Nat.reduceAdd,B25,hf,hall,ld,hj1,hj2,hj3];exact⟨by unfold vr;rw[hj1,hj2,hj3];rfl,gX⟩
abbrev NE(u:List (Option V))(x0 x1 x2:V):T:=(.n (.n (.n (.n (.n (aJ u 127 63 191 31 159 95 223) (uO u 15) (aJ u 143 79 207 47 175 111 239)) (uO u 7) (.n (aJ u 135 71 199 39 167 103 231) (uO u 23) (aJ u 151 87 215 55 183 119 247))) (uO u 3) (.n (.n (aJ u 131 67 195 35 163 99 227) (uO u 19) (aJ u 147 83 211 51 179 115 243)) (uO u 11) (.n (aJ u 139 75 203 43 171 107 235) (uO u 27) (aJ u 155 91 219 59 187 123 251)))) (some x1) (.n (.n (.n (aJ u 129 65 193 33 161 97 225) (uO u 17) (aJ u 145 81 209 49 177 113 241)) (uO u 9) (.n (aJ u 137 73 201 41 169 105 233) (uO u 25) (aJ u 153 89 217 57 185 121 249))) (uO u 5) (.n (.n (aJ u 133 69 197 37 165 101 229) (uO u 21) (aJ u 149 85 213 53 181 117 245)) (uO u 13) (.n (aJ u 141 77 205 45 173 109 237) (uO u 29) (aJ u 157 93 221 61 189 125 253))))) (some x0) (.n (.n (.n (.n (aJ u 128 64 192 32 160 96 224) (uO u 16) (aJ u 144 80 208 48 176 112 240)) (uO u 8) (.n (aJ u 136 72 200 40 168 104 232) (uO u 24) (aJ u 152 88 216 56 184 120 248))) (uO u 4) (.n (.n (aJ u 132 68 196 36 164 100 228) (uO u 20) (aJ u 148 84 212 52 180 116 244)) (uO u 12) (.n (aJ u 140 76 204 44 172 108 236) (uO u 28) (aJ u 156 92 220 60 188 124 252)))) (some x2) (.n (.n (.n (aJ u 130 66 194 34 162 98 226) (uO u 18) (aJ u 146 82 210 50 178 114 242)) (uO u 10) (.n (aJ u 138 74 202 42 170 106 234) (uO u 26) (aJ u 154 90 218 58 186 122 250))) (uO u 6) (.n (.n (aJ u 134 70 198 38 166 102 230) (uO u 22) (aJ u 150 86 214 54 182 118 246)) (uO u 14) (.n (aJ u 142 78 206 46 174 110 238) (uO u 30) (aJ u 158 94 222 62 190 126 254))))))
abbrev b14(u:List (Option V))(x0 x1 x2 x3:V):T:=(.n (.n (.n (.n (.n (aJ u 127 63 191 31 159 95 223) (uO u 15) (aJ u 143 79 207 47 175 111 239)) (uO u 7) (.n (aJ u 135 71 199 39 167 103 231) (uO u 23) (aJ u 151 87 215 55 183 119 247))) (some x3) (.n (.n (aJ u 131 67 195 35 163 99 227) (uO u 19) (aJ u 147 83 211 51 179 115 243)) (uO u 11) (.n (aJ u 139 75 203 43 171 107 235) (uO u 27) (aJ u 155 91 219 59 187 123 251)))) (some x1) (.n (.n (.n (aJ u 129 65 193 33 161 97 225) (uO u 17) (aJ u 145 81 209 49 177 113 241)) (uO u 9) (.n (aJ u 137 73 201 41 169 105 233) (uO u 25) (aJ u 153 89 217 57 185 121 249))) (uO u 5) (.n (.n (aJ u 133 69 197 37 165 101 229) (uO u 21) (aJ u 149 85 213 53 181 117 245)) (uO u 13) (.n (aJ u 141 77 205 45 173 109 237) (uO u 29) (aJ u 157 93 221 61 189 125 253))))) (some x0) (.n (.n (.n (.n (aJ u 128 64 192 32 160 96 224) (uO u 16) (aJ u 144 80 208 48 176 112 240)) (uO u 8) (.n (aJ u 136 72 200 40 168 104 232) (uO u 24) (aJ u 152 88 216 56 184 120 248))) (uO u 4) (.n (.n (aJ u 132 68 196 36 164 100 228) (uO u 20) (aJ u 148 84 212 52 180 116 244)) (uO u 12) (.n (aJ u 140 76 204 44 172 108 236) (uO u 28) (aJ u 156 92 220 60 188 124 252)))) (some x2) (.n (.n (.n (aJ u 130 66 194 34 162 98 226) (uO u 18) (aJ u 146 82 210 50 178 114 242)) (uO u 10) (.n (aJ u 138 74 202 42 170 106 234) (uO u 26) (aJ u 154 90 218 58 186 122 250))) (uO u 6) (.n (.n (aJ u 134 70 198 38 166 102 230) (uO u 22) (aJ u 150 86 214 54 182 118 246)) (uO u 14) (.n (aJ u 142 78 206 46 174 110 238) (uO u 30) (aJ u 158 94 222 62 190 126 254))))))
abbrev Yu(u:List (Option V))(x0 x1 x2 x4:V):T:=(.n (.n (.n (.n (.n (aJ u 127 63 191 31 159 95 223) (uO u 15) (aJ u 143 79 207 47 175 111 239)) (uO u 7) (.n (aJ u 135 71 199 39 167 103 231) (uO u 23) (aJ u 151 87 215 55 183 119 247))) (uO u 3) (.n (.n (aJ u 131 67 195 35 163 99 227) (uO u 19) (aJ u 147 83 211 51 179 115 243)) (uO u 11) (.n (aJ u 139 75 203 43 171 107 235) (uO u 27) (aJ u 155 91 219 59 187 123 251)))) (some x1) (.n (.n (.n (aJ u 129 65 193 33 161 97 225) (uO u 17) (aJ u 145 81 209 49 177 113 241)) (uO u 9) (.n (aJ u 137 73 201 41 169 105 233) (uO u 25) (aJ u 153 89 217 57 185 121 249))) (uO u 5) (.n (.n (aJ u 133 69 197 37 165 101 229) (uO u 21) (aJ u 149 85 213 53 181 117 245)) (uO u 13) (.n (aJ u 141 77 205 45 173 109 237) (uO u 29) (aJ u 157 93 221 61 189 125 253))))) (some x0) (.n (.n (.n (.n (aJ u 128 64 192 32 160 96 224) (uO u 16) (aJ u 144 80 208 48 176 112 240)) (uO u 8) (.n (aJ u 136 72 200 40 168 104 232) (uO u 24) (aJ u 152 88 216 56 184 120 248))) (some x4) (.n (.n (aJ u 132 68 196 36 164 100 228) (uO u 20) (aJ u 148 84 212 52 180 116 244)) (uO u 12) (.n (aJ u 140 76 204 44 172 108 236) (uO u 28) (aJ u 156 92 220 60 188 124 252)))) (some x2) (.n (.n (.n (aJ u 130 66 194 34 162 98 226) (uO u 18) (aJ u 146 82 210 50 178 114 242)) (uO u 10) (.n (aJ u 138 74 202 42 170 106 234) (uO u 26) (aJ u 154 90 218 58 186 122 250))) (uO u 6) (.n (.n (aJ u 134 70 198 38 166 102 230) (uO u 22) (aJ u 150 86 214 54 182 118 246)) (uO u 14) (.n (aJ u 142 78 206 46 174 110 238) (uO u 30) (aJ u 158 94 222 62 190 126 254))))))
def aN6:CC:=(.reg [(qq a1 (.mv (.c (.s 4 1702195828)))),(qq a2 (.mv (.c (.s 3 7627107))))])
def b70:=wu aN6.eq_1
def aN7:CC:=(.reg [(qq a3 (.mv (x6 1)))])
def b74:=wu aN7.eq_1
def aN8:CC:=(.reg [(qq lm (.mv z3)),(qq sP (.bi .lss vP (x6 16)))])
def br3:=wu aN8.eq_1
def aN9:CC:=(.seq aN8 (.cond yp .skip (.exit 0)))
def br4:=wu aN9.eq_1
def aO0:CC:=(.reg [(qq nP (.mv z1)),(qq sQ (.bi .add w7 (.c (.s 5 435762132027)))),(qq a1 (.mv yq))])
def br5:=wu aO0.eq_1
def aO1:CC:=(.reg [(qq po (.mv z3)),(qq mt (.bi .add ua (x6 1))),(qq a3 (.mv w6))])
def br6:=wu aO1.eq_1
def a01:CC:=(.seq aN7 (.block 0 (.loop (.seq aN9 (.seq (.block 1 aO0) aO1)))))
def b84:=wu a01.eq_1
def aO2:CC:=(.reg [(qq a4 (.mv (x6 1)))])
def b85:=wu aO2.eq_1
def aO3:CC:=(.reg [(qq sw (.mv z4)),(qq sR (.bi .lss vQ (x6 6)))])
def br7:=wu aO3.eq_1
def Ws:CC:=(.seq aO3 (.cond yr .skip (.exit 2)))
def b71:=wu Ws.eq_1
def Wt:CC:=(.reg [(qq ui (.mv z2)),(qq nQ (.bi .add yI (.c (.s 4 1952539516)))),(qq a2 (.mv FH))])
def b72:=wu Wt.eq_1
def Wu:CC:=(.reg [(qq sS (.mv z4)),(qq qy (.bi .add yt (x6 1))),(qq a4 (.mv w8))])
def b73:=wu Wu.eq_1
def KJ:CC:=(.block 2 (.loop (.seq Ws (.seq (.block 3 Wt) Wu))))
def YO:=wu KJ.eq_1
def Wv:CC:=(.reg [(ee uj (.call 24 [(x6 4091)])),(qq vR (.bi .add (.c (.s 5 139308065637)) yJ)),(qq a5 (.mv BA))])
def YP:=wu Wv.eq_1
def Ww:CC:=(.reg [(ee wh (.call 24 [(x6 4087)])),(qq wj (.bi .add (.c (.s 5 139308065637)) FI)),(qq wl (.bi .add FJ (.c (.s 4 1952539451)))),(qq a6 (.mv Dj))])
def YQ:=wu Ww.eq_1
def Wx:CC:=(.reg [(qq yQ (.mv z1)),(ee BG (.call 10 [G5])),(qq sy (.mv G6)),(qq BH (.ex 0 Dk)),(qq yR (.ex 1 Dk)),(aa a7 (.al 25 [.l0])),(ez (.st 1 z7 Ow)),(qq a8 (.mv FK))])
def YR:=wu Wx.eq_1
def Wy:CC:=(.reg [(qq BJ (.mv z1)),(qq vT (.bi .add Oy (.c (.s 5 435762132027)))),(ee BK (.call 10 [Oz])),(qq BI (.mv OA)),(qq vU (.ex 0 Ox)),(qq BL (.ex 1 Ox)),(aa a9 (.al 25 [.l0])),(ez (.st 1 z9 P4)),(qq dV (.mv OB))])
def YS:=wu Wy.eq_1
def Wz:CC:=(.reg [(qq BM (.mv z2)),(ee yS (.call 10 [P5])),(qq vV (.mv FM)),(qq qz (.ex 0 FL)),(qq uk (.ex 1 FL)),(aa fo (.al 25 [.l0])),(ez (.st 1 ec G7)),(qq fF (.mv G9))])
def YT:=wu Wz.eq_1
def WA:CC:=(.reg [(qq yU (.mv z2)),(qq yV (.bi .add Ga (.c (.s 4 1952539516)))),(ee yz (.call 10 [OC])),(qq yT (.mv Gb)),(qq yW (.ex 0 FN)),(qq fG (.ex 1 FN)),(aa eO (.al 25 [.l0])),(ez (.st 1 ej OD)),(qq gp (.mv w9))])
def YU:=wu WA.eq_1
def WB:CC:=(.reg [(qq BN (.mv z5)),(ee BO (.call 10 [OE])),(qq yA (.mv OG)),(qq BP (.ex 0 Gc)),(qq BQ (.ex 1 Gc)),(aa eC (.al 25 [.l0])),(ez (.st 1 i5 OH)),(qq i7 (.mv OI))])
def YV:=wu WB.eq_1
def WC:CC:=(.reg [(qq DK (.mv z5)),(qq DL (.bi .add P6 (.c (.s 1 120)))),(ee qA (.call 10 [P7])),(qq BR (.mv P8)),(qq ul (.ex 0 Gd)),(qq DM (.ex 1 Gd)),(aa fY (.al 25 [.l0])),(ez (.st 1 gy P9)),(qq gG (.mv Pa))])
def YW:=wu WC.eq_1
def WD:CC:=(.reg [(qq DO (.mv z5)),(qq DP (.mv z5)),(qq um (.ln .str Pb)),(qq DQ (.bi .sub Pd (x6 1))),(qq FS (.slS Sc none (some Pe))),(qq FT (.bi .add Sd (.c (.s 1 124)))),(ee FU (.call 10 [Se])),(qq DN (.mv Sf)),(qq FV (.ex 0 OJ)),(qq FW (.ex 1 OJ)),(aa kG (.al 25 [.l0])),(ez (.st 1 mA Sg)),(qq jI (.mv Si))])
def YX:=wu WD.eq_1
def WE:CC:=(.reg [(qq OP (.mv z6)),(ee OQ (.call 10 [z96])),(qq OO (.mv z97)),(qq OR (.ex 0 Zl)),(qq OS (.ex 1 Zl)),(aa i4 (.al 25 [.l0])),(ez (.st 1 nK z98)),(qq lw (.mv z99))])
def YY:=wu WE.eq_1
def WF:CC:=(.reg [(ee qw (.call 24 [(x6 4086)])),(qq so (.bi .add (.c (.s 5 139308065637)) Sa)),(qq sq (.bi .add Bw (.c (.s 5 499850099488)))),(ee su (.call 10 [Bx])),(qq qt (.mv Bz)),(qq Dq (.ex 0 vM)),(qq uh (.ex 1 vM)),(aa kH (.al 25 [.l0])),(ez (.st 1 mC ay4)),(qq jJ (.mv ay5))])
def YZ:=wu WF.eq_1
def WG:CC:=(.reg [(ee Ds (.call 24 [(x6 4085)])),(qq Dt (.bi .add (.c (.s 5 139308065637)) ay6)),(qq Du (.bi .add ay7 (.c (.s 5 499850099488)))),(ee qx (.call 10 [ay8])),(qq Dr (.mv ay9)),(qq Dv (.ex 0 Sb)),(qq Dw (.ex 1 Sb)),(aa mq (.al 25 [.l0])),(ez (.st 1 qh az0)),(qq lL (.mv az1))])
def Z0:=wu WG.eq_1
def WH:CC:=(.reg [(qq Dx (.bld [(.s 0 0),(.b false)] [(0,1,(.c (.s 4 1702195828)))])),(aa Dy (.bsl 64 1 2 [(.s 0 0),(.b false)] [(0,az3)])),(qq Dz (.bld [.l0] [(0,1,az4)])),(aa DA (.bsl 36 1 1 [.l0] [(0,az5)])),(qq pn (.bld [.l0] [(0,1,az6)])),(aa DB (.bsl 42 1 1 [.l0] [(0,az7)])),(qq DC (.bld [(.i .i64 0),(.b false),.l0,.l0,(.b false),.l0] [(0,1,(x6 1)),(5,1,az8)])),(aa DD (.bsl 39 1 6 [(.i .i64 0),(.b false),.l0,.l0,(.b false),.l0] [(0,az9)])),(qq DE (.bld [.l0] [(0,1,aA0)])),(aa iH (.al 25 [.l0])),(ez (.st 1 nE aA1))])
def Z1:=wu WH.eq_1
def WI:CC:=(.reg [(qq DF (.ldn 1 nE)),(ee DG (.call 17 [aA2])),(qq nO (.mv aA3))])
def b75:=wu WI.eq_1
def WJ:CC:=(.reg [(qq DH (.fa 0 nE)),(qq sv (.ld1 aA4)),(qq Pk (.iaS 6 aA5 (x6 0))),(qq Pl (.fa 0 aA6)),(ez (.st 1 aA7 (x6 0)))])
def Z2:=wu WJ.eq_1
def WN:CC:=(.reg [(qq Pm (.mv oJ)),(ee Pn (.call 13 [aA8])),(qq Po (.bi .neq aA9 (x6 4))),(qq yN (.mv aB0)),(aH Pp (.mv pL) yN),(gK yO (.call 13 [aB2]) yN),(aH Pq (.bi .neq aB3 (x6 0)) yN),(qq Ps (.pk aB1 xT aB4)),(qq yP (.mv aB5)),(aH Pt (.mv qi) yP),(gK DI (.call 13 [aB7]) yP),(aH Pu (.bi .neq aB8 (x6 2)) yP),(qq Pv (.pk aB6 xT aB9)),(qq wf (.mv aC0)),(aH Zv (.ldn 1 nE) wf),(gK Zw (.call 17 [ba6]) wf),(gK Zx (.call 13 [ba7]) wf),(aH Zy (.bi .neq ba8 (x6 0)) wf),(qq Zz (.pk aC1 xT ba9))])
def b76:=wu WN.eq_1
def WO:CC:=(.seq (.reg [(qq a0 (.mv xF))]) .ret)
def b77:=wu WO.eq_1
def WP:CC:=(.cond bb0 WO .skip)
def Z3:=wu WP.eq_1
def WQ:CC:=(.reg [(qq ZA (.fa 0 nE)),(qq ZB (.ld1 bb1)),(qq ZC (.iaS 6 bb4 (x6 0))),(qq ZD (.fa 5 bb7)),(qq ZE (.ld1 bb8)),(qq ZF (.bld [(.i .i64 0),(.b false),.l0,.l0,(.b false),.l0] [(4,1,xT),(5,1,bb9)])),(aa ZG (.bsl 39 1 6 [(.i .i64 0),(.b false),.l0,.l0,(.b false),.l0] [(0,bc0)])),(qq ZH (.bld [.l0] [(0,1,bc1)])),(aa kI (.al 25 [.l0])),(ez (.st 1 qj bc2))])
def Z4:=wu WQ.eq_1
def WR:CC:=(.reg [(ee ZJ (.call 10 [(.c (.s 9 722251037687411139429))])),(qq ZI (.mv bc3)),(qq ZK (.ex 0 aC2)),(qq ZL (.ex 1 aC2)),(aa lM (.al 25 [.l0])),(ez (.st 1 rZ bc4)),(qq mr (.mv bc5))])
def Z5:=wu WR.eq_1
def WT:CC:=(.reg [(ee ZN (.call 10 [(.c (.s 7 17772645259436901))])),(qq ZM (.mv bc6)),(qq ZO (.ex 0 aC3)),(qq ZP (.ex 1 aC3)),(aa sf (.al 25 [.l0])),(ez (.st 1 vN bc7)),(qq sg (.mv bc8))])
def Z6:=wu WT.eq_1
def WU:CC:=(.reg [(qq ZQ (.ldn 1 qj)),(ee ZR (.call 17 [bc9])),(ee ZS (.call 13 [bd0])),(qq aE9 (.bi .neq bd1 (x6 2))),(qq wg (.mv bs6)),(aH aF0 (.mv sk) wg),(gK aF1 (.call 13 [bs8]) wg),(aH aF2 (.mv yo) wg),(gK aF3 (.call 13 [bt0]) wg),(aH aF4 (.bi .add bs9 bt1) wg),(aH aF5 (.bi .neq bt2 (x6 0)) wg),(qq aF6 (.pk bs7 xT bt3)),(qq DJ (.mv bt4)),(aH aF7 (.ldn 1 rZ) DJ),(aH aF8 (.ldn 1 vN) DJ),(gK aF9 (.call 23 [bt6,bt7]) DJ),(aH aG0 (.un .not bt8) DJ),(qq aG1 (.pk bt5 xT bt9)),(qq Pw (.mv bu0)),(aH aG2 (.bld [(.i .i64 0),(.b false),.l0,.l0,(.b false),.l0] [(0,1,(x6 3))]) Pw),(gK aG3 (.call 25 [bu2,(x6 0),xF]) Pw),(qq aG4 (.pk bu1 xT bu3)),(qq Gn (.mv bu4)),(aH aG5 (.bld [(.i .i64 0),(.b false),.l0,.l0,(.b false),.l0] [(0,1,(x6 2))]) Gn),(gK aG6 (.call 25 [bu6,(x6 0),xF]) Gn),(aH aG7 (.un .not bu7) Gn),(qq aG8 (.pk bu5 xT bu8)),(qq Px (.mv bu9)),(aH aG9 (.bld [(.i .i64 0),(.b false),.l0,.l0,(.b false),.l0] [(0,1,(x6 4))]) Px),(gK aH0 (.call 25 [bv1,(x6 0),xF]) Px),(qq aH1 (.pk bv0 xT bv2)),(qq Py (.mv bv3)),(aH aH2 (.bld [(.i .i64 0),(.b false),.l0,.l0,(.b false),.l0] []) Py),(gK aH3 (.call 25 [bv5,(x6 0),xF]) Py),(qq aH4 (.pk bv4 xT bv6))])
def b78:=wu WU.eq_1
def WV:CC:=(.seq (.reg [(qq a0 (.mv xF))]) .ret)
def b79:=wu WV.eq_1
def WW:CC:=(.cond bv7 WV .skip)
def Z7:=wu WW.eq_1
def WY:CC:=(.reg [(qq aH5 (.bld [(.s 0 0),(.b false)] [(0,1,(.c (.s 4 1869112165)))])),(aa aH6 (.bsl 64 1 2 [(.s 0 0),(.b false)] [(0,bv8)])),(qq aH7 (.bld [.l0] [(0,1,bv9)])),(qq aH8 (.bld [(.s 0 0),(.b false)] [(0,1,(.c (.s 1 97)))])),(qq aH9 (.bld [(.s 0 0),(.b false)] [(0,1,(.c (.s 1 98)))])),(aa aI0 (.bsl 64 2 2 [(.s 0 0),(.b false)] [(0,bw1),(2,bw2)])),(qq aI1 (.bld [.l0] [(0,1,bw3)])),(aa aI2 (.bsl 36 2 1 [.l0] [(0,bw0),(1,bw4)])),(qq aI3 (.bld [.l0] [(0,1,bw5)])),(aa aI4 (.bsl 42 1 1 [.l0] [(0,bw6)])),(qq aI5 (.bld [(.i .i64 0),(.b false),.l0,.l0,(.b false),.l0] [(5,1,bw7)])),(aa aI6 (.bsl 39 1 6 [(.i .i64 0),(.b false),.l0,.l0,(.b false),.l0] [(0,bw8)])),(qq aI7 (.bld [.l0] [(0,1,bw9)])),(aa pM (.al 25 [.l0])),(ez (.st 1 vO bx0))])
def Z8:=wu WY.eq_1
def WZ:CC:=(.reg [(qq aI8 (.ldn 1 vO)),(ee aI9 (.call 17 [bx1])),(ee aJ0 (.call 13 [bx2])),(qq aJ1 (.bi .neq bx3 (x6 2)))])
def b80:=wu WZ.eq_1
def X0:CC:=(.seq (.reg [(qq a0 (.mv xF))]) .ret)
def b81:=wu X0.eq_1
def Xa:CC:=(.cond bx4 X0 .skip)
def b82:=wu Xa.eq_1
def Xb:CC:=(.reg [(qq aJ2 (.mv z8)),(ee aJ3 (.call 13 [bx5])),(qq aJ4 (.mv eP)),(ee aJ5 (.call 13 [bx7])),(qq aJ6 (.bi .add bx6 bx8)),(qq aJ7 (.mv j3)),(ee aJ8 (.call 13 [by0])),(qq aJ9 (.bi .add bx9 by1)),(qq aK0 (.bi .eql by2 (x6 0))),(qq Gp (.mv by3)),(aR aK1 (.mv fT) Gp),(k9 aK2 (.call 13 [by5]) Gp),(aR aK3 (.bi .eql by6 (x6 4)) Gp),(qq aK4 (.pk by4 by7 xF)),(qq Gq (.mv by8)),(aR aK5 (.mv i9) Gq),(k9 aK6 (.call 13 [bz0]) Gq),(aR aK7 (.bi .eql bz1 (x6 4)) Gq),(qq aK8 (.pk by9 bz2 xF)),(qq Gs (.mv bz3)),(aR aK9 (.mv ju) Gs),(k9 aL0 (.call 13 [bz5]) Gs),(aR aL1 (.bi .eql bz6 (x6 3)) Gs),(qq aL2 (.pk bz4 bz7 xF)),(qq Gt (.mv bz8)),(aR aL3 (.mv mB) Gt),(k9 aL4 (.call 13 [bA0]) Gt),(aR aL5 (.bi .eql bA1 (x6 4)) Gt),(qq aL6 (.pk bz9 bA2 xF)),(qq Gu (.mv bA3)),(aR aL7 (.mv nL) Gu),(k9 aL8 (.call 13 [bA5]) Gu),(aR aL9 (.bi .eql bA6 (x6 4)) Gu),(qq aM0 (.pk bA4 bA7 xF)),(qq ZT (.mv bA8)),(k9 aM1 (.call 9 []) ZT),(qq aM2 (.pk bA9 bB0 xF)),(qq a0 (.mv bB1))])
def b83:=wu Xb.eq_1
def Xc:CC:=(.seq (.seq WU WW) (.seq WY (.seq (.seq WZ Xa) (.seq Xb .ret))))
def Z9:=wu Xc.eq_1
def Xd:CC:=(.seq (.seq WN WP) (.seq WQ (.seq WR (.seq WT Xc))))
def Za:=wu Xd.eq_1
def Xe:CC:=(.seq WF (.seq WG (.seq WH (.seq WI (.seq WJ Xd)))))
def Zb:=wu Xe.eq_1
def Xf:CC:=(.seq WA (.seq WB (.seq WC (.seq WD (.seq WE Xe)))))
def Zc:=wu Xf.eq_1
def Xg:CC:=(.seq Wv (.seq Ww (.seq Wx (.seq Wy (.seq Wz Xf)))))
def Zd:=wu Xg.eq_1
def Xh:CC:=(.seq (.reg [(qq a0 (.mv xF))]) (.seq aN6 (.seq a01 (.seq (.seq aO2 KJ) Xg))))
def Ze:=wu Xh.eq_1
def c7:CF:= .mk 8 [.t a0] Xh
theorem e7:bA 8 []=sk8:=rfl
def B7:=ai @e7 (ai @b70 (ai @b74 (ai @br3 (ai @br4 (ai @br5 (ai @br6 (ai @b84 (ai @b85 (ai @br7 (ai @b71 (ai @b72 (ai @b73 (ai @YO (ai @YP (ai @YQ (ai @YR (ai @YS (ai @YT (ai @YU (ai @YV (ai @YW (ai @YX (ai @YY (ai @YZ (ai @Z0 (ai @Z1 (ai @b75 (ai @Z2 (ai @b76 (ai @b77 (ai @Z3 (ai @Z4 (ai @Z5 (ai @Z6 (ai @b78 (ai @b79 (ai @Z7 (ai @Z8 (ai @b80 (ai @b81 (ai @b82 (ai @b83 (ai @Z9 (ai @Za (ai @Zb (ai @Zc (ai @Zd (@Ze))))))))))))))))))))))))))))))))))))))))))))))))
theorem Bb{M:Mem}{b ty:Nat}{d l:List V}(h:M.get b=some (bK d ty l))(o:Nat)(vs:List V)(h1:o+vs.length≤l.length)(h2:aE vs=true):bN M b o vs=some (M.set b (bK d ty (over l o vs))):=by
 rw[oD h h1 (az _) h2,kb _ _ _ h1];unfold bK;rw[kg]
theorem nu(a b:List UInt8):∀n,(sj a b n).length=a.length+n*b.length
 |0=>by rw[sj];omega
 |n+1=>by rw[sj,aO,nu a b n,Nat.succ_mul];omega
theorem n7a(Φ:Nat→Option CF){F:RO}{M:Mem}{c:Nat}(u:List (Option V))(Q:Ex→St→Prop)
 (hQ:∀u:List (Option V),Q .nrm (.mk ((NE u (.b false) (sV (sj jF (59::jF) 15)) (.s 3 7627107))) [] M c)):
 Wp a01 (K Φ none 7 F) (.mk ((NE u (.b false) (sV (sj jF (59::jF) 0)) (.s 3 7627107))) [] M c) Q:=by
 simp only[WX,b74,b84]
 obtain⟨I,hI⟩:∃I:Nat→St→Prop,∀n s',I n s'↔(∃(i:Nat) (u:List (Option V)),n=15-i∧i≤15∧s'= .mk ((b14 u (.b false) (sV (sj jF (59::jF) i)) (.s 3 7627107) (.i .i64 ((i+1:Nat):Int)))) [] M c):=⟨fun n s'=>_,fun _ _=>Iff.rfl⟩
 refine bS I ?_ 15 _ ((hI _ _).2 ⟨0,(G4 (cF (cF (cF (cH (ce (X8 (X2 (X1 []))))))))),rfl,az _,rfl⟩)
 intro n s' hIs
 obtain⟨i,u,rfl,hi,rfl⟩:=(hI _ _).1 hIs
 clear hIs
 have q8:cZ .add (.i .i64 ((i+1:Nat):Int)) (.i .i64 1)=some (.i .i64 ((i+1+1:Nat):Int)):=by rw[bF _ _ (by omega) (by omega)];simp
 have qc:cZ .add (sV (sj jF (59::jF) i)) (.s 5 435762132027)=some (sV (sj jF (59::jF) (i+1))):=d9 (sj jF (59::jF) i) (59::jF) (by rw[nu];simp only[jF,aw,aL];omega)
 by_cases hlt:i<15
 ·have d1:decide (((i+1:Nat):Int)<16)=true:=aj (by omega);simp only[WX,Nat.reduceAdd,B7,d1,qc,q8];exact⟨15-(i+1),by omega,(hI _ _).2 ⟨i+1,(G4 (cF (cF (cF (cH (ce (X8 (X2 (X1 []))))))))),rfl,by omega,rfl⟩⟩
 ·obtain rfl:i=15:=by omega
  have d1:decide (((15+1:Nat):Int)<16)=false:=rfl;simp only[WX,Nat.reduceAdd,B7,d1];exact hQ (G2 (G1 (cF (cF (cF (cH (ce (X8 (X4 [])))))))))
theorem n7b(Φ:Nat→Option CF){F:RO}{M:Mem}{c:Nat}{v:V}(u:List (Option V))(Q:Ex→St→Prop)
 (hQ:∀u:List (Option V),Q .nrm (.mk ((NE u (.b false) v (sV (sj nH (124::nH) 5)))) [] M c)):
 Wp KJ (K Φ none 7 F) (.mk ((Yu u (.b false) v (sV (sj nH (124::nH) 0)) (.i .i64 1))) [] M c) Q:=by
 simp only[WX,YO]
 obtain⟨I,hI⟩:∃I:Nat→St→Prop,∀n s',I n s'↔(∃(i:Nat) (u:List (Option V)),n=5-i∧i≤5∧s'= .mk ((Yu u (.b false) v (sV (sj nH (124::nH) i)) (.i .i64 ((i+1:Nat):Int)))) [] M c):=⟨fun n s'=>_,fun _ _=>Iff.rfl⟩
 refine bS I ?_ 5 _ ((hI _ _).2 ⟨0,(G2 (G1 (X1 (G1 (cF (cF (cF (cH (ce (X8 (X2 []))))))))))),rfl,az _,rfl⟩)
 intro n s' hIs
 obtain⟨i,u,rfl,hi,rfl⟩:=(hI _ _).1 hIs
 clear hIs
 have q8:cZ .add (.i .i64 ((i+1:Nat):Int)) (.i .i64 1)=some (.i .i64 ((i+1+1:Nat):Int)):=by rw[bF _ _ (by omega) (by omega)];simp
 have qc:cZ .add (sV (sj nH (124::nH) i)) (.s 4 1952539516)=some (sV (sj nH (124::nH) (i+1))):=d9 (sj nH (124::nH) i) (124::nH) (by rw[nu];simp only[nH,aw,aL];omega)
 by_cases hlt:i<5
 ·have d1:decide (((i+1:Nat):Int)<6)=true:=aj (by omega);simp only[WX,Nat.reduceAdd,B7,d1,qc,q8];exact⟨5-(i+1),by omega,(hI _ _).2 ⟨i+1,(G2 (G1 (X1 (G1 (cF (cF (cF (cH (ce (X8 (X2 []))))))))))),rfl,by omega,rfl⟩⟩
 ·obtain rfl:i=5:=by omega
  have d1:decide (((5+1:Nat):Int)<6)=false:=rfl;simp only[WX,Nat.reduceAdd,B7,d1];exact hQ (G2 (G1 (cF (cF (cF (cH (ce (X8 (X4 [])))))))))
theorem Mk{α:Type}{F:RO}{R:Mem→Nat→List V→α→Prop}{M:Mem}{b c ty sz n:Nat}{d:List V}{es:List (List V)}{l:List α}(hb:M.get b=some (bK d ty es.flatten))(hbc:b<c)(h0:∀e∈es,e.length=sz)(hn:es.length=n)(hl:l.length=n)(h1:n≤1000)(hR:∀i (h:i<es.length) (h':i<l.length),R M c es[i] l[i]):cA F R sz M c (.l b 0 n n) l:=
 ⟨es,Nl hb hbc h0 hn,by omega,(show l.length≤9223372036854775807 by omega),hR⟩
theorem vG{F:RO}{M:Mem}{b c n:Nat}{d:List V}{w:List Pc}(hb:M.get b=some (bK d 64 (kW w).flatten))(hbc:b<c)(hn:w.length=n)(h1:n≤1000):dt F M c (.l b 0 n n) w:=
 ⟨Nl hb hbc (fun e he=>by obtain⟨p,_,rfl⟩:=List.mem_map.1 he;rfl) (by rw[dY];exact hn),(show w.length≤9223372036854775807 by omega)⟩
theorem gh{α:Type}{F:RO}{R:Mem→Nat→List V→α→Prop}{M:Mem}{b c ty sz:Nat}{d e:List V}{a:α}(hb:M.get b=some (bK d ty e))(hbc:b<c)(h0:e.length=sz)(hR:R M c e a):cA F R sz M c (.l b 0 1 1) [a]:=
 Mk (es:=[e]) (by rw[List.flatten_cons,List.flatten_nil,bP];exact hb) hbc (fun x hx=>by rw[List.mem_singleton]at hx;subst hx;exact h0) rfl rfl (by decide) fun i h h'=>by
  have:i=0:=by simp at h;omega
  subst this;exact hR
theorem Zf{F:RO}{M:Mem}{c:Nat}:dt F M c .l0 []:=⟨⟨fun e he=>(by cases he),.inl ⟨rfl,.inl rfl⟩⟩,az _⟩
theorem kL(n:Nat)(r:List UInt8):[101,99,104,111,32]++(rx n++r)=lq n r:=rfl
end
end Go.Proofs.YtmbpllipombieaaDoor.Ev
