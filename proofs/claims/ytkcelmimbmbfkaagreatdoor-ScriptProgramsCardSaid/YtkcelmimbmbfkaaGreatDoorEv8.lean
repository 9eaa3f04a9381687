/- What is proved here: pieces of the evaluator's soundness: if the evaluator comes to a value, the model's run comes to it, for every world and tape; no conditions beyond the hypotheses of each theorem. -/
import Derived.Test.YtkcelmimbmbfkaaGreatDoorEv7
set_option linter.unusedSimpArgs false
set_option linter.unusedVariables false
set_option linter.defProp false
set_option maxRecDepth 10000
set_option maxHeartbeats 16000000
namespace Go.Proofs.YtkcelmimbmbfkaaGreatDoor.Ev
open Go
noncomputable section
def ao9:CC:=(.reg [(qq a2 (.mv (.c .l0))),(qq a3 (.mv (x6 0)))])
def ap0:CC:=(.reg [(qq a9 (.mv z0)),(qq cg (.ln .slice z9)),(qq cI (.bi .mul (x6 4) cj)),(aa de (.mks 5 1 1 [(.i .u8 0)] (x6 0) cD)),(qq a4 (.mv cS))])
def ap1:CC:=(.reg [(qq cH (.mv z0)),(qq db (.ln .slice cR)),(qq du (.mv (x6 0)))])
def ap2:CC:=(.reg [(qq dE (.bi .lss dj dD))])
def ap3:CC:=(.reg [(qq dO (.iaS 5 cR dj)),(qq dY (.ldn 5 dM)),(aa a6 (.al 59 [(.i .i64 0),(.i .i64 0),(.i .i64 0),(.i .i64 0),(.i .i64 0)])),(ez (.st 5 z6 ey))])
def ap4:CC:=(.reg [(qq eQ (.ldn 5 z6)),(ee dP (.call 55 [eW])),(qq eg (.mv fm)),(qq eB (.ex 0 eV)),(qq ec (.ex 1 eV)),(qq a7 (.mv eX)),(qq a8 (.mv fG))])
def ap5:CC:=(.reg [(qq dH (.mv z8)),(qq eR (.bi .neq fH (x6 0)))])
def ap6:CC:=(.reg [(qq eD (.mv z8)),(qq a2 (.mv (.c .l0))),(qq a3 (.mv fK))])
def ap7:CC:=(.seq ap5 (.cond fJ (.seq ap6 .ret) .skip))
def ON:CC:=(.reg [(qq eJ (.mv z4)),(qq fk (.mv z7)),(qq eE (.ci .u8 g9)),(qq eY (.mv z7)),(qq gH (.bi .shr gC (.c (.i .u64 8)))),(qq fo (.ci .u8 gD)),(qq gu (.mv z7)),(qq gh (.bi .shr j1 (.c (.i .u64 16)))),(qq iq (.ci .u8 ji)),(qq j3 (.mv z7)),(qq iO (.bi .shr jz (.c (.i .u64 24)))),(qq ib (.ci .u8 jk)),(aa j4 (.bsl 5 4 1 [(.i .u8 0)] [(0,gA),(1,iE),(2,jj),(3,kf)])),(ee gJ (.app 5 1 1 fL kq)),(qq a4 (.mv kO))])
def OO:CC:=(.reg [(qq jL (.bi .add dj (x6 1))),(qq du (.mv kr))])
def OP:CC:=(.seq (.block 1 (.seq ap3 (.seq ap4 (.seq ap7 ON)))) OO)
def OQ:CC:=(.seq (.cond dQ .skip (.exit 0)) OP)
def OR:CC:=(.reg [(qq ja (.mv z4)),(qq a2 (.mv l5)),(qq a3 (.mv (x6 0)))])
def OS:CC:=(.seq (.seq ap1 (.block 0 (.loop (.seq ap2 OQ)))) (.seq OR .ret))
def c21:CF:= .mk 6 [.t a2,.t a3] (.seq ao9 (.seq ap0 OS))
theorem e21(v0:V):aS 6 [v0]=(.n mr (some v0) mr):=rfl
def B21:=ai @e21 (ai (wu ao9.eq_1) (ai (wu ap0.eq_1) (ai (wu ap1.eq_1) (ai (wu ap2.eq_1) (ai (wu ap3.eq_1) (ai (wu ap4.eq_1) (ai (wu ap5.eq_1) (ai (wu ap6.eq_1) (ai (wu ap7.eq_1) (ai (wu ON.eq_1) (ai (wu OO.eq_1) (ai (wu OP.eq_1) (ai (wu OQ.eq_1) (ai (wu OR.eq_1) (wu OS.eq_1)))))))))))))))
def iX(x:nc):Bool:=bQ x.op x.d x.a x.b x.i
def fj(x:nc):Nat:=cw x.op x.d x.a x.b x.i
def iT(w:Nat):List UInt8:=[UInt8.ofNat w,UInt8.ofNat (w/256),UInt8.ofNat (w/65536),UInt8.ofNat (w/16777216)]
def cB(l:List nc):List UInt8:=l.flatMap fun x=>iT (fj x)
theorem Ak(n:Nat):bV (UInt8.ofNat n)= .i .u8 ((n%256:Nat):Int):=by
 unfold bV;rw[UInt8.toNat_ofNat']
theorem kL(n:Nat):IntKind.u8.wrap (n:Int)=((n%256:Nat):Int):=by rw[dh];omega
theorem yr(w:Nat):bu .shr (.i .u32 (w:Int)) (.i .u64 24)=some (.i .u32 ((w/16777216:Nat):Int)):=uo w 24 (by decide)
theorem AE(w:Nat):((iT w).map fun x=>[bV x]).flatten=[.i .u8 ((w%256:Nat):Int),.i .u8 ((w/256%256:Nat):Int),.i .u8 ((w/65536%256:Nat):Int),.i .u8 ((w/16777216%256:Nat):Int)]:=by
 rw[ix]
 simp only[iT,List.map_cons,List.map_nil,Ak]
theorem V7(l:List nc):∀e∈l.map mY,e.length=5:=by
 intro e he;obtain⟨x,_,rfl⟩:=List.mem_map.1 he;rfl
theorem sO(l:List nc)(x:nc):cB (l++[x])=cB l++iT (fj x):=by simp[cB]
theorem ft:∀l:List nc,(cB l).length=4*l.length
 |[]=>rfl
 |x::l=>by
  have:=ft l;simp only[cB,List.flatMap_cons,bE,bk]at this⊢;rw[this];simp[iT];omega
theorem BT(x:nc)(h:iX x=true):fj x<4294967296:=by
 obtain⟨b1,b2,b1003,b1004,b1005,b1006,b1007,b1008,b21,b55,b1011⟩:=gy h
 unfold fj cw
 omega
theorem Dm{F:RO}{M:Mem}{c:Nat}{v:V}{l:List nc}(hs:cU F M c 5 v (l.map mY))(i:Nat)(hi:i<l.length):
 ∃b o,b<c∧(∀k,dS 5 v (.i k (i:Int))=some (.p b o))∧loadN F M b o 5=some [.i .i64 l[i].op,.i .i64 l[i].d,.i .i64 l[i].a,.i .i64 l[i].b,.i .i64 l[i].i]:=by
 obtain⟨b,o,h1,h2,h1003⟩:=hs.at i (by simpa using hi)
 refine⟨b,o,h1,h2,?_⟩
 rw[List.getElem_map]at h1003
 exact h1003.load (by unfold mY;simp)
theorem r21(Φ:Nat→Option CF)(h:Φ 21=some c21)(h55:Φ 55=some (.orc (aj h55))){F:RO}{M:Mem}{c:Nat}{v:V}{l:List nc}(ok:eA F M c)(hs:cU F M c 5 v (l.map mY))(hl:l.length≤200):
 Calls Φ F 21 [v] M c fun r M' c'=>Gr c M c' M'∧((l.all iX=true∧ ∃b,r= .t [b,.i .i64 0]∧l9 F M' c' b (cB l))∨(l.all iX=false∧r= .t [.l0,.i .i64 2])):=by
 refine ax h ?_
 have hln:Dv v=some (.i .i64 (l.length:Int)):=by have:=hs.len;rwa [List.length_map]at this
 have q1:bu .mul (.i .i64 4) (.i .i64 (l.length:Int))=some (.i .i64 ((4*l.length:Nat):Int)):=by
  rw[jq _ _ (by omega) (by omega)];simp
 have q2:∀b,bg2 5 1 1 [V.i .u8 0] (.i .i64 0) (.i .i64 ((4*l.length:Nat):Int)) b=some (.l b 0 0 (4*l.length),.cells 5 (4*l.length*1) true 0 false [V.i .u8 0] .e):=fun b=>Vs 5 1 1 _ .i64 .i64 0 (4*l.length) b (aM _) (by omega)
 simp only[WX,B21,hln,q1,q2]
 have hg0:=fun x=>(Gr.refl ok).set c x (ah _) (bD _) (bU _)
 obtain⟨I,hI⟩:∃I:Nat→St→Prop,∀n s,I n s↔(∃(i:Nat) (M1:Mem) (c1:Nat) (acc:V) (u:List (Option V)),n=l.length-i∧i≤l.length∧s= .mk ((.n (.n (.n (.n (.n (kp u 31) (some (.i .i64 (i:Int))) (kp u 47)) (uO u 7) (eH u 39 23 55)) (uO u 3) (ay u 35 19 51 11 43 27 59)) (uO u 1) (.n (ay u 33 17 49 9 41 25 57) (uO u 5) (.n (eH u 37 21 53) (some (v)) (eH u 45 29 61)))) (some (v)) (.n (.n (ay u 32 16 48 8 40 24 56) (some (acc)) (ay u 36 20 52 12 44 28 60)) (uO u 2) (.n (ay u 34 18 50 10 42 26 58) (uO u 6) (.n (eH u 38 22 54) (some (.i .i64 (l.length:Int))) (eH u 46 30 62)))))) [] M1 c1∧Gr c M c1 M1∧ku M1 c c1 c 5 1 (4*l.length) acc ((cB (l.take i)).map fun x=>[bV x])∧ ∀j (hj:j<l.length),j<i→iX l[j]=true):=⟨fun n s=>_,fun _ _=>Iff.rfl⟩
 refine cX I ?_ l.length _ ((hI _ _).2 ⟨0,_,_,_,[none,_,_,_,none,_,_,_,_,_,_,_,_,none,none,none,_,_,_,_,_,_,_,_,_,_,_,_,_,_,_,_,_,_,_,_,_,_,_,_,_,_,_,_,_,_,_,_,_,_,_,_,_,_,_,_,_,_,_,_,_,_,_],rfl,aM _,rfl,hg0 _,b93 (aw _ _ _) (ah _) (bD _),fun j _ hj=>absurd hj (Nat.not_lt_zero _)⟩)
 intro n s hIs
 obtain⟨i,M1,c1,acc,u,rfl,hi,rfl,hg,hacc,hmay⟩:=(hI _ _).1 hIs
 clear hIs
 by_cases hlt:i<l.length
 ·have hd:decide ((i:Int)<(l.length:Int))=true:=af (by omega);obtain⟨pb,po,hpb,hia,hld⟩:=Dm (hs.grow hg) i hlt;simp only[WX,Nat.reduceAdd,Nat.reduceLeDiff,B21,hd,hia,hld];refine aB (CT h55 (Di _ _ _ _ _) ?_);have hgx:=fun x=>hg.set c1 x hg.le (bD _) (bU _);by_cases hm:iX l[i]=true
  ·have hw:=BT l[i] hm;have e1:w55 l[i].op l[i].d l[i].a l[i].b l[i].i=(fj l[i]:Int):=ac hm;have e2:vc l[i].op l[i].d l[i].a l[i].b l[i].i=0:=ac hm;have hsn:cB (l.take (i+1))=cB (l.take i)++iT (fj l[i]):=by
    rw[List.take_succ_eq_append_getElem hlt,sO]
   rw[e1,e2];generalize fj l[i]=w at hw hsn⊢;have q1:=kL w;have q2:=ru w;have q3:=kL (w/256);have q4:=oF w;have q5:=kL (w/65536);have q6:=yr w;have q7:=kL (w/16777216);simp only[WX,Nat.reduceAdd,B21,q1,q2,q3,q4,q5,q6,q7,ne_eq,not_true_eq_false];rw[←AE];have hgy:=fun x y=>(hgx x).set (c1+1) y (by have:=hg.le;omega) (bD _) (bU _);have hacc':=fun x y=>hacc.up (M':=(M1.set c1 x).set (c1+1) y) (c':=c1+2) (by omega) (fun hb=>by rw[aq _ _ (by omega),aq _ _ (by omega)])
   refine aB ((Um (hacc' _ _) (hgy _ _) Nat.one_pos (E6 (aw _ _ _) (by omega) (by intro e he;obtain⟨x,_,rfl⟩:=List.mem_map.1 he;rfl) (by rfl)) (lc _) (by
    rw[List.length_map,List.length_map,ft,List.length_take,Nat.min_eq_left hi];simp[iT];omega) (by simp[iT])).mono ?_)
   rintro v2 M2 c2 ⟨rfl,hacc2,hg2,-⟩;rw[←List.map_append,←hsn]at hacc2;have q8:bu .add (.i .i64 (i:Int)) (.i .i64 1)=some (.i .i64 ((i+1:Nat):Int)):=by rw[bA _ _ (by omega) (by omega)];simp
   simp only[WX,B21,q8];refine⟨l.length-(i+1),by omega,(hI _ _).2 ⟨i+1,M2,_,v2,[none,_,_,_,none,_,_,_,_,_,_,_,_,none,none,none,_,_,_,_,_,_,_,_,_,_,_,_,_,_,_,_,_,_,_,_,_,_,_,_,_,_,_,_,_,_,_,_,_,_,_,_,_,_,_,_,_,_,_,_,_,_,_],rfl,by omega,rfl,hg2,hacc2,fun j hj hj2=>?_⟩⟩;by_cases hji:j=i
   ·subst hji;exact hm
   ·exact hmay j hj (by omega)
  ·have e2:vc l[i].op l[i].d l[i].a l[i].b l[i].i=2:=ab hm;rw[e2];simp only[WX,Int.reduceEq,B21,ne_eq,not_false_eq_true];refine⟨hgx _,.inr ?_⟩;rw[Bool.eq_false_iff];intro ha;exact hm (List.all_eq_true.1 ha _ (List.getElem_mem hlt))
 ·have hd:decide ((i:Int)<(l.length:Int))=false:=ag (by omega);simp only[WX,B21,hd];obtain rfl:i=l.length:=by omega
  rw[List.take_length]at hacc;refine⟨hg,.inl ⟨?_,acc,rfl,hacc.sl⟩⟩;rw[List.all_eq_true];intro x hx;obtain⟨j,hj,rfl⟩:=List.getElem_of_mem hx;exact hmay j hj hj
def av4:CC:=(.reg [(qq a3 (.mv z0)),(qq a4 (.eq false .slice true z3 (.c .l0)))])
def av5:CC:=(.seq (.reg [(qq a2 (.mv (.c .l0)))]) .ret)
def av6:CC:=(.reg [(aa a5 (.bsl 5 0 1 [(.i .u8 0)] [])),(qq a6 (.mv z0)),(ee a7 (.app 5 1 1 z5 z6)),(qq a2 (.mv z7))])
def av7:CC:=(.seq (.seq av4 (.cond z4 av5 .skip)) (.seq av6 .ret))
def av8:CC:=(.seq (.reg [(qq a2 (.mv (.c .l0)))]) av7)
def c36:CF:= .mk 4 [.t a2] av8
theorem e36(v0:V):aS 4 [v0]=(.n iC (some v0) iC):=rfl
def B36:=ai @e36 (ai (wu av4.eq_1) (ai (wu av5.eq_1) (ai (wu av6.eq_1) (ai (wu av7.eq_1) (wu av8.eq_1)))))
def aj9:CC:=(.reg [(qq a4 (.mv z0)),(ee a5 (.call 36 [z4])),(aa a3 (.al 22 [.l0])),(ez (.st 1 z3 z5))])
def ak0:CC:=(.reg [(qq a6 (.mkf 37 [] [z3])),(qq a2 (.mv z6))])
def ak1:CC:=(.seq (.reg [(qq a2 (.mv (.c .f0)))]) (.seq aj9 (.seq ak0 .ret)))
def c13:CF:= .mk 3 [.t a2] ak1
theorem e13(v0:V):aS 3 [v0]=(.n mN (some v0) mN):=rfl
def B13:=ai @e13 (ai (wu aj9.eq_1) (ai (wu ak0.eq_1) (wu ak1.eq_1)))
theorem bg9{F:RO}{M:Mem}{c sz:Nat}{v:V}{es:List (List V)}(h:cU F M c sz v es):(v= .l0∧es=[])∨(v≠ .l0∧tV v=some false):=by
 rcases h with⟨_,⟨rfl,rfl|⟨b,o0,o,rfl⟩⟩|⟨b,o,⟨cap,_,rfl⟩|⟨el,kn,_,rfl⟩,_⟩⟩
 ·exact .inl ⟨rfl,rfl⟩
 ·exact .inr ⟨(by intro h;cases h),rfl⟩
 ·exact .inr ⟨(by intro h;cases h),rfl⟩
 ·exact .inr ⟨(by intro h;cases h),rfl⟩
theorem UL{F:RO}(lit:Bool)(M:Mem):ua F M .slice lit .l0 .l0=some true:=rfl
theorem UK{F:RO}{v:V}(h:tV v=some false)(lit:Bool)(M:Mem):ua F M .slice lit v .l0=some false:=by
 show jf true (tV v) (tV .l0)=_
 rw[h];rfl
theorem Yr{F:RO}{M0 M:Mem}{c0 c b ty sz bytes:Nat}{y:V}{ns:List (List V)}(hg:Gr c0 M0 c M)(hsz:0<sz)(hy:cU F M c sz y ns)(h1:br ns.flatten=true)(hr:kY ns.length bytes=true)(hb:b<c):
 wY (tF F M c ty sz bytes (.l b 0 0 0) y) fun v' M' c'=>ie F M' b c' sz v' ns∧Gr c0 M0 c' M'∧c≤c'∧v'≠ .l0:=by
 unfold tF
 rw[ri hsz hy]
 have hnl:=fw hy.1
 have e1:kR F M c ty sz bytes (.l b 0 0 0) (some (ns.length,ns.flatten))=app F M c ty sz bytes (.l b 0 0 0) ns.length ns.flatten:=by
  show(bif br ns.flatten&&Nat.beq ns.flatten.length (Nat.mul ns.length sz)then _ else _)=_;rw[h1,bp,af (show ns.flatten.length=Nat.mul ns.length sz from hnl)];rfl
 rw[e1]
 by_cases hz:ns=[]
 ·subst hz;refine⟨.l b 0 0 0,M,c,rfl,fun M' _=>⟨fun e he=>(by cases he),.inr ⟨b,0,.inl ⟨0,ah _,rfl⟩,hb,fun k hk=>(by cases hk)⟩⟩,hg,ah _,(by intro h;cases h)⟩
 ·have hn0:ns.length≠0:=fun e=>hz (List.length_eq_zero_iff.1 e);have e2:app F M c ty sz bytes (.l b 0 0 0) ns.length ns.flatten=jW M c ty bytes ns.length 0 false ns.flatten:=by
   unfold app;rw[bp,ag hn0,cond_false];show ql F M c ty sz bytes b 0 0 0 ns.length ns.flatten=_;unfold ql;rw[bG,ag (show¬Nat.add 0 ns.length≤0 by show¬0+ns.length≤0;omega),cond_false];show rT M c ty bytes (0+ns.length) 0 false ns.flatten (some ([],none))=_;rw[Nat.zero_add];rfl
  refine⟨_,_,_,e2.trans (qH M c ty bytes ns.length ns.flatten hr),fun M' hM'=>⟨hy.1,.inr ⟨c,0,.inr ⟨0,ns.length,by omega,rfl⟩,by omega,(zL (by rw[hM' c (by omega) (by omega)];exact aw _ _ _)).cells⟩⟩,hg.set c _ hg.le (by omega) (by omega),by omega,(by intro h;cases h)⟩
theorem r36(Φ:Nat→Option CF)(h:Φ 36=some c36){F:RO}{M:Mem}{c:Nat}{v:V}{l:List UInt8}(ok:eA F M c)(hs:l9 F M c v l)(hl:l.length≤9000):
 Calls Φ F 36 [v] M c fun r M' c'=>ie F M' c c' 1 r (l.map fun x=>[bV x])∧Gr c M c' M':=by
 refine ax h ?_
 rcases bg9 hs with⟨rfl,hn⟩|⟨hv,hn⟩
 ·simp only[WX,B36,UL];exact⟨fun M' _=>⟨hs.1,.inl ⟨hn,.inl rfl⟩⟩,Gr.refl ok⟩
 ·have q:=fun lit M=>UK (F:=F) hn lit M;simp only[WX,B36,q];have hg:=fun x=>(Gr.refl ok).set c x (ah _) (bD _) (bU _);refine aB ((Yr (M0:=M) (c0:=c) (hg _) Nat.one_pos (hs.grow (hg _)) (lc l) (eO (by simp;omega) (by simp;omega)) (bD _)).mono ?_);rintro v1 M1 c1 ⟨h1,h2,_,_⟩;simp only[WX];exact⟨h1,h2⟩
theorem r13(Φ:Nat→Option CF)(h:Φ 13=some c13)(h36:Φ 36=some c36){F:RO}{M:Mem}{c:Nat}{v:V}{l:List UInt8}(ok:eA F M c)(hs:l9 F M c v l)(hl:l.length≤9000):
 Calls Φ F 13 [v] M c fun r M' c'=>∃pb w,r= .f 37 [] [.p pb 0]∧c≤pb∧pb<c'∧M'.get pb=some (aK 22 [w])∧ie F M' c c' 1 w (l.map fun x=>[bV x])∧Gr c M c' M':=by
 refine ax h ?_
 simp only[WX,B13]
 refine aB ((r36 Φ h36 ok hs hl).mono ?_)
 rintro v1 M1 c1 ⟨hs1,hg1⟩
 have h1:dq v1=true:=by
  rcases hs1.sl with⟨_,⟨_,rfl|⟨b,o0,o,rfl⟩⟩|⟨b,o,⟨cap,_,rfl⟩|⟨el,kn,_,rfl⟩,_⟩⟩<;>rfl
 have h2:flatten v1=[v1]:=by
  rcases hs1.sl with⟨_,⟨_,rfl|⟨b,o0,o,rfl⟩⟩|⟨b,o,⟨cap,_,rfl⟩|⟨el,kn,_,rfl⟩,_⟩⟩<;>rfl
 simp only[WX,Nat.reduceLeDiff,B13,h1,h2]
 have hg2:=hg1.set c1 (aK 22 [v1]) hg1.le (bD _) (bU _)
 exact⟨c1,v1,rfl,hg1.le,bD _,aw _ _ _,hs1.gr ((Gr.refl (hg1.ok ok)).set c1 _ (ah _) (bD _) (bU _)),hg2⟩
def gz(a b c d:UInt8):Nat:=a.toNat+256*b.toNat+65536*c.toNat+16777216*d.toNat
def pJ(w:Nat):nc:=⟨pS w,dW w,aW w,bW w,iW w⟩
def aN:List UInt8→List nc
 |a::b::c::d::r=>if Lv (gz a b c d)=true then pJ (gz a b c d)::aN r else[]
 |_=>[]
theorem lw(a b c d:UInt8)(r:List UInt8):aN (a::b::c::d::r)=if Lv (gz a b c d)=true then pJ (gz a b c d)::aN r else[]:=by rw[aN]
theorem dG{l:List UInt8}(h:l.length<4):aN l=[]:=by
 match l,h with
 |[],_=>rfl
 |[_],_=>rfl
 |[_,_],_=>rfl
 |[_,_,_],_=>rfl
theorem Bo{a b c d:UInt8}(h:Lv (gz a b c d)=true):Bl [a,b,c,d]= .t [.g (mY (pJ (gz a b c d))),.i .i64 0]:=by
 show Kd (gz a b c d)=_
 rw[nK]
 simp only[okI,erW,h,if_true]
 rfl
theorem Bn{a b c d:UInt8}(h:¬Lv (gz a b c d)=true):Bl [a,b,c,d]=vz:=by
 show Kd (gz a b c d)=_
 rw[nK]
 simp only[okI,erW,h]
 rfl
theorem Hw{l:List UInt8}{k:Nat}(h:4*k+4≤l.length):∃a b c d,(l.take (4*k+4)).drop (4*k)=[a,b,c,d]∧l.drop (4*k)=a::b::c::d::l.drop (4*(k+1)):=by
 have h1:((l.take (4*k+4)).drop (4*k)).length=4:=by simp;omega
 obtain⟨a,b,c,d,e⟩:=Vm h1
 refine⟨a,b,c,d,e,?_⟩
 have e2:l.drop (4*k)=(l.drop (4*k)).take 4++(l.drop (4*k)).drop 4:=(List.take_append_drop _ _).symm
 rw[List.drop_take,show 4*k+4-4*k=4 by omega]at e
 rw[e,List.drop_drop]at e2
 rw[e2,show 4*(k+1)=4*k+4 by omega];rfl
theorem mg:∀(n:Nat) (l:List UInt8),l.length≤n→4*(aN l).length≤l.length
 |0,l,h=>by
  rw[dG (by omega)];simp
 |n+1,l,h=>by
  by_cases h1004:l.length<4
  ·rw[dG h1004];simp
  ·obtain⟨a,b,c,d,r,rfl⟩:∃a b c d r,l=a::b::c::d::r:=by
    match l,h1004 with
    |a::b::c::d::r,_=>exact⟨a,b,c,d,r,rfl⟩
    |[],h1004=>exact absurd (by decide) h1004
    |[_],h1004=>exact absurd (by simp) h1004
    |[_,_],h1004=>exact absurd (by simp) h1004
    |[_,_,_],h1004=>exact absurd (by simp) h1004
   rw[lw];split
   ·have:=mg n r (by simp at h;omega);simp only[bk];omega
   ·simp
def fY(n:Nat):UInt8:=if n<10 then UInt8.ofNat (48+n)else UInt8.ofNat (87+n)
def iU(l:List UInt8):List UInt8:=l.flatMap fun b=>[fY (b.toNat/16),fY (b.toNat%16)]
def gG(l:List UInt8):List UInt8:=if l=[]then[46]else iU l
def kh(x:nc):List UInt8:=cL x.op x.d x.a x.b x.i
def da(l:List UInt8):List UInt8:=if 8192<l.length then[]else if aN l=[]∨4*(aN l).length≠l.length then 58::gG l else aT [44,32] ((aN l).map kh)
def UnP(F:RO)(M:Mem)(c:Nat)(s:List UInt8)(r:V):Prop:=
 (∃v l,r= .t [v,.i .i64 0]∧l9 F M c v l∧l.length≤8192∧da l=s)∨((∀l,l.length≤8192→da l≠s)∧r= .t [.l0,.i .i64 4])
theorem AN(n m:Nat)(hn:n<16)(hm:m<16)(h:fY n=fY m):n=m:=by
 have:∀n,n<16→ ∀m,m<16→fY n=fY m→n=m:=by decide
 exact this n hn m hm h
theorem AL:∀(l l':List UInt8),iU l=iU l'→l=l'
 |[],[],_=>rfl
 |[],b::r,h=>by cases h
 |b::r,[],h=>by cases h
 |b::r,b'::r',h=>by
  unfold iU at h;rw[List.flatMap_cons,List.flatMap_cons]at h;injection h with h1 h
  injection h with h2 h
  have hb:=UInt8.toNat_lt b;have hb':=UInt8.toNat_lt b';have e1:=AN _ _ (by omega) (by omega) h1;have e2:=AN _ _ (by omega) (by omega) h2;have e3:b=b':=UInt8.toNat_inj.1 (by omega);rw[e3,AL r r' h]
theorem HI:∀(l:List UInt8),iU l≠[46]
 |[],h=>by cases h
 |b::r,h=>by
  unfold iU at h;rw[List.flatMap_cons]at h;injection h with h1 h
  cases h
theorem AM(l l':List UInt8)(h:gG l=gG l'):l=l':=by
 unfold gG at h
 split at h
 ·rename_i e;split at h
  ·rename_i e';rw[e,e']
  ·exact absurd h.symm (HI _)
 ·split at h
  ·exact absurd h (HI _)
  ·exact AL _ _ h
theorem gS(l:List UInt8):(iU l).length=2*l.length:=by
 induction l with
 |nil=>rfl
 |cons b r ih=>unfold iU at ih⊢;rw[List.flatMap_cons,bE,ih];simp;omega
theorem Vg:∀(a b:List (List UInt8)),(∀x∈a,∀y∈x,y≠44)→(∀x∈b,∀y∈x,y≠44)→a≠[]→b≠[]→aT [44,32] a=aT [44,32] b→a=b:=by
 have key:∀(x y r r':List UInt8),(∀z∈x,z≠44)→(∀z∈y,z≠44)→x++44::r=y++44::r'→x=y∧r=r':=by
  intro x
  induction x with
  |nil=>
   intro y r r' _ hy h;cases y with
   |nil=>injection h with _ h;exact⟨rfl,h⟩
   |cons z y=>injection h with h _;exact absurd h.symm (hy z (bh ..))
  |cons z x ih=>
   intro y r r' hx hy h;cases y with
   |nil=>injection h with h _;exact absurd h (hx z (bh ..))
   |cons z' y=>
    injection h with h1 h2
    obtain⟨e1,e2⟩:=ih y r r' (fun u hu=>hx u (bc _ hu)) (fun u hu=>hy u (bc _ hu)) h2;exact⟨by rw[h1,e1],e2⟩
 have no:∀(x y r:List UInt8),(∀z∈x,z≠44)→x≠y++44::r:=fun x y r hx e=>hx 44 (by rw[e];simp) rfl
 intro a
 induction a with
 |nil=>intro b _ _ h;exact absurd rfl h
 |cons x a ih=>
  intro b ha hb _ hb0 h;cases b with
  |nil=>exact absurd rfl hb0
  |cons y b=>
   have hx:=ha x (bh ..);have hy:=hb y (bh ..);cases a with
   |nil=>
    cases b with
    |nil=>
     have:x=y:=by simpa [aT]using h
     rw[this]
    |cons y' b=>
     exact absurd (show x=y++44::(32::aT [44,32] (y'::b)) by simpa [aT]using h) (no _ _ _ hx)
   |cons x' a=>
    cases b with
    |nil=>exact absurd (show y=x++44::(32::aT [44,32] (x'::a)) by simpa [aT]using h.symm) (no _ _ _ hy)
    |cons y' b=>
     have h':x++44::(32::aT [44,32] (x'::a))=y++44::(32::aT [44,32] (y'::b)):=by simpa [aT]using h
     obtain⟨e1,e2⟩:=key _ _ _ _ hx hy h';injection e2 with _ e2
     have:=ih (y'::b) (fun u hu=>ha u (bc _ hu)) (fun u hu=>hb u (bc _ hu)) (by simp) (by simp) e2;rw[e1,this]
theorem r20(Φ:Nat→Option CF){L:List gF}(h14:Φ 14=some (.orc (ce L h14)))(h50:Φ 50=some Uf)(h35:Φ 35=some (.orc (aj vn)))(h51:Φ 51=some Y0)(h53:Φ 53=some (.orc (aj wM)))(h52:Φ 52=some yR)(h89:Φ 89=some xe)(h85:Φ 85=some wD)(h112:Φ 112=some jR)(h113:Φ 113=some jS)(h119:Φ 119=some kQ)(h84:Φ 84=some tI)(h136:Φ 136=some (.orc (aj h136)))(h110:Φ 110=some (.orc (aj h110)))(h:Φ 20=some c20)(h54:Φ 54=some c54)(h91:Φ 91=some (.orc (aj h91)))(h79:Φ 79=some (.orc (aj h79)))(h120:Φ 120=some Jy)(h41:Φ 41=some (.orc (aj h41)))(h40:Φ 40=some (.orc (aj h40)))
 {F:RO} {M:Mem} {c:Nat} (ok:eA F M c) (ht:bB F L=true) (hE1:bF F 1) (hE2:bF F 2) (hlow:∀g,g<1000→M.get g=none) (s:List UInt8) (hs:s.length≤1000000):
 Calls Φ F 20 [sV s] M c fun r M' c'=>j2 s r∧Gr c M c' M':=by
 refine ax h ?_
 have hge:=ok.ge
 have hS:∀l,dq (sV l)=true:=fun _=>rfl
 have hF:∀l,flatten (sV l)=[sV l]:=fun _=>rfl
 have hF2:∀f a b,flatten (V.f f a b)=[V.f f a b]:=fun _ _ _=>rfl
 simp only[WX,Nat.reduceBEq,Nat.reduceAdd,Nat.reduceLeDiff,e20,b14,b15,b16,b17,b18,b19,WF,hS,hF,hF2]
 obtain⟨X,hX⟩:∃X:Mem,X=(((M.set c (aK 59 [V.i .i64 0,V.i .i64 0,V.i .i64 0,V.i .i64 0,V.i .i64 0])).set (c+1) (aK 9 [sV s])).set (c+2) (aK 79 [V.f 50 [] [V.p (c+1) 0]])).set (c+3) (aK 59 [V.i .i64 0,V.i .i64 0,V.i .i64 0,V.i .i64 0,V.i .i64 0]):=⟨_,rfl⟩
 rw[←hX]
 have grX:Gr c M (c+4) X:=by
  rw[hX];exact((((Gr.refl ok).set c _ (ah _) (bD _) (bU _)).set (c+1) _ (by omega) (show c+1<c+2 by omega) (by omega)).set (c+2) _ (by omega) (show c+2<c+3 by omega) (by omega)).set (c+3) _ (by omega) (by omega) (by omega)
 have okX:=grX.ok ok
 have x0:X.get c=some (aK 59 [.i .i64 0,.i .i64 0,.i .i64 0,.i .i64 0,.i .i64 0]):=by rw[hX,aq _ _ (by omega),aq _ _ (by omega),aq _ _ (by omega),aw]
 have x1:X.get (c+1)=some (aK 9 [sV s]):=by rw[hX,aq _ _ (by omega),aq _ _ (by omega),aw]
 have x2:X.get (c+2)=some (aK 79 [.f 50 [] [.p (c+1) 0]]):=by rw[hX,aq _ _ (by omega),aw]
 have x3:X.get (c+3)=some (aK 59 [.i .i64 0,.i .i64 0,.i .i64 0,.i .i64 0,.i .i64 0]):=by rw[hX,aw]
 have xl:∀g,g<1000→X.get g=none:=fun g hg=>by rw[grX.old g (by omega)];exact hlow g hg
 clear hX
 refine aB ((r50 Φ h50 h35 x1 hs).mono ?_)
 rintro r M1 c1 ⟨rfl,rfl,rfl⟩
 have ok1:=okX.put (y:=aK 9 [sV (mV s)]) (show c+1<c+4 by omega) x1
 simp only[WX]
 refine aB ((r54 Φ h54 h91 h79 h120 (rL s) ok1).mono ?_)
 rintro r M2 c2 ⟨⟨op,b,rfl,hfd⟩,hg⟩
 have ok2:=hg.ok ok1
 have o:∀x,x<c+4→x≠c+1→M2.get x=X.get x:=fun x hx hn=>by rw[hg.old x hx,aq _ _ hn]
 have hle:=hg.le
 have e1003:M2.get (c+3)=some (aK 59 [.i .i64 0,.i .i64 0,.i .i64 0,.i .i64 0,.i .i64 0]):=by rw[o _ (by omega) (by omega)];exact x3
 have hst:=bC e1003 0 [.i .i64 op] (by simp) rfl
 have ld3:load1 F (M2.set (c+3) (aK 59 (over [.i .i64 0,.i .i64 0,.i .i64 0,.i .i64 0,.i .i64 0] 0 [.i .i64 op]))) (c+3) 0=some (.i .i64 op):=bZ (aw _ _ _) 0
 rw[show over [V.i .i64 0,V.i .i64 0,V.i .i64 0,V.i .i64 0,V.i .i64 0] 0 [V.i .i64 op]=[.i .i64 op,.i .i64 0,.i .i64 0,.i .i64 0,.i .i64 0]from rfl]at ld3
 simp only[WX,Nat.reduceAdd,Nat.reduceLeDiff,b20,hst,ld3,h41,mf,h40,zd]
 have gY:Gr c2 (M2.set (c+3) (aK 59 [.i .i64 op,.i .i64 0,.i .i64 0,.i .i64 0,.i .i64 0])) (c2+1) ((M2.set (c+3) (aK 59 [.i .i64 op,.i .i64 0,.i .i64 0,.i .i64 0,.i .i64 0])).set c2 (aK 94 [.b (dI (aD op)),.b (aI (aD op)),.b (bI (aD op)),.b (iI (aD op))])):=
  (Gr.refl (ok2.put (by omega) e1003)).set c2 _ (ah _) (bD _) (bU _)
 have okY:=gY.ok (ok2.put (by omega) e1003)
 have hPI:PI F M ((M2.set (c+3) (aK 59 [.i .i64 op,.i .i64 0,.i .i64 0,.i .i64 0,.i .i64 0])).set c2 (aK 94 [.b (dI (aD op)),.b (aI (aD op)),.b (bI (aD op)),.b (iI (aD op))])) (c2+1) c c2 (mV s) op 0 0 0 0:=by
  refine⟨okY,by omega,by omega,hge,?_,?_,?_,?_,aw _ _ _,fun g hg'=>?_,bm (Ah s) hs,((((grX.set (c2:=c+4) (c+1) _ (by omega) (by omega) (ah _)).trans hg).set (c2:=c2) (c+3) _ (by omega) (by omega) (ah _))).set (c2:=c2+1) c2 _ (by omega) (by omega) (by omega)⟩
  ·rw[aq _ _ (by omega),aq _ _ (by omega),o c (by omega) (by omega)];exact x0
  ·rw[aq _ _ (by omega),aq _ _ (by omega),hg.old (c+1) (by omega),aw]
  ·rw[aq _ _ (by omega),aq _ _ (by omega),o (c+2) (by omega) (by omega)];exact x2
  ·rw[aq _ _ (by omega),aw]
  ·rw[aq _ _ (by omega),aq _ _ (by omega),o g (by omega) (by omega)];exact xl g hg'
 simp only[WX,WE]
 refine cA1 Φ h14 h50 h35 h51 h53 h52 h89 h85 h112 h113 h119 h84 h136 h110 ht hE1 hE2 hPI ?_ [none,_,none,none,none,none,none,none,none,_,_,_,_,_,_,_,_,_,_,_,_,_,_,_,_,_,_,_,_,_,_,_,_,_,_,_,_,_,_,_,_,_,_,_,_,_,_,_,_,_,_,_,_,_,_,_,_,_,_,_,_,_,_]
 intro op' d' a' b' i' hm' hs'
 have hw:s=aT [32] (dC op'::R1 op' d' a' b' i'):=by rw[←lH];exact hs'.symm
 obtain⟨w1,w2⟩:=gP (dC op') (R1 op' d' a' b' i') (ud op')
 rw[←hw]at w1 w2
 obtain⟨n1,n2,_⟩:=dL hm'
 have hN:C7 (dC op') op'.toNat:=by
  unfold C7 dC;rw[ac ⟨n1,n2⟩,List.getElem?_eq_getElem (show op'.toNat<d9.length by rw[dx];omega)];exact⟨by omega,rfl⟩
 rw[w1]at hfd
 rcases hfd with⟨k,hk,rfl,_⟩|⟨hk,_⟩
 ·have:=vu hN hk;have he:op'=(k:Int):=by omega
  subst he;exact⟨rfl,w2⟩
 ·exact absurd hN (hk _)
def au5:CC:=(.reg [(aa a1 (.bx 59 5 z0)),(qq a2 (.mv (.c (.s 0 0))))])
def b30:=wu au5.eq_1
def au6:CC:=(.reg [(qq a9 (.fa 0 z1)),(qq cg (.ld1 z9)),(ee cI (.call 60 [cj])),(ee de (.call 59 [cD])),(qq a8 (.mv cS)),(qq cH (.ex 0 z8)),(qq db (.ex 1 z8)),(qq du (.ex 2 z8)),(qq dE (.ex 3 z8)),(qq a3 (.mv cR)),(qq a4 (.mv dD)),(qq a5 (.mv dj)),(qq a6 (.mv dQ))])
def b31:=wu au6.eq_1
def au7:CC:=(.dreg 6 [(1,0,(qq dY (.fa 0 z1))),(2,2,(qq eg (.ld1 ey))),(0,0,(ee dO (.call 58 []))),(3,7,(qq eQ (.iaS 1 dM eV))),(4,15,(qq dP (.ld1 eW))),(5,31,(qq a7 (.mv fm)))])
def b32:=wu au7.eq_1
def au8:CC:=(.reg [(qq eB (.mv z3))])
def X0:=wu au8.eq_1
def au9:CC:=(.reg [(qq ec (.mv z7)),(qq dH (.bi .add fG (.c (.s 2 29216)))),(qq eR (.fa 1 z1)),(qq eD (.ld1 fJ)),(ee eJ (.call 43 [fK])),(qq fk (.bi .add fH fL)),(qq a7 (.mv g9))])
def b33:=wu au9.eq_1
def Pw:CC:=(.seq au8 (.cond eX au9 .skip))
def X1:=wu Pw.eq_1
def av0:CC:=(.reg [(qq eE (.mv z4))])
def X2:=wu av0.eq_1
def av1:CC:=(.reg [(qq eY (.mv z7)),(qq gH (.bi .add gC (.c (.s 2 29216)))),(qq fo (.fa 2 z1)),(qq gu (.ld1 iE)),(ee gh (.call 43 [j1])),(qq iq (.bi .add gD ji)),(qq a7 (.mv jj))])
def b34:=wu av1.eq_1
def Hf:CC:=(.seq av0 (.cond gA av1 .skip))
def X3:=wu Hf.eq_1
def Pq:CC:=(.reg [(qq j3 (.mv z5))])
def EE:=wu Pq.eq_1
def Ps:CC:=(.reg [(qq iO (.mv z7)),(qq ib (.bi .add jk (.c (.s 2 29216)))),(qq j4 (.fa 3 z1)),(qq gJ (.ld1 kq)),(ee jL (.call 43 [kO])),(qq ja (.bi .add kf kr)),(qq a7 (.mv l5))])
def WY:=wu Ps.eq_1
def uK:CC:=(.seq Pq (.cond jz Ps .skip))
def EF:=wu uK.eq_1
def Pt:CC:=(.reg [(qq jA (.mv z6))])
def bm4:=wu Pt.eq_1
def Pu:CC:=(.reg [(qq jB (.mv z7)),(qq kl (.bi .add lM (.c (.s 1 32)))),(qq kg (.fa 4 z1)),(qq km (.ld1 mR)),(ee jb (.call 43 [lN])),(qq ga (.bi .add mE n6)),(qq a7 (.mv mS))])
def bm5:=wu Pu.eq_1
def rJ:CC:=(.seq Pt (.cond lJ Pu .skip))
def bm6:=wu rJ.eq_1
def rK:CC:=(.reg [(qq mU (.mv z7)),(qq a2 (.mv oG))])
def bm7:=wu rK.eq_1
def Pv:CC:=(.seq Pw (.seq Hf (.seq uK (.seq rJ (.seq rK .ret)))))
def WZ:=wu Pv.eq_1
def c28:CF:= .mk 6 [.t a2] (.seq au5 (.seq au6 (.seq au7 Pv)))
theorem e28(v0:V):aS 6 [v0]=(.n mr (some v0) mr):=rfl
def B28:=ai @e28 (ai @b30 (ai @b31 (ai @b32 (ai @X0 (ai @b33 (ai @X1 (ai @X2 (ai @b34 (ai @X3 (ai @EE (ai @WY (ai @EF (ai @bm4 (ai @bm5 (ai @bm6 (ai @bm7 (@WZ)))))))))))))))))
def nI:bz:=eU [.s 0 0] 9 (d9.map sV)
theorem bV8(Φ:Nat→Option CF)(h:Φ 58=some c58){F:RO}{M:Mem}{c:Nat}:fu (mW Φ) F 58 [] M c (Φ 58)= .k (.l c 0 29 29) (M.set c nI) (c+1):=by
 have hk:Calls Φ F 58 [] M c fun r M' c'=>r= .l c 0 29 29∧M'=M.set c nI∧c'=c+1:=by
  refine ax h ?_;simp only[WX,Nat.reduceAdd,B58];rfl
 obtain⟨v,M',c',e,rfl,rfl,rfl⟩:=hk
 exact e
theorem AY{F:RO}{M:Mem}{b c:Nat}(h:M.get b=some nI)(hb:b<c):cU F M c 1 (.l b 0 29 29) (d6 d9):=by
 refine E6 (d:=[.s 0 0]) (ty:=9) ?_ hb (fun e he=>by obtain⟨x,_,rfl⟩:=List.mem_map.1 he;rfl) rfl
 rw[h];rfl
def jy(l:List (List UInt8)):List UInt8:=(l.map fun x=>[32]++x).flatten
theorem nZ(a b:List (List UInt8)):jy (a++b)=jy a++jy b:=by simp[jy]
theorem Wq:jy []=[]:=rfl
theorem rn(x:List UInt8):jy [x]=32::x:=by simp[jy]
theorem bX4(Φ:Nat→Option CF){L:List gF}(h43:Φ 43=some (.orc (ce L wL))){F:RO}{M:Mem}{c1 cb:Nat}(ht:bB F L=true){op d a b i:Int}(hM:M.get cb=some (aK 59 [.i .i64 op,.i .i64 d,.i .i64 a,.i .i64 b,.i .i64 i]))(hm:bQ op d a b i=true){fd fa fb fi:Bool}(hfd:fd=dI (aD op))(hfa:fa=aI (aD op))(hfb:fb=bI (aD op))(hfi:fi=iI (aD op))(w:List UInt8)(hw:w.length≤100)(u:List (Option V)):
 Wp rJ (K Φ none 28 F) (.mk ((.n (.n (.n (.n (eH u 31 15 47) (some (sV w)) (eH u 39 23 55)) (some (.b fd)) (ay u 35 19 51 11 43 27 59)) (some (.p cb 0)) (.n (ay u 33 17 49 9 41 25 57) (some (.b fb)) (ay u 37 21 53 13 45 29 61))) (uO u 0) (.n (.n (ay u 32 16 48 8 40 24 56) (some (.b fa)) (ay u 36 20 52 12 44 28 60)) (uO u 2) (.n (ay u 34 18 50 10 42 26 58) (some (.b fi)) (ay u 38 22 54 14 46 30 62))))) [] M c1) (mZ (.seq rK .ret) (K Φ none 28 F) (j5 F [.t (.r .h)] fun r _ _=>r=sV (w++jy (R4 op i)))):=by
 have hT:=fun h args M c=>eu ht h args M c
 obtain⟨n1,n2,n3,n4,n5⟩:=dL hm
 have lf:load1 F M cb 4=some (.i .i64 i):=bZ hM 4
 have hr: -10000000<i∧i<10000000:=by omega
 have hc1:bu .add (sV w) (.s 1 32)=some (sV (w++[32])):=eK w [32] (by simp;omega)
 have hc2:bu .add (sV (w++[32])) (sV (bS i))=some (sV (w++[32]++bS i)):=eK _ _ (by have:=fy i;simp;omega)
 cases fi with
 |true=>
  simp only[WX,B28,lf,hc1,h43,hT,pH hr.1 hr.2,hc2];rw[R4,←hfi,ac rfl,rn,kz];rfl
 |false=>
  simp only[WX,B28];rw[R4,←hfi,ab (by decide),Wq,di]
theorem bX3(Φ:Nat→Option CF){L:List gF}(h43:Φ 43=some (.orc (ce L wL))){F:RO}{M:Mem}{c1 cb:Nat}(ht:bB F L=true){op d a b i:Int}(hM:M.get cb=some (aK 59 [.i .i64 op,.i .i64 d,.i .i64 a,.i .i64 b,.i .i64 i]))(hm:bQ op d a b i=true){fd fa fb fi:Bool}(hfd:fd=dI (aD op))(hfa:fa=aI (aD op))(hfb:fb=bI (aD op))(hfi:fi=iI (aD op))(w:List UInt8)(hw:w.length≤80)(u:List (Option V)):
 Wp uK (K Φ none 28 F) (.mk ((.n (.n (.n (.n (eH u 31 15 47) (some (sV w)) (eH u 39 23 55)) (some (.b fd)) (ay u 35 19 51 11 43 27 59)) (some (.p cb 0)) (.n (ay u 33 17 49 9 41 25 57) (some (.b fb)) (ay u 37 21 53 13 45 29 61))) (uO u 0) (.n (.n (ay u 32 16 48 8 40 24 56) (some (.b fa)) (ay u 36 20 52 12 44 28 60)) (uO u 2) (.n (ay u 34 18 50 10 42 26 58) (some (.b fi)) (ay u 38 22 54 14 46 30 62))))) [] M c1) (mZ (.seq rJ (.seq rK .ret)) (K Φ none 28 F) (j5 F [.t (.r .h)] fun r _ _=>r=sV (w++jy (R3 op b i)))):=by
 have hT:=fun h args M c=>eu ht h args M c
 obtain⟨n1,n2,n3,n4,n5⟩:=dL hm
 have lf:load1 F M cb 3=some (.i .i64 b):=bZ hM 3
 have hr: -10000000<b∧b<10000000:=by have:=n3 2;rw[show fl d a b 2=b from rfl]at this;omega
 have hc1:bu .add (sV w) (.s 2 29216)=some (sV (w++[32,114])):=eK w [32,114] (by simp;omega)
 have hc2:bu .add (sV (w++[32,114])) (sV (bS b))=some (sV (w++[32,114]++bS b)):=eK _ _ (by have:=fy b;simp;omega)
 cases fb with
 |true=>
  simp only[WX,EE,WY,EF,lf,hc1,h43,hT,pH hr.1 hr.2,hc2];rw[show w++jy (R3 op b i)=(w++[32,114]++bS b)++jy (R4 op i) by rw[R3,←hfb,ac rfl,nZ,rn];simp];exact bX4 (c1:=c1) Φ h43 ht hM hm hfd hfa hfb hfi (w++[32,114]++bS b) (by have:=fy b;simp;omega) [_,none,_,none,none,none,none,none,_,_,_,_,_,_,_,_,_,_,_,_,_,_,_,_,_,_,_,_,_,_,_,_,_,_,_,_,_,_,_,_,_,_,_,_,_,_,_,_,_,_,_,_,_,_,_,_,_,_,_,_,_,_,_]
 |false=>
  simp only[WX,EE,EF];rw[show w++jy (R3 op b i)=w++jy (R4 op i) by rw[R3,←hfb,ab (by decide),List.nil_append]];exact bX4 (c1:=c1) Φ h43 ht hM hm hfd hfa hfb hfi w (by omega) [_,none,_,none,none,none,none,none,_,_,_,_,_,_,_,_,_,_,_,_,_,_,_,_,_,_,_,_,_,_,_,_,_,_,_,_,_,_,_,_,_,_,_,_,_,_,_,_,_,_,_,_,_,_,_,_,_,_,_,_,_,_,_]
theorem bX2(Φ:Nat→Option CF){L:List gF}(h43:Φ 43=some (.orc (ce L wL))){F:RO}{M:Mem}{c1 cb:Nat}(ht:bB F L=true){op d a b i:Int}(hM:M.get cb=some (aK 59 [.i .i64 op,.i .i64 d,.i .i64 a,.i .i64 b,.i .i64 i]))(hm:bQ op d a b i=true){fd fa fb fi:Bool}(hfd:fd=dI (aD op))(hfa:fa=aI (aD op))(hfb:fb=bI (aD op))(hfi:fi=iI (aD op))(w:List UInt8)(hw:w.length≤60)(u:List (Option V)):
 Wp Hf (K Φ none 28 F) (.mk ((.n (.n (.n (.n (eH u 31 15 47) (some (sV w)) (eH u 39 23 55)) (some (.b fd)) (ay u 35 19 51 11 43 27 59)) (some (.p cb 0)) (.n (ay u 33 17 49 9 41 25 57) (some (.b fb)) (ay u 37 21 53 13 45 29 61))) (uO u 0) (.n (.n (ay u 32 16 48 8 40 24 56) (some (.b fa)) (ay u 36 20 52 12 44 28 60)) (uO u 2) (.n (ay u 34 18 50 10 42 26 58) (some (.b fi)) (ay u 38 22 54 14 46 30 62))))) [] M c1) (mZ (.seq uK (.seq rJ (.seq rK .ret))) (K Φ none 28 F) (j5 F [.t (.r .h)] fun r _ _=>r=sV (w++jy (R2 op a b i)))):=by
 have hT:=fun h args M c=>eu ht h args M c
 obtain⟨n1,n2,n3,n4,n5⟩:=dL hm
 have lf:load1 F M cb 2=some (.i .i64 a):=bZ hM 2
 have hr: -10000000<a∧a<10000000:=by have:=n3 1;rw[show fl d a b 1=a from rfl]at this;omega
 have hc1:bu .add (sV w) (.s 2 29216)=some (sV (w++[32,114])):=eK w [32,114] (by simp;omega)
 have hc2:bu .add (sV (w++[32,114])) (sV (bS a))=some (sV (w++[32,114]++bS a)):=eK _ _ (by have:=fy a;simp;omega)
 cases fa with
 |true=>
  simp only[WX,X2,b34,X3,lf,hc1,h43,hT,pH hr.1 hr.2,hc2];rw[show w++jy (R2 op a b i)=(w++[32,114]++bS a)++jy (R3 op b i) by rw[R2,←hfa,ac rfl,nZ,rn];simp];exact bX3 (c1:=c1) Φ h43 ht hM hm hfd hfa hfb hfi (w++[32,114]++bS a) (by have:=fy a;simp;omega) [_,none,_,none,none,none,none,none,_,_,_,_,_,_,_,_,_,_,_,_,_,_,_,_,_,_,_,_,_,_,_,_,_,_,_,_,_,_,_,_,_,_,_,_,_,_,_,_,_,_,_,_,_,_,_,_,_,_,_,_,_,_,_]
 |false=>
  simp only[WX,X2,X3];rw[show w++jy (R2 op a b i)=w++jy (R3 op b i) by rw[R2,←hfa,ab (by decide),List.nil_append]];exact bX3 (c1:=c1) Φ h43 ht hM hm hfd hfa hfb hfi w (by omega) [_,none,_,none,none,none,none,none,_,_,_,_,_,_,_,_,_,_,_,_,_,_,_,_,_,_,_,_,_,_,_,_,_,_,_,_,_,_,_,_,_,_,_,_,_,_,_,_,_,_,_,_,_,_,_,_,_,_,_,_,_,_,_]
theorem cA3(Φ:Nat→Option CF){L:List gF}(h43:Φ 43=some (.orc (ce L wL))){F:RO}{M:Mem}{c1 cb:Nat}(ht:bB F L=true){op d a b i:Int}(hM:M.get cb=some (aK 59 [.i .i64 op,.i .i64 d,.i .i64 a,.i .i64 b,.i .i64 i]))(hm:bQ op d a b i=true){fd fa fb fi:Bool}(hfd:fd=dI (aD op))(hfa:fa=aI (aD op))(hfb:fb=bI (aD op))(hfi:fi=iI (aD op))(w:List UInt8)(hw:w.length≤40)(u:List (Option V)):
 Wp Pw (K Φ none 28 F) (.mk ((.n (.n (.n (.n (eH u 31 15 47) (some (sV w)) (eH u 39 23 55)) (some (.b fd)) (ay u 35 19 51 11 43 27 59)) (some (.p cb 0)) (.n (ay u 33 17 49 9 41 25 57) (some (.b fb)) (ay u 37 21 53 13 45 29 61))) (uO u 0) (.n (.n (ay u 32 16 48 8 40 24 56) (some (.b fa)) (ay u 36 20 52 12 44 28 60)) (uO u 2) (.n (ay u 34 18 50 10 42 26 58) (some (.b fi)) (ay u 38 22 54 14 46 30 62))))) [] M c1) (mZ (.seq Hf (.seq uK (.seq rJ (.seq rK .ret)))) (K Φ none 28 F) (j5 F [.t (.r .h)] fun r _ _=>r=sV (w++jy (R1 op d a b i)))):=by
 have hT:=fun h args M c=>eu ht h args M c
 obtain⟨n1,n2,n3,n4,n5⟩:=dL hm
 have lf:load1 F M cb 1=some (.i .i64 d):=bZ hM 1
 have hr: -10000000<d∧d<10000000:=by have:=n3 0;rw[show fl d a b 0=d from rfl]at this;omega
 have hc1:bu .add (sV w) (.s 2 29216)=some (sV (w++[32,114])):=eK w [32,114] (by simp;omega)
 have hc2:bu .add (sV (w++[32,114])) (sV (bS d))=some (sV (w++[32,114]++bS d)):=eK _ _ (by have:=fy d;simp;omega)
 cases fd with
 |true=>
  simp only[WX,X0,b33,X1,lf,hc1,h43,hT,pH hr.1 hr.2,hc2];rw[show w++jy (R1 op d a b i)=(w++[32,114]++bS d)++jy (R2 op a b i) by rw[R1,←hfd,ac rfl,nZ,rn];simp];exact bX2 (c1:=c1) Φ h43 ht hM hm hfd hfa hfb hfi (w++[32,114]++bS d) (by have:=fy d;simp;omega) [_,none,_,none,none,none,none,none,_,_,_,_,_,_,_,_,_,_,_,_,_,_,_,_,_,_,_,_,_,_,_,_,_,_,_,_,_,_,_,_,_,_,_,_,_,_,_,_,_,_,_,_,_,_,_,_,_,_,_,_,_,_,_]
 |false=>
  simp only[WX,X0,X1];rw[show w++jy (R1 op d a b i)=w++jy (R2 op a b i) by rw[R1,←hfd,ab (by decide),List.nil_append]];exact bX2 (c1:=c1) Φ h43 ht hM hm hfd hfa hfb hfi w (by omega) [_,none,_,none,none,none,none,none,_,_,_,_,_,_,_,_,_,_,_,_,_,_,_,_,_,_,_,_,_,_,_,_,_,_,_,_,_,_,_,_,_,_,_,_,_,_,_,_,_,_,_,_,_,_,_,_,_,_,_,_,_,_,_]
theorem r28(Φ:Nat→Option CF)(h:Φ 28=some c28){L:List gF}(h43:Φ 43=some (.orc (ce L wL)))(h60:Φ 60=some (.orc (aj h41)))(h59:Φ 59=some (.orc (aj h59)))(h58:Φ 58=some c58){F:RO}{M:Mem}{c:Nat}(ok:eA F M c)(ht:bB F L=true)(op d a b i:Int)(hm:bQ op d a b i=true):
 Calls Φ F 28 [.g [.i .i64 op,.i .i64 d,.i .i64 a,.i .i64 b,.i .i64 i]] M c fun r _ _=>r=sV (cL op d a b i):=by
 refine ax h ?_
 obtain⟨n1,n2,n3,n4,n5⟩:=dL hm
 have grX:Gr c M (c+1) (M.set c (aK 59 [.i .i64 op,.i .i64 d,.i .i64 a,.i .i64 b,.i .i64 i])):=(Gr.refl ok).set c _ (ah _) (bD _) (bU _)
 simp only[WX,Nat.reduceAdd,e28,b30,b31,b32,h60,mf,h59,ze]
 have okX:eA F (M.set c (aK 59 [.i .i64 op,.i .i64 d,.i .i64 a,.i .i64 b,.i .i64 i])) (c+1+6):=(grX.up (by omega)).ok ok
 refine BS (v:= .l (c+1+6) 0 29 29) (blk:=nI) _ _ _ _ _ _ _ _ _ _ _ okX (fun F' M'=>bV8 Φ h58) ?_
 intro N hN hNo
 obtain⟨bb,oo,_,hia,hld⟩:=my (AY (F:=F) (c:=c+1+6+1) hN (by omega)) op.toNat (by rw[dx];omega)
 have hia:=hia .i64
 rw[show((op.toNat:Nat):Int)=op by omega]at hia
 have hnb:d9[op.toNat]'(by rw[dx];omega)=dC op:=by
  unfold dC;rw[ac ⟨n1,n2⟩,List.getElem?_eq_getElem (show op.toNat<d9.length by rw[dx];omega)];rfl
 rw[hnb]at hld
 simp only[WX,Nat.reduceAdd,WZ,hia,hld]
 have hNc:N.get c=some (aK 59 [.i .i64 op,.i .i64 d,.i .i64 a,.i .i64 b,.i .i64 i]):=by rw[hNo c (by omega),aw]
 rw[show cL op d a b i=dC op++jy (R1 op d a b i) by rw[cL,lH];rfl]
 exact cA3 Φ h43 ht hNc hm rfl rfl rfl rfl (dC op) (by have:=y6 op;omega) [_,none,_,none,none,none,none,none,_,_,_,_,_,_,_,_,_,_,_,_,_,_,_,_,_,_,_,_,_,_,_,_,_,_,_,_,_,_,_,_,_,_,_,_,_,_,_,_,_,_,_,_,_,_,_,_,_,_,_,_,_,_,_]
def h28:List V→Option V
 |[.g [.i .i64 op,.i .i64 d,.i .i64 a,.i .i64 b,.i .i64 i]]=>if bQ op d a b i=true then some (sV (cL op d a b i))else none
 |_=>none
theorem zc{op d a b i:Int}(h:bQ op d a b i=true):h28 [.g [.i .i64 op,.i .i64 d,.i .i64 a,.i .i64 b,.i .i64 i]]=some (sV (cL op d a b i)):=ac h
def iN(L:List gF):Prop:=∀ty,bB (mA L ty) L=true
theorem qO{L:List gF}{ty:Nat→Nat}{ct:Nat}(hs:iN L)(hc:1000≤ct):eA (mA L ty) .e ct:=a09 (fun t ht=>(kd (hs ty) t ht).1) hc
theorem jc{v w:V}{f:List UInt8→Option V}(h:(sM v).bind f=some w):∃l,v=sV l∧f l=some w:=by
 obtain⟨l,h1,h2⟩:=aU.1 h
 exact⟨l,bh4 h1,h2⟩
theorem Ub{v w:V}{f:UInt8→Option V}(h:(XZ v).bind f=some w):∃b,v=bV b∧f b=some w:=by
 obtain⟨l,h1,h2⟩:=aU.1 h
 exact⟨l,bh3 h1,h2⟩
theorem Hj(b:UInt8)(l:List UInt8):bd (fun _=>False) (tK b l):=by
 unfold tK
 cases mX b l 0<;>exact⟨trivial,trivial,trivial,trivial⟩
section
variable{P:Program}(hm:P.follows .mixedOrders=true){Φ:Nat→Option CF}(hΦ:eC P Φ)
include hm hΦ
theorem cn2(h:Φ 128=some Yy):bg P 128 (aj vl):=bK hm hΦ (by
 intro args v ct hv hct;unfold vl at hv;split at hv
 ·obtain⟨l,rfl,hv1⟩:=jc hv;obtain⟨b,rfl,hv2⟩:=Ub hv1;obtain rfl:=ae hv2;exact⟨trivial,cz5 Φ h _ _ _⟩
 ·cases hv)
theorem cm9(h:Φ 106=some Yv)(vl:Φ 128=some (.orc (aj vl))):bg P 106 (aj tO):=bK hm hΦ (by
 intro args v ct hv hct;unfold tO at hv;split at hv
 ·obtain⟨l,rfl,hv1⟩:=jc hv;obtain⟨s,rfl,hv2⟩:=jc hv1;split at hv2
  ·obtain rfl:=ae hv2;exact⟨trivial,cz3 Φ h vl _ _ _⟩
  ·cases hv2
 ·cases hv)
theorem o75(h:Φ 75=some c75)(tO:Φ 106=some (.orc (aj tO))):bg P 75 (aj vn):=bK hm hΦ (by
 intro args v ct hv hct;unfold vn at hv;split at hv
 ·obtain⟨l,rfl,hv1⟩:=jc hv;obtain⟨s,rfl,hv2⟩:=jc hv1;split at hv2
  ·split at hv2
   ·rename_i hl;obtain rfl:=ae hv2;exact⟨Hj _ _,t75 Φ h tO _ _ hl _⟩
   ·cases hv2
  ·cases hv2
 ·cases hv)
theorem o35(h:Φ 35=some c35)(h75':Φ 75=some (.orc (aj vn))):bg P 35 (aj vn):=bK hm hΦ (by
 intro args v ct hv hct;unfold vn at hv;split at hv
 ·obtain⟨l,rfl,hv1⟩:=jc hv;obtain⟨s,rfl,hv2⟩:=jc hv1;split at hv2
  ·split at hv2
   ·rename_i hl;obtain rfl:=ae hv2;exact⟨Hj _ _,t35 Φ h h75' _ _ hl _⟩
   ·cases hv2
  ·cases hv2
 ·cases hv)
theorem o83(h:Φ 83=some c83):bg P 83 (aj xO):=bK hm hΦ (by
 intro args v ct hv hct;unfold xO at hv;split at hv
 ·obtain⟨l,rfl,hv1⟩:=jc hv;obtain⟨s,rfl,hv2⟩:=jc hv1;obtain rfl:=ae hv2;exact⟨trivial,t83 Φ h _ _ _⟩
 ·cases hv)
theorem o90(h:Φ 90=some c90)(xO:Φ 83=some (.orc (aj xO))):bg P 90 (aj wM):=bK hm hΦ (by
 intro args v ct hv hct;unfold wM at hv;split at hv
 ·obtain⟨l,rfl,hv1⟩:=jc hv;obtain⟨s,rfl,hv2⟩:=jc hv1;obtain rfl:=ae hv2;exact⟨trivial,t90 Φ h xO _ _ _⟩
 ·cases hv)
theorem o53(h:Φ 53=some c53)(h90':Φ 90=some (.orc (aj wM))):bg P 53 (aj wM):=bK hm hΦ (by
 intro args v ct hv hct;unfold wM at hv;split at hv
 ·obtain⟨l,rfl,hv1⟩:=jc hv;obtain⟨s,rfl,hv2⟩:=jc hv1;obtain rfl:=ae hv2;exact⟨trivial,t53 Φ h h90' _ _ _⟩
 ·cases hv)
theorem cn6(h:Φ 143=some YC):bg P 143 (aj tQ):=bK hm hΦ (by
 intro args v ct hv hct;unfold tQ at hv;split at hv
 ·split at hv
  ·rename_i hh;obtain rfl:=ae hv;exact⟨trivial,cz8 Φ h _ hh _⟩
  ·cases hv
 ·cases hv)
theorem cn7(h:Φ 145=some YE):bg P 145 (aj tS):=bK hm hΦ (by
 intro args v ct hv hct;unfold tS at hv;split at hv
 ·obtain rfl:=ae hv;exact⟨trivial,cA0 Φ h _ _⟩
 ·cases hv)
theorem cn3(h:Φ 132=some Yz):bg P 132 (aj vm):=bK hm hΦ (by
 intro args v ct hv hct;unfold vm at hv;split at hv
 ·split at hv
  ·rename_i hh;obtain rfl:=ae hv;exact⟨trivial,cz6 Φ h _ hh _⟩
  ·cases hv
 ·cases hv)
theorem cn1(h:Φ 110=some Yx):bg P 110 (aj h110):=bK hm hΦ (by
 intro args v ct hv hct;unfold h110 at hv;split at hv
 ·obtain⟨b,rfl,hv1⟩:=Ub hv;obtain rfl:=ae hv1;exact⟨trivial,cz4 Φ h _ _⟩
 ·cases hv)
theorem cn5(h:Φ 136=some YB):bg P 136 (aj h136):=bK hm hΦ (by
 intro args v ct hv hct;unfold h136 at hv;split at hv
 ·obtain⟨l,rfl,hv1⟩:=jc hv;split at hv1
  ·rename_i hl;obtain rfl:=ae hv1;exact⟨trivial,cz7 Φ h _ hl _⟩
  ·cases hv1
 ·cases hv)
theorem cn4{L:List gF}(h:Φ 133=some YA)(tR:Φ 144=some (.orc (aj tR)))(tQ:Φ 143=some (.orc (aj tQ)))(tS:Φ 145=some (.orc (aj tS)))(hs:iN L)(hp:(4,IntKind.u64,DI)∈L):bg P 133 (ce L tP):=lC hm hΦ (by
 intro args v ct ty hv hct;unfold tP at hv;split at hv
 ·split at hv
  ·rename_i hh;obtain rfl:=ae hv;exact⟨trivial,cy2 Φ h tR tQ tS (qO hs hct) (hs ty) hp _ hh.1 hh.2⟩
  ·cases hv
 ·cases hv)
theorem cn0{L:List gF}(h:Φ 107=some Yw)(vm:Φ 132=some (.orc (aj vm)))(tP:Φ 133=some (.orc (ce L tP)))(h134:Φ 134=some tH)(hs:iN L):bg P 107 (ce L vk):=lC hm hΦ (by
 intro args v ct ty hv hct;unfold vk at hv;split at hv
 ·split at hv
  ·rename_i hh;obtain rfl:=ae hv;exact⟨trivial,cx8 Φ h vm tP h134 (qO hs hct) (hs ty) _ hh.1 hh.2⟩
  ·cases hv
 ·cases hv)
theorem o80{L:List gF}(h:Φ 80=some c80)(vk:Φ 107=some (.orc (ce L vk)))(hs:iN L):bg P 80 (ce L wL):=lC hm hΦ (by
 intro args v ct ty hv hct;unfold wL at hv;split at hv
 ·split at hv
  ·rename_i hh;obtain rfl:=ae hv;exact⟨trivial,r80 Φ h vk (hs ty) _ hh.1 hh.2⟩
  ·cases hv
 ·cases hv)
theorem o43{L:List gF}(h:Φ 43=some c43)(h80':Φ 80=some (.orc (ce L wL)))(hs:iN L):bg P 43 (ce L wL):=lC hm hΦ (by
 intro args v ct ty hv hct;unfold wL at hv;split at hv
 ·split at hv
  ·rename_i hh;obtain rfl:=ae hv;exact⟨trivial,r43 Φ h h80' (hs ty) _ hh.1 hh.2⟩
  ·cases hv
 ·cases hv)
theorem o14{L:List gF}(h:Φ 14=some c14)(h39:Φ 39=some (.orc (aj h39)))(h41:Φ 41=some (.orc (aj h41)))(h40:Φ 40=some (.orc (aj h40)))(AJ:Φ 42=some (.orc (aj AJ)))(h43:Φ 43=some (.orc (ce L wL)))
 (h16:Φ 16=some c16) (h46:Φ 46=some c46) (h44:Φ 44=some YF) (h45:Φ 45=some YG) (h81:Φ 81=some Ug) (h82:Φ 82=some c82) (hs:iN L):bg P 14 (ce L h14):=lC hm hΦ (by
 intro args v ct ty hv hct;unfold h14 at hv;split at hv
 ·rename_i op d a b i;obtain rfl:=ae hv;by_cases hmy:bQ op d a b i=true
  ·rw[ac hmy];exact⟨⟨trivial,trivial,trivial⟩,r14 Φ h h39 h41 h40 AJ h43 h16 h46 h44 h45 h81 h82 (qO hs hct) (hs ty) op d a b i hmy⟩
  ·rw[ab hmy];exact⟨⟨trivial,trivial,trivial⟩,cy3 Φ h h39 op d a b i (by simpa using hmy)⟩
 ·cases hv)
theorem o28{L:List gF}(h:Φ 28=some c28)(h43:Φ 43=some (.orc (ce L wL)))(h60:Φ 60=some (.orc (aj h41)))(h59:Φ 59=some (.orc (aj h59)))(h58:Φ 58=some c58)(hs:iN L):bg P 28 (ce L h28):=lC hm hΦ (by
 intro args v ct ty hv hct;unfold h28 at hv;split at hv
 ·split at hv
  ·rename_i hh;obtain rfl:=ae hv;exact⟨trivial,r28 Φ h h43 h60 h59 h58 (qO hs hct) (hs ty) _ _ _ _ _ hh⟩
  ·cases hv
 ·cases hv)
theorem cn8(h:Φ 91=some c91):bg P 91 (aj h91):=bK hm hΦ (by
 intro args v ct hv hct;unfold h91 at hv;split at hv
 ·obtain rfl:=ae hv;exact⟨⟨trivial,trivial⟩,t91 Φ h _⟩
 ·cases hv)
theorem bP1(h:Φ 144=some YD):bg P 144 (aj tR):=bK hm hΦ (by
 intro args v ct hv hct;unfold tR at hv;split at hv
 ·split at hv
  ·obtain rfl:=ae hv;exact⟨trivial,cz9 Φ h _ (by assumption) _⟩
  ·cases hv
 ·cases hv)
end
theorem ae3{F:RO}{M:Mem}{c:Nat}{vs:List V}{x:(Ty.str).D}(h:Rp F M c .str vs x):∃s:List UInt8,vs=[sV s]:=by
 have key:∀l:List UInt8,vs=[sV l]∧l.length≤Go.maxLen→ ∃s:List UInt8,vs=[sV s]:=fun l h=>⟨l,h.1⟩
 exact key x h
theorem AQ{m n:Int}(h1: -10000000<m)(h2:m<10000000)(k1: -10000000<n)(k2:n<10000000)(h:bS m=bS n):m=n:=by
 obtain⟨⟨a1,a2⟩,ha⟩:=jX h1 h2
 obtain⟨⟨b1,b2⟩,hb⟩:=jX k1 k2
 have nd:∀r:List UInt8,(∀x∈(45:UInt8)::r,ij x)→False:=fun r hh=>by
  have:=hh 45 (bh ..);unfold ij at this;rw[show(45:UInt8).toNat=45 from rfl]at this;omega
 rcases ha with⟨_,d1,v1⟩|⟨_,r,e1,_,d1,v1⟩<;>rcases hb with⟨_,d2,v2⟩|⟨_,r2,e2,_,d2,v2⟩
 ·rw[h]at v1;omega
 ·rw[h,e2]at d1;exact(nd _ d1).elim
 ·rw[←h,e1]at d2;exact(nd _ d2).elim
 ·have:r=r2:=by rw[h,e2]at e1;injection e1 with _ e;exact e.symm
  subst this;omega
theorem zH{m n:Int}(h1: -10000000<m)(h2:m<10000000)(k1: -10000000<n)(k2:n<10000000){r r':List (List UInt8)}(h:aT [32] ((114::bS m)::r)=aT [32] ((114::bS n)::r')):m=n∧aT [32] r=aT [32] r':=by
 obtain⟨p1,p2⟩:=gP (114::bS m) r (tg h1 h2)
 obtain⟨q1,q2⟩:=gP (114::bS n) r' (tg k1 k2)
 rw[h]at p1 p2
 have e:=p1.symm.trans q1
 injection e with _ e
 exact⟨AQ h1 h2 k1 k2 e,p2.symm.trans q2⟩
theorem AU(w:List UInt8):aT [32] [w]=w:=by simp[aT]
theorem Wu{op d a b i op' d' a' b' i':Int}(hm:bQ op d a b i=true)(hm':bQ op' d' a' b' i'=true)(h:cL op d a b i=cL op' d' a' b' i'):op=op'∧d=d'∧a=a'∧b=b'∧i=i':=by
 unfold cL at h
 rw[lH,lH]at h
 obtain⟨n1,n2,n3,n4,n5⟩:=dL hm
 obtain⟨m1,m2,m3,m4,m5⟩:=dL hm'
 obtain⟨p1,p2⟩:=gP (dC op) (R1 op d a b i) (ud op)
 obtain⟨q1,q2⟩:=gP (dC op') (R1 op' d' a' b' i') (ud op')
 rw[h]at p1 p2
 have e1:=p1.symm.trans q1
 have e2:=p2.symm.trans q2
 have isn:∀o:Int,1≤o→o≤28→C7 (dC o) o.toNat:=fun o g1 g2=>by
  unfold C7 dC;rw[ac ⟨g1,g2⟩,List.getElem?_eq_getElem (show o.toNat<d9.length by rw[dx];omega)];exact⟨by omega,rfl⟩
 have k1:=isn op n1 n2
 rw[e1]at k1
 have hop:=vu k1 (isn op' m1 m2)
 obtain rfl:op=op':=by omega
 obtain⟨z1,z2,z3,z4⟩:=fC hm
 obtain⟨y1,y2,y3,y4⟩:=fC hm'
 have nd:=n3 0;have na:=n3 1;have nb:=n3 2
 rw[show fl d a b 0=d from rfl]at nd
 rw[show fl d a b 1=a from rfl]at na
 rw[show fl d a b 2=b from rfl]at nb
 have md:=m3 0;have ma:=m3 1;have mb:=m3 2
 rw[show fl d' a' b' 0=d' from rfl]at md
 rw[show fl d' a' b' 1=a' from rfl]at ma
 rw[show fl d' a' b' 2=b' from rfl]at mb
 have s1:d=d'∧aT [32] (R2 op a b i)=aT [32] (R2 op a' b' i'):=by
  unfold R1 at e2;cases hf:dI (aD op)with
  |true=>
   rw[hf,ac rfl,ac rfl]at e2;exact zH (by omega) (by omega) (by omega) (by omega) e2
  |false=>
   rw[hf,ab (by decide),ab (by decide)]at e2;exact⟨(z1 hf).trans (y1 hf).symm,e2⟩
 have s2:a=a'∧aT [32] (R3 op b i)=aT [32] (R3 op b' i'):=by
  have e2:=s1.2;unfold R2 at e2;cases hf:aI (aD op)with
  |true=>
   rw[hf,ac rfl,ac rfl]at e2;exact zH (by omega) (by omega) (by omega) (by omega) e2
  |false=>
   rw[hf,ab (by decide),ab (by decide)]at e2;exact⟨(z2 hf).trans (y2 hf).symm,e2⟩
 have s3:b=b'∧aT [32] (R4 op i)=aT [32] (R4 op i'):=by
  have e2:=s2.2;unfold R3 at e2;cases hf:bI (aD op)with
  |true=>
   rw[hf,ac rfl,ac rfl]at e2;exact zH (by omega) (by omega) (by omega) (by omega) e2
  |false=>
   rw[hf,ab (by decide),ab (by decide)]at e2;exact⟨(z3 hf).trans (y3 hf).symm,e2⟩
 have s4:i=i':=by
  have e2:=s3.2;unfold R4 at e2;cases hf:iI (aD op)with
  |true=>
   rw[hf,ac rfl,ac rfl,AU,AU]at e2;exact AQ (by omega) (by omega) (by omega) (by omega) e2
  |false=>exact(z4 hf).trans (y4 hf).symm
 exact⟨rfl,s1.1,s2.1,s3.1,s4⟩
theorem Vr{op d a b i:Int}(h:bQ op d a b i=true):((op=3∨op=6)→0≤i∧i≤65535)∧(¬(op=3∨op=6)→ -32768≤i∧i≤32767):=by
 unfold bQ at h
 simp only[aJ,Bool.or_eq_true,decide_eq_true_eq]at h
 obtain⟨_,_,_,_,_,g⟩:=h
 omega
theorem L6{op d a b i:Int}(h:bQ op d a b i=true):cw op d a b i<4294967296∧pS (cw op d a b i)=op∧dW (cw op d a b i)=d∧aW (cw op d a b i)=a∧bW (cw op d a b i)=b∧iW (cw op d a b i)=i:=by
 obtain⟨m1,m2,m3,m4,m5,m6,m7,m8,m9,m10,m11⟩:=gy h
 obtain⟨f1,f2⟩:=y5 h
 obtain⟨z1,z2,z3,z4⟩:=fC h
 obtain⟨y1,y2⟩:=Vr h
 obtain⟨w,hw⟩:∃w,w=cw op d a b i:=⟨_,rfl⟩
 rw[←hw]
 unfold cw at hw
 have e0:pS w=op:=by unfold pS;omega
 refine⟨by omega,e0,?_,?_,?_,?_⟩
 ·unfold dW;rw[e0];cases hf:dI (aD op)with
  |true=>rw[ac rfl];omega
  |false=>rw[ab (by decide),z1 hf]
 ·unfold aW;rw[e0];cases hf:aI (aD op)with
  |true=>rw[ac rfl];omega
  |false=>rw[ab (by decide),z2 hf]
 ·unfold bW;rw[e0];cases hf:bI (aD op)with
  |true=>
   have:aD op=5:=by unfold bI at hf;exact aP hf
   have:=f1 this;rw[ac rfl];omega
  |false=>rw[ab (by decide),z3 hf]
 ·unfold iW;rw[e0];cases hf:iI (aD op)with
  |true=>
   have:aD op≠5:=by unfold iI at hf;have:=aP hf;omega
   have:=f2 this;rw[ac rfl];split
   ·rename_i hh;have:=y1 hh;omega
   ·rename_i hh;have:=y2 hh;unfold W1;split<;>omega
  |false=>rw[ab (by decide),z4 hf]
def Eh(x:UInt8):Bool:=decide (97≤x.toNat∧x.toNat≤122)||(decide (48≤x.toNat∧x.toNat≤57)||(decide (x=45)||decide (x=32)))
theorem D2:∀(k n:Nat),(kE k n).all Eh=true
 |0,_=>rfl
 |k+1,n=>by
  rw[kE,List.all_append,D2 k,Bool.true_and];have:n%10<10:=Nat.mod_lt _ (by decide);generalize n%10=d at this;have:∀d,d<10→[UInt8.ofNat (48+d)].all Eh=true:=by decide
  exact this d ‹_›
theorem HN(n:Int):(bS n).all Eh=true:=by
 cases n with
 |ofNat n=>exact D2 _ _
 |negSucc n=>show(45::fV (n+1)).all Eh=true;rw[List.all_cons,show(fV (n+1)).all Eh=true from D2 _ _];rfl
theorem a03{op:Int}(h1:1≤op)(h2:op≤28):(dC op).all Eh=true∧ ∃c r,dC op=c::r∧97≤c.toNat∧c.toNat≤122:=by
 obtain⟨k,rfl⟩:=Int.eq_ofNat_of_zero_le (show 0≤op by omega)
 have key:∀k,k<29→1≤k→((d9[k]?).getD []).all Eh=true∧(match (d9[k]?).getD []with|c::_=>decide (97≤c.toNat∧c.toNat≤122)|[]=>false)=true:=by decide+kernel
 obtain⟨a1,a2⟩:=key k (by omega) (by omega)
 unfold dC
 rw[ac ⟨h1,h2⟩]
 show((d9[k]?).getD []).all Eh=true∧ ∃c r,(d9[k]?).getD []=c::r∧_
 refine⟨a1,?_⟩
 cases hq:(d9[k]?).getD []with
 |nil=>rw[hq]at a2;cases a2
 |cons c r=>rw[hq]at a2;exact⟨c,r,rfl,(aP a2).1,(aP a2).2⟩
theorem Zx:∀(ws:List (List UInt8)),(∀w∈ws,w.all Eh=true)→(aT [32] ws).all Eh=true
 |[],_=>rfl
 |w::r,h=>by
  unfold aT;rw[List.all_append,h w (bh ..),Bool.true_and]
  have:∀r:List (List UInt8),(∀w∈r,w.all Eh=true)→((r.map fun x=>[32]++x).flatten).all Eh=true:=by
   intro r
   induction r with
   |nil=>intro _;rfl
   |cons a r ih=>
    intro h;rw[List.map_cons,List.flatten_cons,List.all_append,ih fun w hw=>h w (bc _ hw),List.all_append,h a (bh ..)];rfl
  exact this r fun w hw=>h w (bc _ hw)
theorem b52{op d a b:Int}(h:(dC op).all Eh=true):∀i,∀w∈wk op d a b i,w.all Eh=true
 |0,w,hw=>by rw[wk,List.mem_singleton]at hw;subst hw;exact h
 |i+1,w,hw=>by
  rw[wk,List.mem_append]at hw;rcases hw with hw|hw
  ·exact b52 h i w hw
  ·split at hw
   ·rw[List.mem_singleton]at hw;subst hw;rw[List.all_cons,HN];decide
   ·cases hw
theorem bg1{op d a b i:Int}(hm:bQ op d a b i=true):1≤op∧op≤28:=by
 unfold bQ at hm
 simp only[aJ,decide_eq_true_eq]at hm
 exact⟨hm.1,hm.2.1⟩
theorem ae4{op d a b i:Int}(hm:bQ op d a b i=true):(cL op d a b i).all Eh=true∧ ∃c r,cL op d a b i=c::r∧97≤c.toNat∧c.toNat≤122:=by
 obtain⟨h1,h2⟩:=bg1 hm
 obtain⟨a1,c,r,a2,a3,a4⟩:=a03 h1 h2
 refine⟨Zx _ fun w hw=>?_,?_⟩
 ·unfold i7 at hw;rw[List.mem_append]at hw;rcases hw with hw|hw
  ·exact b52 a1 3 w hw
  ·split at hw
   ·rw[List.mem_singleton]at hw;subst hw;exact HN _
   ·cases hw
 ·have e:∃ws,i7 op d a b i=dC op::ws:=by
   unfold i7 wk wk wk wk;simp only[kz,List.cons_append,List.nil_append];exact⟨_,rfl⟩
  obtain⟨ws,e⟩:=e;unfold cL;rw[e];unfold aT;rw[a2];exact⟨c,_,rfl,a3,a4⟩
theorem bc5(a b c d:UInt8):iT (a.toNat+256*b.toNat+65536*c.toNat+16777216*d.toNat)=[a,b,c,d]:=by
 have ha:=UInt8.toNat_lt a
 have hb:=UInt8.toNat_lt b
 have hc:=UInt8.toNat_lt c
 have hd:=UInt8.toNat_lt d
 have key:∀(n:Nat) (x:UInt8),n%256=x.toNat→UInt8.ofNat n=x:=fun n x h=>UInt8.toNat_inj.1 (by rw[UInt8.toNat_ofNat'];exact h)
 unfold iT
 rw[key _ a (by omega),key _ b (by omega),key _ c (by omega),key _ d (by omega)]
theorem B2{w:Nat}(h:Lv w=true):iX (pJ w)=true∧fj (pJ w)=w:=by
 have:=aP (show decide (bQ (pS w) (dW w) (aW w) (bW w) (iW w)=true∧cw (pS w) (dW w) (aW w) (bW w) (iW w)=w)=true from h)
 exact this
theorem lx:∀(n:Nat) (l:List UInt8),l.length≤n→ ∀x∈aN l,iX x=true
 |0,l,hl,x,hx=>by rw[dG (by omega)]at hx;cases hx
 |n+1,l,hl,x,hx=>by
  by_cases h4:l.length<4
  ·rw[dG h4]at hx;cases hx
  ·match l,hl,h4,hx with
   |a::b::c::d::r,hl,_,hx=>
    rw[lw]at hx;split at hx
    ·rename_i hok;rcases bj.1 hx with rfl|hx
     ·exact(B2 hok).1
     ·exact lx n r (by simp at hl;omega) x hx
    ·cases hx
   |[],_,h4,_=>simp at h4
   |[_],_,h4,_=>simp at h4
   |[_,_],_,h4,_=>simp at h4
   |[_,_,_],_,h4,_=>simp at h4
theorem tb:∀(n:Nat) (l:List UInt8),l.length≤n→4*(aN l).length=l.length→cB (aN l)=l
 |0,l,hl,_=>by
  obtain rfl:l=[]:=List.length_eq_zero_iff.1 (by omega);rw[dG (by simp)];rfl
 |n+1,l,hl,h=>by
  by_cases h4:l.length<4
  ·rw[dG h4]at h⊢;obtain rfl:l=[]:=List.length_eq_zero_iff.1 (by simp at h;omega);rfl
  ·match l,hl,h4,h with
   |a::b::c::d::r,hl,_,h=>
    rw[lw]at h⊢;split at h
    ·rename_i hok;rw[ac hok];have ih:=tb n r (by simp at hl;omega) (by simp at h;omega);show iT (fj (pJ _))++cB (aN r)=_;rw[(B2 hok).2,ih];show iT (a.toNat+256*b.toNat+65536*c.toNat+16777216*d.toNat)++r=_;rw[bc5];rfl
    ·simp at h
   |[],_,h4,_=>simp at h4
   |[_],_,h4,_=>simp at h4
   |[_,_],_,h4,_=>simp at h4
   |[_,_,_],_,h4,_=>simp at h4
theorem JZ{x:nc}(h:iX x=true):Lv (fj x)=true∧pJ (fj x)=x:=by
 obtain⟨h0,h1,h2,h3,h4,h5⟩:=L6 (show bQ x.op x.d x.a x.b x.i=true from h)
 have e:pJ (fj x)=x:=by
  show(⟨pS (cw x.op x.d x.a x.b x.i),dW (cw x.op x.d x.a x.b x.i),aW (cw x.op x.d x.a x.b x.i),bW (cw x.op x.d x.a x.b x.i),iW (cw x.op x.d x.a x.b x.i)⟩:nc)=x;rw[h1,h2,h3,h4,h5]
 refine⟨?_,e⟩
 unfold Lv
 refine af ?_
 show bQ (pS (cw x.op x.d x.a x.b x.i)) _ _ _ _=true∧cw (pS (cw x.op x.d x.a x.b x.i)) _ _ _ _=cw x.op x.d x.a x.b x.i
 unfold fj
 rw[h1,h2,h3,h4,h5]
 exact⟨h,rfl⟩
theorem Ba:∀(L:List nc),(∀x∈L,iX x=true)→aN (cB L)=L
 |[],_=>dG (by show([]:List UInt8).length<4;decide)
 |x::L,h=>by
  have hx:=h x (bh ..);have hw:=BT x hx;obtain⟨h1,h2⟩:=JZ hx;show aN (iT (fj x)++cB L)=_;have hf:iT (fj x)++cB L=UInt8.ofNat (fj x)::UInt8.ofNat (fj x/256)::UInt8.ofNat (fj x/65536)::UInt8.ofNat (fj x/16777216)::cB L:=rfl;rw[hf,lw];have e:gz (UInt8.ofNat (fj x)) (UInt8.ofNat (fj x/256)) (UInt8.ofNat (fj x/65536)) (UInt8.ofNat (fj x/16777216))=fj x:=by
   unfold gz;rw[UInt8.toNat_ofNat',UInt8.toNat_ofNat',UInt8.toNat_ofNat',UInt8.toNat_ofNat'];omega
  rw[e,ac h1,h2,Ba L fun y hy=>h y (bc _ hy)]
theorem Wv{x:nc}(h:iX x=true):(∀y∈kh x,y≠44)∧ ∃z w,kh x=z::w∧z≠58:=by
 obtain⟨ha,z,w,hs,hx1,hx2⟩:=ae4 (show bQ x.op x.d x.a x.b x.i=true from h)
 refine⟨fun y hy e=>?_,z,w,hs,fun e=>by rw[e]at hx1;exact absurd hx1 (by decide)⟩
 have:=List.all_eq_true.1 ha y hy
 rw[e]at this;exact absurd this (by decide)
theorem ae5{x y:nc}(hx:iX x=true)(hy:iX y=true)(h:kh x=kh y):x=y:=by
 obtain⟨h1,h2,h3,h4,h5⟩:=Wu (show bQ x.op x.d x.a x.b x.i=true from hx) (show bQ y.op y.d y.a y.b y.i=true from hy) h
 cases x;cases y;simp_all
theorem nH:∀(L L':List nc),(∀x∈L,iX x=true)→(∀x∈L',iX x=true)→L.map kh=L'.map kh→L=L'
 |[],[],_,_,_=>rfl
 |[],_::_,_,_,h=>by cases h
 |_::_,[],_,_,h=>by cases h
 |x::L,y::L',h1,h2,h=>by
  injection h with e1 e2
  rw[ae5 (h1 x (bh ..)) (h2 y (bh ..)) e1,nH L L' (fun z hz=>h1 z (bc _ hz)) (fun z hz=>h2 z (bc _ hz)) e2]
theorem rV{L:List nc}(hL:L≠[])(h:∀x∈L,iX x=true):∃z w,aT [44,32] (L.map kh)=z::w∧z≠58:=by
 cases L with
 |nil=>exact absurd rfl hL
 |cons x L=>
  obtain⟨_,z,w,hs,hz⟩:=Wv (h x (bh ..));refine⟨z,w++((L.map kh).map fun x=>[44,32]++x).flatten,?_,hz⟩;rw[List.map_cons,aT,hs];rfl
theorem k8{l:List UInt8}(hl:l.length≤8192):da l=58::gG l∨ ∃L,L≠[]∧(∀x∈L,iX x=true)∧cB L=l∧da l=aT [44,32] (L.map kh):=by
 unfold da
 rw[ab (by omega)]
 split
 ·exact .inl rfl
 ·rename_i hn;have h1:aN l≠[]:=fun e=>hn (.inl e);have h2:4*(aN l).length=l.length:=by
   by_cases h:4*(aN l).length=l.length
   ·exact h
   ·exact absurd (.inr h) hn
  exact .inr ⟨aN l,h1,lx _ l (ah _),tb _ l (ah _) h2,rfl⟩
theorem Ko{L:List nc}(hL:L≠[])(h:∀x∈L,iX x=true)(hl:4*L.length≤8192):da (cB L)=aT [44,32] (L.map kh):=by
 unfold da
 rw[ft,ab (by omega),Ba L h,ab]
 rintro(h1|h1)
 ·exact hL h1
 ·exact h1 rfl
theorem bh0{L:List nc}(h:∀x∈L,iX x=true):∀x∈L.map kh,∀y∈x,y≠44:=by
 intro x hx y hy
 obtain⟨z,hz,rfl⟩:=List.mem_map.1 hx
 exact(Wv (h z hz)).1 y hy
theorem Bc{l l':List UInt8}(hl:l.length≤8192)(hl':l'.length≤8192)(h:da l=da l'):l=l':=by
 rcases k8 hl with e|⟨L,h1,h2,rfl,e⟩<;>rcases k8 hl' with e'|⟨L',h1',h2',rfl,e'⟩<;>rw[e,e']at h
 ·injection h with _ h;exact AM _ _ h
 ·obtain⟨z,w,hz,hn⟩:=rV h1' h2';rw[hz]at h;injection h with h _;exact absurd h.symm hn
 ·obtain⟨z,w,hz,hn⟩:=rV h1 h2;rw[hz]at h;injection h with h _;exact absurd h hn
 ·have:=Vg _ _ (bh0 h2) (bh0 h2') (by simpa using h1) (by simpa using h1') h;rw[nH L L' h2 h2' this]
theorem zO:∀(s a:List UInt8),cC s a≠[]
 |[],a=>by rw[cC];simp
 |[x],a=>by rw[cC];simp
 |x::y::r,a=>by
  rw[cC];split
  ·simp
  ·exact zO (y::r) _
theorem xS(s w:List UInt8){r:List (List UInt8)}(h:r≠[]):aT s (w::r)=w++s++aT s r:=by
 cases r with
 |nil=>exact absurd rfl h
 |cons x r=>simp[aT]
theorem rW:∀(s a:List UInt8),aT [44,32] (cC s a)=a++s
 |[],a=>by rw[cC];simp[aT]
 |[x],a=>by rw[cC];simp[aT]
 |x::y::r,a=>by
  rw[cC];split
  ·rename_i h;rw[xS _ _ (zO r []),rW r [],h.1,h.2];simp
  ·rw[rW (y::r)];simp
theorem su:∀(w r a:List UInt8),(∀z∈w,z≠44)→cC (w++44::32::r) a=(a++w)::cC r []
 |[],r,a,_=>by rw[List.nil_append,cC,ac ⟨rfl,rfl⟩,di]
 |[x],r,a,h=>by
  rw[List.singleton_append,cC,ab (fun e=>h x (bh ..) e.1)];have:=su [] r (a++[x]) (fun z hz=>by cases hz);rw[List.nil_append,di]at this;exact this
 |x::y::w,r,a,h=>by
  rw[List.cons_append,List.cons_append,cC,ab (fun e=>h x (bh ..) e.1)];have:=su (y::w) r (a++[x]) (fun z hz=>h z (bc _ hz));rw[List.cons_append]at this;rw[this];simp
theorem yi:∀(w a:List UInt8),(∀z∈w,z≠44)→cC w a=[a++w]
 |[],a,_=>by rw[cC,di]
 |[x],a,_=>by rw[cC]
 |x::y::w,a,h=>by
  rw[cC,ab (fun e=>h x (bh ..) e.1),yi (y::w) _ fun z hz=>h z (bc _ hz)];simp
theorem yh:∀(ts:List (List UInt8)),ts≠[]→(∀x∈ts,∀y∈x,y≠44)→cC (aT [44,32] ts) []=ts
 |[],h,_=>absurd rfl h
 |[w],_,h=>by
  have:aT [44,32] [w]=w:=by simp[aT]
  rw[this,yi w [] (h w (bh ..))];rfl
 |w::x::r,_,h=>by
  rw[xS _ _ (by simp)];have e:w++[44,32]++aT [44,32] (x::r)=w++44::32::aT [44,32] (x::r):=by simp
  rw[e,su w _ [] (h w (bh ..)),yh (x::r) (by simp) fun z hz=>h z (bc _ hz)];rfl
theorem tf{s l:List UInt8}(hl:l.length≤8192)(hs:∀r,s≠58::r)(h:da l=s):∃L,L≠[]∧(∀x∈L,iX x=true)∧cB L=l∧cC s []=L.map kh:=by
 rcases k8 hl with e|⟨L,h1,h2,h3,e⟩
 ·exact absurd (h.symm.trans e) (hs _)
 ·refine⟨L,h1,h2,h3,?_⟩;rw[←h,e];exact yh _ (by simpa using h1) (bh0 h2)
def al1:CC:=(.reg [(qq a6 (.mv z0)),(qq a7 (.ln .slice z6)),(qq a8 (.bi .eql z7 (x6 0)))])
def al2:CC:=(.seq (.reg [(qq a2 (.mv (.c (.s 1 46))))]) .ret)
def al3:CC:=(.reg [(aa a3 (.al 104 [.p0,.l0]))])
def al4:CC:=(.reg [(qq a9 (.mv z0)),(qq cg (.ln .slice z9)),(qq cI (.mv (x6 0)))])
def al5:CC:=(.reg [(qq de (.bi .lss cD cj))])
def al6:CC:=(.reg [(qq cH (.iaS 1 z9 cD)),(qq db (.ld1 cR)),(qq a5 (.mv dD))])
def al7:CC:=(.dreg 10 [(0,0,(qq du (.mv z5))),(1,1,(qq dE (.bi .shr dj (.c (.i .u64 4))))),(2,3,(qq dO (.slS (.c (.s 16 136107713667768957684761770045455085872)) (some dQ) none))),(3,7,(qq dY (.slS dM none (some (x6 1))))),(4,0,(qq eg (.mv z5))),(5,16,(qq eQ (.bi .and eV (.c (.i .u8 15))))),(6,48,(qq dP (.slS (.c (.s 16 136107713667768957684761770045455085872)) (some eW) none))),(7,112,(qq eB (.slS fm none (some (x6 1))))),(8,255,(qq ec (.bi .add ey eX))),(9,511,(ee dH (.call 44 [z3,fG])))])
def al8:CC:=(.reg [(qq eR (.bi .add cD (x6 1))),(qq cI (.mv fJ))])
def al9:CC:=(.seq (.cond cS .skip (.exit 0)) (.seq (.block 1 (.seq al6 al7)) al8))
def NW:CC:=(.reg [(ee eD (.call 45 [z3])),(qq a2 (.mv fK))])
def NX:CC:=(.seq (.seq al4 (.block 0 (.loop (.seq al5 al9)))) (.seq NW .ret))
def NY:CC:=(.seq (.seq al1 (.cond z8 al2 .skip)) (.seq al3 NX))
def NZ:CC:=(.seq (.reg [(qq a2 (.mv (.c (.s 0 0))))]) NY)
def c15:CF:= .mk 5 [.t a2] NZ
theorem e15(v0:V):aS 5 [v0]=(.n l8 (some v0) l8):=rfl
def B15:=ai @e15 (ai (wu al1.eq_1) (ai (wu al2.eq_1) (ai (wu al3.eq_1) (ai (wu al4.eq_1) (ai (wu al5.eq_1) (ai (wu al6.eq_1) (ai (wu al7.eq_1) (ai (wu al8.eq_1) (ai (wu al9.eq_1) (ai (wu NW.eq_1) (ai (wu NX.eq_1) (ai (wu NY.eq_1) (wu NZ.eq_1)))))))))))))
theorem II(b:UInt8):bu .shr (.i .u8 (b.toNat:Int)) (.i .u64 4)=some (.i .u8 ((b.toNat/16:Nat):Int)):=by
 have h:=yO .u8 .u64 (b.toNat:Int) 4
 rw[show(((4:Nat):Int))=4 from rfl,show dV .u8 4=4 from rfl,Int.fdiv_eq_ediv_of_nonneg _ (Int.natCast_nonneg _)]at h
 exact h
theorem BN(b:UInt8):bu .and (.i .u8 (b.toNat:Int)) (.i .u8 15)=some (.i .u8 ((b.toNat%16:Nat):Int)):=by
 have hb:=UInt8.toNat_lt b
 have h2:toU .u8 (b.toNat:Int)=b.toNat:=by show((b.toNat:Int)%256).toNat=_;omega
 rw[CK,h2,show toU .u8 15=2^4-1 from rfl,Nat.and_two_pow_sub_one_eq_mod,dh]
 congr 2
 omega
theorem b76{F:RO}(a b:List UInt8)(M:Mem):biQ .add (sV a) (sV b) F M=oV (bu .add (sV a) (sV b)):=by
 refine(gR ?_).trans (congrArg oV (af0 (F:=F) .add _ _ M .e))
 intro F' M'
 have key:∀n x m y,mw n x m y=oV (mw n x m y).val:=fun n x m y=>by
  unfold mw;cases Nat.ble (Nat.add n m) 1099511627776 with
  |false=>rfl
  |true=>show vS _ _=oV (vS _ _).val;unfold vS;rw[aQ,aQ];rfl
 exact key _ _ _ _
theorem bh5{F:RO}{M:Mem}{c c':Nat}(h:eA F M c)(hc:c≤c'):eA F M c':=⟨fun y hy=>h.hiM y (by omega),fun y hy=>h.hiF y (by omega),h.ap,by have:=h.ge;omega⟩
def vp:List UInt8:=[48,49,50,51,52,53,54,55,56,57,97,98,99,100,101,102]
theorem Zm(n:Nat)(h:n<16):(vp.drop n).take 1=[fY n]:=by
 have:∀n,n<16→(vp.drop n).take 1=[fY n]:=by decide
 exact this n h
theorem oB{α:Type}{l:List α}{j:Nat}(h:j<l.length):l.take (j+1)=l.take j++[l[j]]:=by rw[List.take_add_one,List.getElem?_eq_getElem h];rfl
theorem r15(Φ:Nat→Option CF)(h:Φ 15=some c15)(h44:Φ 44=some YF)(h45:Φ 45=some YG)(h81:Φ 81=some Ug){F:RO}{M:Mem}{c:Nat}{v:V}{l:List UInt8}(ok:eA F M c)(hs:l9 F M c v l)(hl:l.length≤400000):
 Calls Φ F 15 [v] M c fun r M' c'=>r=sV (gG l)∧Gr c M c' M':=by
 refine ax h ?_
 have hln:=hs.len
 by_cases h0:l=[]
 ·subst h0;rw[cF]at hln;simp only[WX,B15,hln,Int.ofNat_zero];exact⟨rfl,Gr.refl ok⟩
 ·have hpos:l.length≠0:=fun e=>h0 (List.length_eq_zero_iff.1 e);have d0:decide ((l.length:Int)=0)=false:=ag (by omega);simp only[WX,B15,hln,d0];have g0:=(Gr.refl ok).set c (aK 104 [.p0,.l0]) (ah _) (bD _) (bU _);obtain⟨I,hI⟩:∃I:Nat→St→Prop,∀n s',I n s'↔(∃(i c1 bb:Nat) (M1:Mem) (u:List (Option V)),n=l.length-i∧i≤l.length∧s'= .mk ((.n (.n (.n (eH u 15 7 23) (some (.p c 0)) (.n (kp u 19) (some (.i .i64 (i:Int))) (kp u 27))) (uO u 1) (.n (.n (kp u 17) (some (v)) (kp u 25)) (uO u 5) (eH u 21 13 29))) (some (v)) (.n (ay u 16 8 24 4 20 12 28) (uO u 2) (.n (.n (kp u 18) (some (.i .i64 (l.length:Int))) (kp u 26)) (uO u 6) (eH u 22 14 30))))) [] M1 c1∧Gr c M c1 M1∧qh M1 c c1 c bb (iU (l.take i))):=⟨fun n s'=>_,fun _ _=>Iff.rfl⟩
  refine cX I ?_ l.length _ ((hI _ _).2 ⟨0,c+1,c+1,_,[none,_,_,none,_,_,_,_,_,none,none,none,_,_,_,_,_,_,_,_,_,_,_,_,_,_,_,_,_,_,_],rfl,aM _,rfl,g0,⟨ah _,bD _,by omega,.p0,.l0,aw _ _ _,.inl rfl,.inl ⟨by rw[List.take_zero];rfl,rfl⟩⟩⟩);intro n s' hIs;obtain⟨i,c1,bb,M1,u,rfl,hi,rfl,g1,hb⟩:=(hI _ _).1 hIs;clear hIs;have ok1:=g1.ok ok;by_cases hlt:i<l.length
  ·have d1:decide ((i:Int)<(l.length:Int))=true:=af (by omega);have q8:bu .add (.i .i64 (i:Int)) (.i .i64 1)=some (.i .i64 ((i+1:Nat):Int)):=by rw[bA _ _ (by omega) (by omega)];simp
   obtain⟨pb,po,hpb,hia,hld⟩:=hs.get i hlt;have hia:=hia .i64;have hld1:=(g1.load1 (F:=F) hpb po).trans hld;have htk:=oB hlt;generalize l[i]=x at hld hld1 htk;have hx:=UInt8.toNat_lt x;have e16:V.s 16 136107713667768957684761770045455085872=sV vp:=rfl;have s1:=pl vp .u8 (x.toNat/16) (by show _≤16;omega);have s2:=pl vp .u8 (x.toNat%16) (by show _≤16;omega);have s3:=BC (vp.drop (x.toNat/16)) .i64 1 (by rw[cM];show 1≤16-_;omega);have s4:=BC (vp.drop (x.toNat%16)) .i64 1 (by rw[cM];show 1≤16-_;omega);rw[Zm _ (by omega),show((1:Nat):Int)=1 from rfl]at s3 s4;have hcat:bu .add (sV [fY (x.toNat/16)]) (sV [fY (x.toNat%16)])=some (sV [fY (x.toNat/16),fY (x.toNat%16)]):=eK _ _ (by show 1+1≤1099511627776;decide);have a1:=II x;have a2:=BN x;simp only[WX,j0,B15,d1,hia,hld1,e16,a1,a2,Ux,s1,s2,s3,s4,b76,hcat];have ok1':=bh5 ok1 (show c1≤c1+10 by omega);refine Be ((r44 Φ h44 h81 ok1' (g1.trans ((Gr.refl ok1).up (show c1≤c1+10 by omega))) (hb.up (show c1≤c1+10 by omega) fun x _=>rfl) [fY (x.toNat/16),fY (x.toNat%16)] (ui (by rw[gS,List.length_take];show _+2≤_;omega))).mono ?_);rintro r M2 c2 ⟨bb',hb2,g2,hle,_,_⟩;refine⟨(g2.ok ok).free,?_⟩;simp only[WX,B15,q8];refine⟨l.length-(i+1),by omega,(hI _ _).2 ⟨i+1,c2,bb',M2,[none,_,_,none,_,_,_,_,_,none,none,none,_,_,_,_,_,_,_,_,_,_,_,_,_,_,_,_,_,_,_],rfl,hlt,rfl,g2,?_⟩⟩;rw[htk];have:iU (l.take i++[x])=iU (l.take i)++[fY (x.toNat/16),fY (x.toNat%16)]:=by unfold iU;rw[List.flatMap_append];rfl
   rw[this];exact hb2
  ·obtain rfl:i=l.length:=by omega
   have d1:decide ((l.length:Int)<(l.length:Int))=false:=ag (by omega);rw[List.take_length]at hb;simp only[WX,B15,d1];refine aB ((r45 Φ h45 ok1 g1 hb (by rw[gS];omega)).mono ?_);rintro r M2 c2 ⟨rfl,g2,_,_⟩;simp only[WX];refine⟨?_,g2⟩;unfold gG;rw[ab h0]
def an1:CC:=(.reg [(qq a2 (.mv (.c .l0))),(qq a3 (.mv xF))])
def an2:CC:=(.reg [(qq a8 (.mv z0)),(qq a5 (.mv z8))])
def an3:CC:=(.reg [(qq a9 (.mv z5)),(qq cg (.ln .str z9)),(qq cI (.bi .gtr cj (x6 1)))])
def an4:CC:=(.reg [(qq du (.mv z5)),(qq dE (.slS dj none (some (x6 2)))),(ee dO (.call 48 [dQ,(x6 16),(x6 8)])),(qq db (.mv dM)),(qq dY (.ex 0 dD)),(qq eg (.ex 1 dD)),(qq a6 (.mv ey)),(qq a7 (.mv eV))])
def an5:CC:=(.reg [(qq eQ (.mv z4)),(qq dP (.mv z6)),(qq eB (.ci .u8 fm)),(aa ec (.bsl 5 1 1 [(.i .u8 0)] [(0,eX)])),(ee dH (.app 5 1 1 eW fG)),(qq a4 (.mv fH))])
def an6:CC:=(.reg [(qq de (.mv z5)),(qq cH (.slS cS (some (x6 2)) none)),(qq a5 (.mv cR))])
def an7:CC:=(.seq (.seq an3 (.cond cD .skip (.exit 0))) (.seq (.block 1 (.seq an4 an5)) an6))
def an8:CC:=(.reg [(qq eR (.mv z4)),(qq eD (.mv z4)),(ee eJ (.call 15 [fK])),(qq fk (.mv z0)),(qq eE (.bi .eql fL g9)),(qq a2 (.mv fJ)),(qq a3 (.mv gA))])
def an9:CC:=(.seq (.seq an2 (.block 0 (.loop an7))) (.seq an8 .ret))
def Ox:CC:=(.seq (.reg [(qq a4 (.mv (.c .l0)))]) an9)
def c18:CF:= .mk 5 [.t a2,.t a3] (.seq an1 Ox)
theorem e18(v0:V):aS 5 [v0]=(.n l8 (some v0) l8):=rfl
def B18:=ai @e18 (ai (wu an1.eq_1) (ai (wu an2.eq_1) (ai (wu an3.eq_1) (ai (wu an4.eq_1) (ai (wu an5.eq_1) (ai (wu an6.eq_1) (ai (wu an7.eq_1) (ai (wu an8.eq_1) (ai (wu an9.eq_1) (wu Ox.eq_1))))))))))
def aC8:CC:=(.reg [(qq a6 (.mv (.c (.i .u64 0)))),(qq a7 (.mv (.c .a0)))])
def aC9:CC:=(.reg [(qq cI (.mv z0)),(qq de (.mv z1)),(qq cH (.mv z2)),(ee db (.call 84 [cD,cS,cR])),(qq cg (.mv dD)),(qq du (.ex 0 cj)),(qq dE (.ex 1 cj)),(qq a8 (.mv dj)),(qq a9 (.mv dQ))])
def aD0:CC:=(.reg [(qq dO (.mv z9)),(qq dY (.eq true .iface true dM (.c .a0)))])
def aD1:CC:=(.reg [(qq eg (.mv z8)),(qq eQ (.mv z0)),(qq dP (.mv z1)),(qq eB (.mv z2)),(qq ec (.mv z9)),(ee dH (.call 85 [(.c (.s 9 2147778296661251613008)),eW,fm,eX,fG])),(qq a6 (.mv eV)),(qq a7 (.mv fH))])
def aD2:CC:=(.seq aD0 (.cond ey (.seq aD1 .ret) .skip))
def aD3:CC:=(.reg [(qq eR (.mv z8)),(qq a6 (.mv fJ)),(qq a7 (.mv (.c .a0)))])
def c48:CF:= .mk 5 [.t a6,.t a7] (.seq aC8 (.seq aC9 (.seq aD2 (.seq aD3 .ret))))
theorem e48(v0 v1 v2:V):aS 5 [v0,v1,v2]=(.n (.n iC (some v1) iC) (some v0) (.n iC (some v2) iC)):=rfl
def B48:=ai @e48 (ai (wu aC8.eq_1) (ai (wu aC9.eq_1) (ai (wu aD0.eq_1) (ai (wu aD1.eq_1) (ai (wu aD2.eq_1) (wu aD3.eq_1))))))
def hv(b:UInt8):Option Nat:=if 48≤b.toNat∧b.toNat≤57 then some (b.toNat-48)else if 97≤(b|||32).toNat∧(b|||32).toNat≤102 then some ((b|||32).toNat-87)else none
theorem bM6{b:UInt8}{d:Nat}(h:hv b=some d):d<16:=by
 unfold hv at h
 split at h
 ·injection h with h;omega
 ·split at h
  ·injection h with h;omega
  ·cases h
def Kr:List UInt8→Nat→Option Nat
 |[],n=>some n
 |x::r,n=>(hv x).bind fun d=>Kr r (n*16+d)
def pu(l:List UInt8):Nat:=(Kr l 0).getD 0
theorem VJ:∀(l:List UInt8) (n k m:Nat),n<16^k→Kr l n=some m→m<16^(k+l.length)
 |[],n,k,m,hn,h=>by injection h with h;rw[←h];exact hn
 |x::r,n,k,m,hn,h=>by
  obtain⟨d,hd,h⟩:=aU.1 h;have:=bM6 hd;have:=VJ r (n*16+d) (k+1) m (by rw[Nat.pow_succ];omega) h
  rwa [show k+1+r.length=k+(x::r).length by rw[bk];omega]at this
theorem bU5(l:List UInt8)(hl:l.length≤2):pu l<256:=by
 unfold pu
 cases h:Kr l 0 with
 |none=>decide
 |some m=>
  have h1:=VJ l 0 0 m (by decide) h;have h2:16^(0+l.length)≤16^2:=Nat.pow_le_pow_right (by decide) (by omega);show m<256;omega
theorem cy7(Φ:Nat→Option CF)(h:Φ 84=some tI)(h110:Φ 110=some (.orc (aj h110))){F:RO}{M:Mem}{c:Nat}(ok:eA F M c)(l:List UInt8)(hl:l.length≤2)(hne:l≠[]):
 Calls Φ F 84 [sV l,.i .i64 16,.i .i64 8] M c fun r M' c'=>∃e:V,r= .t [.i .u64 (pu l:Int),e]∧(e= .a0∨e= .a 171 (.i .i64 2))∧Gr c M c' M':=by
 refine ax h ?_
 have e0:bu .eql (sV l) (.s 0 0)=some (.b false):=by
  have:=lU l [];rw[ag hne]at this;exact this
 have w1:IntKind.u64.wrap 8=8:=rfl
 have w2:bu .shl (.i .u64 1) (.i .u64 8)=some (.i .u64 256):=by have:=pA .u64 .u64 1 8;exact this.trans rfl
 have w1003:bu .sub (.i .u64 256) (.i .u64 1)=some (.i .u64 255):=by rw[fX];rfl
 simp only[WX,Int.reduceEq,Int.reduceLT,Int.reduceLE,ET,e0,w1,w2,w1003,Cp,W3]
 have gX:Gr c M (c+1) (M.set c (nV 5 l)):=(Gr.refl ok).set c _ (ah _) (bD _) (bU _)
 have hsl:l9 F (M.set c (nV 5 l)) (c+1) (.u c 0 l.length 0 l.length) l:=E5 (aw _ _ _) (bD _)
 generalize M.set c (nV 5 l)=X at gX hsl⊢
 obtain⟨I1,hI1⟩:∃I:Nat→St→Prop,∀n s',I n s'↔(∃(i n0:Nat) (u:List (Option V)),n=l.length-i∧i≤l.length∧n0<16^i∧Kr l 0=Kr (l.drop i) n0∧s'= .mk ((.n (.n (.n (.n (.n (ay u 127 63 191 31 159 95 223) (uO u 15) (ay u 143 79 207 47 175 111 239)) (uO u 7) (.n (ay u 135 71 199 39 167 103 231) (uO u 23) (ay u 151 87 215 55 183 119 247))) (uO u 3) (.n (.n (.n (eH u 131 67 195) (uO u 35) (.n (kp u 163) (some (.u c 0 l.length 0 l.length)) (kp u 227))) (uO u 19) (ay u 147 83 211 51 179 115 243)) (some (.i .u64 255)) (.n (ay u 139 75 203 43 171 107 235) (uO u 27) (ay u 155 91 219 59 187 123 251)))) (some (.i .i64 16)) (.n (.n (.n (ay u 129 65 193 33 161 97 225) (uO u 17) (ay u 145 81 209 49 177 113 241)) (some (sV l)) (.n (ay u 137 73 201 41 169 105 233) (uO u 25) (ay u 153 89 217 57 185 121 249))) (uO u 5) (.n (.n (.n (eH u 133 69 197) (uO u 37) (.n (kp u 165) (some (.i .i64 (i:Int))) (kp u 229))) (uO u 21) (ay u 149 85 213 53 181 117 245)) (some (.i .u64 (n0:Int))) (.n (ay u 141 77 205 45 173 109 237) (uO u 29) (ay u 157 93 221 61 189 125 253))))) (some (sV l)) (.n (.n (.n (.n (ay u 128 64 192 32 160 96 224) (uO u 16) (ay u 144 80 208 48 176 112 240)) (some (.b false)) (.n (ay u 136 72 200 40 168 104 232) (uO u 24) (ay u 152 88 216 56 184 120 248))) (uO u 4) (.n (.n (.n (eH u 132 68 196) (uO u 36) (.n (kp u 164) (some (.i .i64 (l.length:Int))) (kp u 228))) (uO u 20) (ay u 148 84 212 52 180 116 244)) (some (.b false)) (.n (ay u 140 76 204 44 172 108 236) (uO u 28) (ay u 156 92 220 60 188 124 252)))) (uO u 2) (.n (.n (.n (ay u 130 66 194 34 162 98 226) (uO u 18) (ay u 146 82 210 50 178 114 242)) (some (.i .u64 1152921504606846976)) (.n (ay u 138 74 202 42 170 106 234) (uO u 26) (ay u 154 90 218 58 186 122 250))) (uO u 6) (.n (.n (ay u 134 70 198 38 166 102 230) (uO u 22) (ay u 150 86 214 54 182 118 246)) (uO u 14) (.n (ay u 142 78 206 46 174 110 238) (uO u 30) (ay u 158 94 222 62 190 126 254))))))) [] X (c+1)):=⟨fun n s'=>_,fun _ _=>Iff.rfl⟩
 refine cX I1 ?_ l.length _ ((hI1 _ _).2 ⟨0,0,[none,none,_,_,_,_,_,_,none,none,none,none,none,none,_,_,_,_,_,_,_,_,_,_,_,_,_,_,_,_,_,_,_,_,_,_,_,_,_,_,_,_,_,_,_,_,_,_,_,_,_,_,_,_,_,_,_,_,_,_,_,_,_,_,_,_,_,_,_,_,_,_,_,_,_,_,_,_,_,_,_,_,_,_,_,_,_,_,_,_,_,_,_,_,_,_,_,_,_,none,none,none,_,_,_,_,_,_,_,_,_,_,_,_,_,_,_,_,_,_,_,_,_,_,_,_,_,_,_,_,_,_,_,_,_,_,_,_,_,_,_,_,_,_,_,_,_,_,_,_,_,_,_,_,_,_,_,_,_,_,_,_,_,_,_,_,_,_,_,_,_,_,_,_,_,_,_,_,_,_,_,_,_,_,_,_,_,_,_,_,_,_,_,_,_,_,_,_,_,_,_,_,_,_,_,_,_,_,_,_,_,_,_,_,_,_,_,_,_,_,_,_,_,_,_,_,_,_,_,_,_,_,_,_,_,_,_,_,_,_,_,_,_,_,_,_,_,_,_,_,_,_,_,_,_],rfl,aM _,by decide,rfl,rfl⟩)
 intro n s' hIs
 obtain⟨i,n0,u,rfl,hi,hn0,hpu,rfl⟩:=(hI1 _ _).1 hIs
 clear hIs
 have hn1:n0<256:=Nat.lt_of_lt_of_le hn0 (bm (Nat.pow_le_pow_right (by decide) (show i≤2 by omega)) (by decide))
 by_cases hlt:i<l.length
 ·have d1:decide ((i:Int)<(l.length:Int))=true:=af (by omega);have hn2:n0<16:=Nat.lt_of_lt_of_le hn0 (bm (Nat.pow_le_pow_right (by decide) (show i≤1 by omega)) (by decide));obtain⟨b1,o1,_,ia1,ld1⟩:=hsl.get i hlt;have hdr:=eS hlt;have hx:l[i].toNat<256:=UInt8.toNat_lt l[i];have hlow:Ev.h110 [.i .u8 (l[i].toNat:Int)]=some (.i .u8 ((l[i]|||32).toNat:Int)):=Hz l[i];have hvd:hv l[i]=if 48≤l[i].toNat∧l[i].toNat≤57 then some (l[i].toNat-48)else if 97≤(l[i]|||32).toNat∧(l[i]|||32).toNat≤102 then some ((l[i]|||32).toNat-87)else none:=rfl
  rw[hdr]at hpu;have hnone:hv l[i]=none→pu l=0:=fun hh=>by unfold pu;rw[hpu,Kr,hh];rfl
  have hsome:∀d,hv l[i]=some d→Kr l 0=Kr (l.drop (i+1)) (n0*16+d):=fun d hh=>by rw[hpu,Kr,hh];rfl
  clear hpu hdr;generalize hv l[i]=hb at hvd hnone hsome;generalize(l[i]|||32).toNat=y at hlow hvd;generalize l[i].toNat=x at ld1 hx hlow hvd;have q8:bu .add (.i .i64 (i:Int)) (.i .i64 1)=some (.i .i64 ((i+1:Nat):Int)):=by rw[bA _ _ (by omega) (by omega)];simp
  have w1008:IntKind.u8.wrap 16=16:=rfl;have wx:IntKind.u64.wrap 16=16:=rfl;have m1:bu .mul (.i .u64 (n0:Int)) (.i .u64 16)=some (.i .u64 ((n0*16:Nat):Int)):=by rw[uM,fF];congr 2;omega
  have e1005:decide ((1152921504606846976:Int)≤(n0:Int))=false:=ag (by omega);have a1:∀d,d<16→bu .add (.i .u64 ((n0*16:Nat):Int)) (.i .u64 (d:Nat))=some (.i .u64 ((n0*16+d:Nat):Int)):=fun d hd=>by rw[jN,fF];exact congrArg (fun z=>some (V.i .u64 z)) (by omega)
  have e1006:∀d:Nat,decide (((n0*16+d:Nat):Int)<((n0*16:Nat):Int))=false:=fun d=>ag (by omega);have e1007:∀d:Nat,d<16→decide ((255:Int)<((n0*16+d:Nat):Int))=false:=fun d hd=>ag (by omega);have hpw:∀d:Nat,d<16→n0*16+d<16^(i+1):=fun d hd=>by rw[Nat.pow_succ];omega
  by_cases hA:48≤x∧x≤57
  ·rw[ac hA]at hvd;have hd:x-48<16:=by omega
   have e1:decide ((x:Int)=95)=false:=ag (by omega);have e2:decide ((48:Int)≤(x:Int))=true:=af (by omega);have e1003:decide ((x:Int)≤57)=true:=af (by omega);have s1:bu .sub (.i .u8 (x:Int)) (.i .u8 48)=some (.i .u8 ((x-48:Nat):Int)):=by rw[fX,dh];congr 2;omega
   have e1004:decide ((16:Int)≤((x-48:Nat):Int))=false:=ag (by omega);have wd:IntKind.u64.wrap ((x-48:Nat):Int)=((x-48:Nat):Int):=by rw[fF];omega
   have a2:=a1 _ hd;have e6:=e1006 (x-48);have e7:=e1007 _ hd;simp only[WX,ET,d1,ia1,ld1,e1,e2,e1003,s1,w1008,e1004,e1005,wx,m1,wd,a2,e6,e7,q8];exact⟨l.length-(i+1),by omega,(hI1 _ _).2 ⟨i+1,n0*16+(x-48),[none,none,_,_,_,_,_,_,none,none,none,none,none,none,_,_,_,_,_,_,_,_,_,_,_,_,_,_,_,_,_,_,_,_,_,_,_,_,_,_,_,_,_,_,_,_,_,_,_,_,_,_,_,_,_,_,_,_,_,_,_,_,_,_,_,_,_,_,_,_,_,_,_,_,_,_,_,_,_,_,_,_,_,_,_,_,_,_,_,_,_,_,_,_,_,_,_,_,_,none,none,none,_,_,_,_,_,_,_,_,_,_,_,_,_,_,_,_,_,_,_,_,_,_,_,_,_,_,_,_,_,_,_,_,_,_,_,_,_,_,_,_,_,_,_,_,_,_,_,_,_,_,_,_,_,_,_,_,_,_,_,_,_,_,_,_,_,_,_,_,_,_,_,_,_,_,_,_,_,_,_,_,_,_,_,_,_,_,_,_,_,_,_,_,_,_,_,_,_,_,_,_,_,_,_,_,_,_,_,_,_,_,_,_,_,_,_,_,_,_,_,_,_,_,_,_,_,_,_,_,_,_,_,_,_,_,_,_,_,_,_,_,_,_,_,_,_,_,_,_,_,_,_,_,_],rfl,by omega,hpw _ hd,hsome _ hvd,rfl⟩⟩
  ·rw[ab hA]at hvd;have hfin:hb=none→ ∃e:V,V.t [V.i IntKind.u64 0,V.a 171 (V.i IntKind.i64 2)]= .t [.i .u64 (pu l:Int),e]∧(e= .a0∨e= .a 171 (.i .i64 2))∧Gr c M (c+1) X:=fun hh=>⟨_,by rw[hnone hh];rfl,.inr rfl,gX⟩;have key:(decide ((48:Int)≤(x:Int))&&decide ((x:Int)≤57))=false:=by
    rw[Bool.and_eq_false_iff,decide_eq_false_iff_not,decide_eq_false_iff_not];omega
   by_cases hB:97≤y∧y≤102
   ·rw[ac hB]at hvd;have hd:y-97+10<16:=by omega
    have hy1:decide ((97:Int)≤(y:Int))=true:=af (by omega);have hy2:decide ((y:Int)≤122)=true:=af (by omega);have s1:bu .sub (.i .u8 (y:Int)) (.i .u8 97)=some (.i .u8 ((y-97:Nat):Int)):=by rw[fX,dh];congr 2;omega
    have a3:bu .add (.i .u8 ((y-97:Nat):Int)) (.i .u8 10)=some (.i .u8 ((y-97+10:Nat):Int)):=by rw[jN,dh];congr 2;omega
    have e1004:decide ((16:Int)≤((y-97+10:Nat):Int))=false:=ag (by omega);have wd:IntKind.u64.wrap ((y-97+10:Nat):Int)=((y-97+10:Nat):Int):=by rw[fF];omega
    have a2:=a1 _ hd;have e6:=e1006 (y-97+10);have e7:=e1007 _ hd;have hvd':hb=some (y-97+10):=by rw[hvd];congr 1;omega
    cases hp:decide ((x:Int)=95)<;>cases hq:decide ((48:Int)≤(x:Int))<;>cases hr:decide ((x:Int)≤57)
    all_goals first
     |(exfalso;rw[hq,hr]at key;cases key;done)
     |(simp only[WX,ET,d1,ia1,ld1,hp,hq,hr,h110,hlow,hy1,hy2,s1,a3,w1008,e1004,e1005,wx,m1,wd,a2,e6,e7,q8]
       exact⟨l.length-(i+1),by omega,(hI1 _ _).2 ⟨i+1,n0*16+(y-97+10),[none,none,_,_,_,_,_,_,none,none,none,none,none,none,_,_,_,_,_,_,_,_,_,_,_,_,_,_,_,_,_,_,_,_,_,_,_,_,_,_,_,_,_,_,_,_,_,_,_,_,_,_,_,_,_,_,_,_,_,_,_,_,_,_,_,_,_,_,_,_,_,_,_,_,_,_,_,_,_,_,_,_,_,_,_,_,_,_,_,_,_,_,_,_,_,_,_,_,_,none,none,none,_,_,_,_,_,_,_,_,_,_,_,_,_,_,_,_,_,_,_,_,_,_,_,_,_,_,_,_,_,_,_,_,_,_,_,_,_,_,_,_,_,_,_,_,_,_,_,_,_,_,_,_,_,_,_,_,_,_,_,_,_,_,_,_,_,_,_,_,_,_,_,_,_,_,_,_,_,_,_,_,_,_,_,_,_,_,_,_,_,_,_,_,_,_,_,_,_,_,_,_,_,_,_,_,_,_,_,_,_,_,_,_,_,_,_,_,_,_,_,_,_,_,_,_,_,_,_,_,_,_,_,_,_,_,_,_,_,_,_,_,_,_,_,_,_,_,_,_,_,_,_,_,_],rfl,by omega,hpw _ hd,hsome _ hvd',rfl⟩⟩)
   ·rw[ab hB]at hvd;have hfin:=hfin hvd;by_cases hC:97≤y∧y≤122
    ·have hy1:decide ((97:Int)≤(y:Int))=true:=af (by omega);have hy2:decide ((y:Int)≤122)=true:=af (by omega);have s1:bu .sub (.i .u8 (y:Int)) (.i .u8 97)=some (.i .u8 ((y-97:Nat):Int)):=by rw[fX,dh];congr 2;omega
     have a3:bu .add (.i .u8 ((y-97:Nat):Int)) (.i .u8 10)=some (.i .u8 ((y-97+10:Nat):Int)):=by rw[jN,dh];congr 2;omega
     have e1004:decide ((16:Int)≤((y-97+10:Nat):Int))=true:=af (by omega);cases hp:decide ((x:Int)=95)<;>cases hq:decide ((48:Int)≤(x:Int))<;>cases hr:decide ((x:Int)≤57)
     all_goals first
      |(exfalso;rw[hq,hr]at key;cases key;done)
      |(simp only[WX,ET,d1,ia1,ld1,hp,hq,hr,h110,hlow,hy1,hy2,s1,a3,w1008,e1004,fh];exact hfin)
    ·have keyc:(decide ((97:Int)≤(y:Int))&&decide ((y:Int)≤122))=false:=by
      rw[Bool.and_eq_false_iff,decide_eq_false_iff_not,decide_eq_false_iff_not];omega
     cases hp:decide ((x:Int)=95)<;>cases hq:decide ((48:Int)≤(x:Int))<;>cases hr:decide ((x:Int)≤57)<;>cases hy1:decide ((97:Int)≤(y:Int))<;>cases hy2:decide ((y:Int)≤122)
     all_goals first
      |(exfalso;rw[hq,hr]at key;cases key;done)
      |(exfalso;rw[hy1,hy2]at keyc;cases keyc;done)
      |(simp only[WX,ET,d1,ia1,ld1,hp,hq,hr,h110,hlow,hy1,hy2,fh];exact hfin)
 ·obtain rfl:i=l.length:=by omega
  have d1:decide ((l.length:Int)<(l.length:Int))=false:=ag (by omega);rw[List.drop_length]at hpu;have hp:pu l=n0:=by unfold pu;rw[hpu];rfl
  simp only[WX,ET,d1];exact⟨_,by rw[hp],.inl rfl,gX⟩
theorem od{F:RO}{M:Mem}{c0 c b ty sz bytes:Nat}{v y:V}{es ns:List (List V)}(h:cu M c0 c b ty sz v es)(ok:eA F M c)(h0:c0≤c)(hsz:0<sz)(hy:cU F M c sz y ns)(h1:br ns.flatten=true)(hr:kY (es.length+ns.length) bytes=true):
 wY (tF F M c ty sz bytes v y) fun v' M' c'=>∃b',cu M' c0 c' b' ty sz v' (es++ns)∧eA F M' c'∧c≤c'∧(∀x,x<c0→M'.get x=M.get x):=by
 obtain⟨b1,hA1,hb1⟩:∃b1,cu M c0 c b1 ty sz v es∧((c0≤b1∧b1<c∧ ∃x,M.get b1=some x)∨c≤b1):=by
  rcases h with⟨a0,⟨a1,a2⟩|⟨a1,a2,a3,a4⟩⟩
  ·exact⟨c,⟨a0,.inl ⟨a1,a2⟩⟩,.inr (ah _)⟩
  ·exact⟨b,⟨a0,.inr ⟨a1,a2,a3,a4⟩⟩,.inl ⟨a1,a2,_,a4⟩⟩
 refine(lR (bytes:=bytes) hA1 ⟨h0,fun _ _=>rfl,ok.hiM⟩ hsz hy h1 hr).mono ?_
 rintro v' M' c' ⟨b',hA',g',hle,hf,hb'⟩
 have gx:EU (fun x=>x=b1) c M c' M':=⟨hle,fun x a b=>hf x a b,g'.new⟩
 refine⟨b',hA',gx.ok ok fun x a e=>?_,hle,fun x hx=>g'.old x hx⟩
 rcases hb1 with⟨_,_,hm⟩|a2
 ·rw[e];exact hm
 ·omega
theorem cu.keep{M M':Mem}{c0 c c' b ty sz:Nat}{v:V}{es:List (List V)}(h:cu M c0 c b ty sz v es)(hc:c≤c')(hM:∀x,c0≤x→x<c→M'.get x=M.get x):cu M' c0 c' b ty sz v es:=by
 rcases h with⟨h0,h|⟨h1,h2,rfl,h3⟩⟩
 ·exact⟨h0,.inl h⟩
 ·exact⟨h0,.inr ⟨h1,by omega,rfl,by rw[hM b h1 h2];exact h3⟩⟩
theorem Cq{M:Mem}{c0 c b ty sz:Nat}{v:V}{es:List (List V)}(h:cu M c0 c b ty sz v es):dq v=true∧flatten v=[v]∧br [v]=true:=by
 rcases h with⟨_,⟨_,rfl⟩|⟨_,_,rfl,_⟩⟩<;>exact⟨rfl,rfl,rfl⟩
theorem cy5(Φ:Nat→Option CF)(h:Φ 48=some c48)(h84:Φ 84=some tI)(h85:Φ 85=some wD)(h112:Φ 112=some jR)(h113:Φ 113=some jS)(h136:Φ 136=some (.orc (aj h136)))(h110:Φ 110=some (.orc (aj h110))){F:RO}{M:Mem}{c:Nat}(ok:eA F M c)(hE1:bF F 1)(hE2:bF F 2)(hlow:∀g,g<1000→M.get g=none)(l:List UInt8)(hl:l.length≤2)(hne:l≠[]):
 Calls Φ F 48 [sV l,.i .i64 16,.i .i64 8] M c fun r M' c'=>∃e:V,r= .t [.i .u64 (pu l:Int),e]∧Gr c M c' M':=by
 refine ax h ?_
 simp only[WX,B48]
 refine aB ((cy7 Φ h84 h110 ok l hl hne).mono ?_)
 rintro r M1 c1 ⟨e,rfl,he,hg⟩
 have hge:=ok.ge
 rcases he with rfl|rfl
 ·simp only[WX,B48,qC];exact⟨_,rfl,hg⟩
 ·have ok1:=hg.ok ok;simp only[WX,B48,kG];refine aB ((r85 (f:=[80,97,114,115,101,85,105,110,116]) Φ h85 h112 h113 h136 ok1 hE1 (by rw[hg.old 1 (by omega)];exact hlow 1 (by omega)) hE2 (by rw[hg.old 2 (by omega)];exact hlow 2 (by omega)) l (by omega) _ (.inr rfl) _ _).mono ?_);rintro r M2 c2 ⟨⟨b,rfl⟩,hg2⟩;simp only[WX];exact⟨_,rfl,hg.trans hg2⟩
def u4:List UInt8→List UInt8
 |x::y::r=>UInt8.ofNat (pu [x,y])::u4 r
 |_=>[]
theorem bi0(b:UInt8):pu [fY (b.toNat/16),fY (b.toNat%16)]=b.toNat:=by
 have key:∀n,n<16→hv (fY n)=some n:=by decide
 have hb:=UInt8.toNat_lt b
 unfold pu
 rw[Kr,key _ (by omega),Option.bind_some,Kr,key _ (by omega),Option.bind_some,Kr,Option.getD_some]
 omega
theorem BO:∀l:List UInt8,u4 (iU l)=l
 |[]=>rfl
 |b::r=>by
  unfold iU;rw[List.flatMap_cons];show UInt8.ofNat (pu [fY (b.toNat/16),fY (b.toNat%16)])::u4 (iU r)=_;rw[bi0,BO r,UInt8.ofNat_toNat]
theorem Ww(l:List UInt8):u4 (gG l)=l:=by
 unfold gG
 split
 ·rename_i h;rw[h];rfl
 ·exact BO l
theorem b74(a b:List UInt8):(a++b).map (fun x=>[bV x])=a.map (fun x=>[bV x])++b.map (fun x=>[bV x]):=List.map_append ..
theorem r18(Φ:Nat→Option CF)(h:Φ 18=some c18)(h48:Φ 48=some c48)(h84:Φ 84=some tI)(h85:Φ 85=some wD)(h112:Φ 112=some jR)(h113:Φ 113=some jS)(h136:Φ 136=some (.orc (aj h136)))(h110:Φ 110=some (.orc (aj h110)))(h15:Φ 15=some c15)(h44:Φ 44=some YF)(h45:Φ 45=some YG)(h81:Φ 81=some Ug){F:RO}{M:Mem}{c:Nat}(ok:eA F M c)(hE1:bF F 1)(hE2:bF F 2)(hlow:∀g,g<1000→M.get g=none)(s:List UInt8)(hs:s.length≤400000):
 Calls Φ F 18 [sV s] M c fun r M' c'=>∃v b,r= .t [v,.b b]∧l9 F M' c' v (u4 s)∧Gr c M c' M':=by
 refine ax h ?_
 have hge:=ok.ge
 simp only[WX,B18]
 obtain⟨I,hI⟩:∃I:Nat→St→Prop,∀n s',I n s'↔(∃(k c1 b1:Nat) (v:V) (M1:Mem) (done rest:List UInt8) (u:List (Option V)),n=rest.length∧s'= .mk ((.n (.n (ay u 15 7 23 3 19 11 27) (uO u 1) (.n (eH u 17 9 25) (some (sV rest)) (eH u 21 13 29))) (some (sV s)) (.n (.n (eH u 16 8 24) (some (v)) (eH u 20 12 28)) (uO u 2) (ay u 18 10 26 6 22 14 30)))) [] M1 c1∧u4 s=done++u4 rest∧done.length+rest.length≤s.length∧eA F M1 c1∧c≤c1∧(∀x,x<c→M1.get x=M.get x)∧cu M1 c c1 b1 5 1 v (done.map fun x=>[bV x])):=⟨fun n s'=>_,fun _ _=>Iff.rfl⟩
 refine cX I ?_ s.length _ ((hI _ _).2 ⟨0,c,0,.l0,M,[],s,[none,_,_,_,none,none,_,_,_,_,_,_,_,_,_,_,_,_,_,_,_,_,_,_,_,_,_,_,_,_,_],rfl,rfl,rfl,by simp,ok,ah _,fun _ _=>rfl,cu.nil⟩)
 intro n s' hIs
 obtain⟨k,c1,b1,v,M1,done,rest,u,rfl,rfl,hu,hlen,ok1,hle,hold,hA⟩:=(hI _ _).1 hIs
 clear hIs
 match rest,hu,hlen with
 |x::y::r,hu,hlen=>
  have d1:decide ((1:Int)<((x::y::r).length:Int))=true:=af (by rw[bk,bk];omega);have s1:=BC (x::y::r) .i64 2 (by simp);have s2:=pl (x::y::r) .i64 2 (by simp);rw[show((2:Nat):Int)=2 from rfl,show(x::y::r).take 2=[x,y]from rfl]at s1;rw[show((2:Nat):Int)=2 from rfl,show(x::y::r).drop 2=r from rfl]at s2;have hrl:(x::y::r).length=r.length+2:=rfl;rw[u4]at hu;rw[hrl]at hlen d1;have hlnS:∀M,lnV .str F M (sV (x::y::r))=some (.i .i64 ((r.length+2:Nat):Int)):=fun M=>bO0 _ M;generalize hz:x::y::r=z at s1 s2 hlnS;simp only[WX,B18,hlnS,d1,s1];refine aB ((cy5 Φ h48 h84 h85 h112 h113 h136 h110 ok1 hE1 hE2 (fun g hg=>(hold g (by omega)).trans (hlow g hg)) [x,y] (by simp) (by simp)).mono ?_);rintro q M2 c2 ⟨e,rfl,g2⟩;have hpu:=bU5 [x,y] (by simp);have wr:V.i .u8 (IntKind.u8.wrap (pu [x,y]:Int))=bV (UInt8.ofNat (pu [x,y])):=by rw[jQ _ hpu,dh,Int.emod_eq_of_lt (by omega) (by omega)]
  generalize pu [x,y]=p at hpu wr hu;have ok2:=g2.ok ok1;have g2l:=g2.le;simp only[WX,B18,wr,iV,fx];have g3:=(Gr.refl ok2).set c2 (eU [.i .u8 0] 5 [bV (UInt8.ofNat p)]) (ah _) (bD _) (bU _);have hy:cU F (M2.set c2 (eU [.i .u8 0] 5 [bV (UInt8.ofNat p)])) (c2+1) 1 (.l c2 0 1 1) [[bV (UInt8.ofNat p)]]:=E6 (d:=[.i .u8 0]) (ty:=5) (aw _ _ _) (by omega) (fun e he=>by rw[List.mem_singleton]at he;subst he;rfl) rfl;have hA3:=hA.keep (M':=M2.set c2 (eU [.i .u8 0] 5 [bV (UInt8.ofNat p)])) (c':=c2+1) (by omega) fun x x1 x2=>(g3.old x (by omega)).trans (g2.old x x2);have hdl:(done.map fun x=>[bV x]).length=done.length:=List.length_map _;refine aB ((od (c0:=c) (bytes:=1) hA3 (g3.ok ok2) (by omega) (by decide) hy rfl (eO (by rw[hdl,List.length_singleton];omega) (by rw[hdl,List.length_singleton];omega))).mono ?_);rintro v' M4 c4 ⟨b4,hA4,ok4,hle4,hold4⟩;simp only[WX,B18,s2];refine⟨r.length,by rw[←hz,hrl];omega,(hI _ _).2 ⟨0,c4,b4,v',M4,done++[UInt8.ofNat p],r,[none,_,_,_,none,none,_,_,_,_,_,_,_,_,_,_,_,_,_,_,_,_,_,_,_,_,_,_,_,_,_],rfl,rfl,?_,?_,ok4,by omega,fun x hx=>?_,?_⟩⟩
  ·rw[hu];simp
  ·rw[bE,List.length_singleton];omega
  ·rw[hold4 x hx,g3.old x (by omega),g2.old x (by omega),hold x hx]
  ·rw[b74];exact hA4
 |[],hu,hlen=>
  have d1:decide ((1:Int)<((0:Nat):Int))=false:=rfl;rw[show u4 []=[]from rfl,di]at hu;have hdl:u4 s=done:=hu;simp only[WX,B18,d1];refine aB ((r15 Φ h15 h44 h45 h81 ok1 (hA.sl (F:=F)) (by rw[cF]at hlen;omega)).mono ?_);rintro q M2 c2 ⟨rfl,g2⟩;simp only[WX];exact⟨_,_,rfl,by rw[hdl];exact(hA.sl (F:=F)).grow g2,⟨by have:=g2.le;omega,fun x hx=>(g2.old x (by omega)).trans (hold x hx),g2.new⟩⟩
 |[x],hu,hlen=>
  have d1:decide ((1:Int)<((1:Nat):Int))=false:=rfl;rw[show u4 [x]=[]from rfl,di]at hu;have hdl:u4 s=done:=hu;simp only[WX,B18,d1];refine aB ((r15 Φ h15 h44 h45 h81 ok1 (hA.sl (F:=F)) (by rw[List.length_singleton]at hlen;omega)).mono ?_);rintro q M2 c2 ⟨rfl,g2⟩;simp only[WX];exact⟨_,_,rfl,by rw[hdl];exact(hA.sl (F:=F)).grow g2,⟨by have:=g2.le;omega,fun x hx=>(g2.old x (by omega)).trans (hold x hx),g2.new⟩⟩
def as5:CC:=(.reg [(qq a4 (.mv (x6 0)))])
def as6:CC:=(.reg [(qq a7 (.mv z4)),(qq a8 (.bi .add z7 (x6 4))),(qq a9 (.mv z0)),(qq cg (.ln .slice z9)),(qq cI (.bi .leq z8 cj))])
def as7:CC:=(.reg [(qq du (.mv z0)),(qq dE (.mv z4)),(qq dO (.mv z4)),(qq dY (.bi .add dM (x6 4))),(qq eg (.slL 1 dj (some dQ) (some ey) none)),(ee eQ (.call 63 [eV])),(qq db (.mv eW)),(qq dP (.ex 0 dD)),(qq eB (.ex 1 dD)),(aa a5 (.al 59 [(.i .i64 0),(.i .i64 0),(.i .i64 0),(.i .i64 0),(.i .i64 0)])),(ez (.st 5 z5 fm)),(qq a6 (.mv eX))])
def as8:CC:=(.reg [(qq ec (.mv z6)),(qq dH (.bi .neq fG (x6 0)))])
def as9:CC:=(.reg [(qq eR (.mv z3)),(qq a2 (.mv fJ))])
def at2:CC:=(.seq as8 (.cond fH (.seq as9 .ret) .skip))
def at3:CC:=(.reg [(qq eD (.mv z3)),(qq eJ (.ldn 5 z5)),(aa fk (.bsl 59 1 5 [(.i .i64 0),(.i .i64 0),(.i .i64 0),(.i .i64 0),(.i .i64 0)] [(0,fL)])),(ee eE (.app 59 5 40 fK g9)),(qq a3 (.mv gA))])
def at4:CC:=(.reg [(qq de (.mv z4)),(qq cH (.bi .add cS (x6 4))),(qq a4 (.mv cR))])
def at5:CC:=(.seq (.seq as6 (.cond cD .skip (.exit 0))) (.seq (.block 1 (.seq as7 (.seq at2 at3))) at4))
def Pj:CC:=(.reg [(qq eY (.mv z3)),(qq a2 (.mv gC))])
def Pk:CC:=(.seq (.seq as5 (.block 0 (.loop at5))) (.seq Pj .ret))
def Pl:CC:=(.seq (.reg [(qq a3 (.mv (.c .l0)))]) Pk)
def Pm:CC:=(.seq (.reg [(qq a2 (.mv (.c .l0)))]) Pl)
def c26:CF:= .mk 5 [.t a2] Pm
theorem e26(v0:V):aS 5 [v0]=(.n l8 (some v0) l8):=rfl
def B26:=ai @e26 (ai (wu as5.eq_1) (ai (wu as6.eq_1) (ai (wu as7.eq_1) (ai (wu as8.eq_1) (ai (wu as9.eq_1) (ai (wu at2.eq_1) (ai (wu at3.eq_1) (ai (wu at4.eq_1) (ai (wu at5.eq_1) (ai (wu Pj.eq_1) (ai (wu Pk.eq_1) (ai (wu Pl.eq_1) (wu Pm.eq_1)))))))))))))
theorem r26(Φ:Nat→Option CF)(h:Φ 26=some c26)(h93:Φ 93=some (.orc (aj h93)))(h63:Φ 63=some c63){F:RO}{M:Mem}{c:Nat}{v:V}{l:List UInt8}(ok:eA F M c)(hs:l9 F M c v l)(hl:l.length≤9000):
 Calls Φ F 26 [v] M c fun r M' c'=>ie F M' c c' 5 r ((aN l).map mY)∧Gr c M c' M':=by
 refine ax h ?_
 have hln:=hs.len
 simp only[WX,B26]
 obtain⟨I,hI⟩:∃I:Nat→St→Prop,∀n s,I n s↔(∃(k:Nat) (M1:Mem) (c1 bw:Nat) (acc:V) (pre:List nc) (u:List (Option V)),n=l.length-4*k∧4*k≤l.length∧s= .mk ((.n (.n (.n (eH u 15 7 23) (some (acc)) (eH u 19 11 27)) (uO u 1) (ay u 17 9 25 5 21 13 29)) (some (v)) (.n (.n (eH u 16 8 24) (some (.i .i64 ((4*k:Nat):Int))) (eH u 20 12 28)) (uO u 2) (ay u 18 10 26 6 22 14 30)))) [] M1 c1∧pre.length=k∧pre++aN (l.drop (4*k))=aN l∧Gr c M c1 M1∧cu M1 c c1 bw 59 5 acc (pre.map mY)):=⟨fun n s=>_,fun _ _=>Iff.rfl⟩
 refine cX I ?_ l.length _ ((hI _ _).2 ⟨0,_,_,c,_,[],[none,_,_,none,none,_,_,_,_,_,_,_,_,_,_,_,_,_,_,_,_,_,_,_,_,_,_,_,_,_,_],rfl,aM _,rfl,rfl,rfl,Gr.refl ok,cu.nil⟩)
 intro n s hIs
 obtain⟨k,M1,c1,bw,acc,pre,u,rfl,hk,rfl,hpl,hpre,hg,hacc⟩:=(hI _ _).1 hIs
 clear hIs
 have q8:bu .add (.i .i64 ((4*k:Nat):Int)) (.i .i64 4)=some (.i .i64 ((4*k+4:Nat):Int)):=by rw[bA _ _ (by omega) (by omega)];simp
 by_cases hlt:4*k+4≤l.length
 ·have hd:decide (((4*k+4:Nat):Int)≤(l.length:Int))=true:=af (by omega);obtain⟨a0,a1,a2,a3,hfour,hdrop⟩:=Hw hlt;obtain⟨v',e1,-,-,-,hs'⟩:=Ix (hs.grow hg) (show 4*k≤4*k+4 by omega) (by rw[List.length_map];exact hlt);have hs':l9 F M1 c1 v' [a0,a1,a2,a3]:=by
   rw[←hfour];unfold l9;rw[List.map_drop,List.map_take];exact hs'
  simp only[WX,B26,hln,hd,q8,e1];refine aB ((r63 Φ h63 h93 (hg.ok ok) hs').mono ?_);rintro v2 M2 c2 ⟨rfl,hg2⟩;rw[hdrop,lw]at hpre;have hgg:=hg.trans hg2;have hacc2:=hacc.gr hg2;have hgx:=fun x=>hgg.set c2 x hgg.le (bD _) (bU _);by_cases hok:Lv (gz a0 a1 a2 a3)=true
  ·rw[Bo hok];rw[ac hok]at hpre;have hins:mY (pJ (gz a0 a1 a2 a3))=[.i .i64 (pJ (gz a0 a1 a2 a3)).op,.i .i64 (pJ (gz a0 a1 a2 a3)).d,.i .i64 (pJ (gz a0 a1 a2 a3)).a,.i .i64 (pJ (gz a0 a1 a2 a3)).b,.i .i64 (pJ (gz a0 a1 a2 a3)).i]:=rfl;have hlen2:4*pre.length≤l.length:=by omega
   generalize pJ (gz a0 a1 a2 a3)=x at hpre hins;simp only[WX,Nat.reduceAdd,Nat.reduceLeDiff,B26,hins,ne_eq,not_true_eq_false];have hacc3:=fun y z=>hacc2.up (M':=(M2.set c2 y).set (c2+1) z) (c':=c2+2) (by omega) (fun hb=>by rw[aq _ _ (by omega),aq _ _ (by omega)]);have hgy:=fun y z=>(hgx y).set (c2+1) z (by have:=hgg.le;omega) (bD _) (bU _);have hy:cU F ((M2.set c2 (aK 59 (mY x))).set (c2+1) (eU [V.i .i64 0,.i .i64 0,.i .i64 0,.i .i64 0,.i .i64 0] 59 (mY x))) (c2+2) 5 (.l (c2+1) 0 1 1) [mY x]:=E6 (d:=[V.i .i64 0,.i .i64 0,.i .i64 0,.i .i64 0,.i .i64 0]) (ty:=59) (by rw[aw];simp) (by omega) (by simp[mY]) rfl;unfold mY at hy;refine aB ((lR (bytes:=40) (ns:=[mY x]) (hacc3 _ _) (hgy _ _) (by decide) hy rfl (eO (by simp;omega) (by simp;omega))).mono ?_);rintro v6 M6 c1006 ⟨bw',hacc6,hg6,-,-,-⟩;simp only[WX,B26,q8];refine⟨l.length-4*(k+1),by omega,(hI _ _).2 ⟨k+1,M6,c1006,bw',v6,pre++[x],[none,_,_,none,none,_,_,_,_,_,_,_,_,_,_,_,_,_,_,_,_,_,_,_,_,_,_,_,_,_,_],rfl,by omega,rfl,by simp[hpl],?_,hg6,by rw[List.map_append];exact hacc6⟩⟩;rw[kz];exact hpre
  ·rw[Bn hok];rw[ab hok,di]at hpre;simp only[WX,Int.reduceEq,Nat.reduceAdd,Nat.reduceLeDiff,B26,vz,ne_eq,not_false_eq_true];subst hpre;exact⟨(hacc2.up (c':=c2+1) (by omega) (fun hb=>aq _ _ (by omega))).own,hgx _⟩
 ·have hd:decide (((4*k+4:Nat):Int)≤(l.length:Int))=false:=ag (by omega);simp only[WX,B26,hln,hd,q8];rw[dG (by rw[cM];omega),di]at hpre;subst hpre;exact⟨hacc.own,hg⟩
def av9:CC:=(.reg [(qq a3 (.mv (x6 0)))])
def aw0:CC:=(.reg [(qq a6 (.mv z3)),(qq a7 (.bi .add z6 (x6 4))),(qq a8 (.ld1 z1)),(qq a9 (.ln .slice z8)),(qq cg (.bi .leq z7 z9))])
def aw1:CC:=(.reg [(qq db (.ld1 z1)),(qq du (.mv z3)),(qq dE (.mv z3)),(qq dO (.bi .add dQ (x6 4))),(qq dY (.slL 1 dD (some dj) (some dM) none)),(ee eg (.call 38 [ey])),(qq cH (.mv eV)),(qq eQ (.ex 0 cR)),(qq dP (.ex 1 cR)),(aa a4 (.al 59 [(.i .i64 0),(.i .i64 0),(.i .i64 0),(.i .i64 0),(.i .i64 0)])),(ez (.st 5 z4 eW)),(qq a5 (.mv fm))])
def aw2:CC:=(.reg [(qq eB (.mv z5)),(qq ec (.bi .neq eX (x6 0))),(qq dH (.mv fG)),(aL eR (.mv z0) dH),(aL eD (.mv z3) dH),(aL eJ (.ldn 5 z4) dH),(tM fk (.cv fJ [fK,fL]) dH),(aL eE (.un .not g9) dH),(qq eY (.pk fH xT gA))])
def aw3:CC:=(.seq aw1 (.seq aw2 (.cond gC .ret .skip)))
def aw4:CC:=(.reg [(qq cI (.mv z3)),(qq de (.bi .add cD (x6 4))),(qq a3 (.mv cS))])
def aw5:CC:=(.seq (.seq aw0 (.cond cj .skip (.exit 0))) (.seq (.block 1 aw3) aw4))
def c37:CF:= .mk 5 [] (.seq av9 (.block 0 (.loop aw5)))
theorem e37(v0 v1:V):aS 5 [v0,v1]=(.n (.n iC (some v1) iC) (some v0) l8):=rfl
def B37:=ai @e37 (ai (wu av9.eq_1) (ai (wu aw0.eq_1) (ai (wu aw1.eq_1) (ai (wu aw2.eq_1) (ai (wu aw3.eq_1) (ai (wu aw4.eq_1) (wu aw5.eq_1)))))))
theorem r37(Φ:Nat→Option CF)(h:Φ 37=some c37)(h76:Φ 76=some (.orc (aj h76)))(h38:Φ 38=some c38){F:RO}{M:Mem}{c:Nat}{y w:Nat}{pb:Nat}{v:V}{l:List UInt8}(hl:l.length≤9000){I:Nat→Mem→Nat→Prop}{J:Mem→Nat→Prop}(h0:I 0 M c)
 (hI:∀k M c,I k M c→eA F M c∧pb<c∧M.get pb=some (aK 22 [v])∧l9 F M c v l)
 (hG:∀k M c M' c',I k M c→Gr c M c' M'→I k M' c')
 (hY:∀k M c,(hk:k<(aN l).length)→I k M c→wY (lh (K Φ none 37 F) (.y y) [.i .i64 ((4*k:Nat):Int),.g (mY (aN l)[k])] M c) fun r M' c'=>(r= .b true∧I (k+1) M' c')∨(r= .b false∧J M' c')):
 Calls Φ F 37 [.y y,.p pb 0] M c fun _ M' c'=>I (aN l).length M' c'∨J M' c':=by
 refine ax h ?_
 simp only[WX,B37]
 obtain⟨Iv,hIv⟩:∃Iv:Nat→St→Prop,∀n s,Iv n s↔(∃(k:Nat) (M1:Mem) (c1:Nat) (u:List (Option V)),n=l.length-4*k∧4*k≤l.length∧s= .mk ((.n (.n (.n (eH u 15 7 23) (some (.i .i64 ((4*k:Nat):Int))) (eH u 19 11 27)) (some (.p pb 0)) (ay u 17 9 25 5 21 13 29)) (some (.y y)) (.n (ay u 16 8 24 4 20 12 28) (uO u 2) (ay u 18 10 26 6 22 14 30)))) [] M1 c1∧k≤(aN l).length∧aN (l.drop (4*k))=(aN l).drop k∧I k M1 c1):=⟨fun n s=>_,fun _ _=>Iff.rfl⟩
 refine cX Iv ?_ l.length _ ((hIv _ _).2 ⟨0,_,_,[none,none,_,none,_,_,_,_,_,_,_,_,_,_,_,_,_,_,_,_,_,_,_,_,_,_,_,_,_,_,_],rfl,aM _,rfl,aM _,rfl,h0⟩)
 intro n s hIs
 obtain⟨k,M1,c1,u,rfl,hk,rfl,hkp,hpre,hi⟩:=(hIv _ _).1 hIs
 clear hIs
 obtain⟨ok1,hpb,hbox,hs1⟩:=hI k M1 c1 hi
 have hld:load1 F M1 pb 0=some v:=by rw[lF hbox,pN];rfl
 have hln:=hs1.len
 have q8:bu .add (.i .i64 ((4*k:Nat):Int)) (.i .i64 4)=some (.i .i64 ((4*k+4:Nat):Int)):=by rw[bA _ _ (by omega) (by omega)];simp
 by_cases hlt:4*k+4≤l.length
 ·have hd:decide (((4*k+4:Nat):Int)≤(l.length:Int))=true:=af (by omega);obtain⟨a0,a1,a2,a3,hfour,hdrop⟩:=Hw hlt;obtain⟨v',e1,-,-,-,hs'⟩:=Ix hs1 (show 4*k≤4*k+4 by omega) (by rw[List.length_map];exact hlt);have hs':l9 F M1 c1 v' [a0,a1,a2,a3]:=by
   rw[←hfour];unfold l9;rw[List.map_drop,List.map_take];exact hs'
  simp only[WX,B37,hld,hln,hd,q8,e1];refine aB ((r38 Φ h38 h76 ok1 hs').mono ?_);rintro v2 M2 c2 ⟨rfl,hg2⟩;rw[hdrop,lw]at hpre;have hgx:=fun x=>hg2.set c2 x hg2.le (bD _) (bU _);by_cases hok:Lv (gz a0 a1 a2 a3)=true
  ·rw[Bo hok];rw[ac hok]at hpre;have hklt:k<(aN l).length:=by
    by_cases hh:k<(aN l).length
    ·exact hh
    ·rw[List.drop_eq_nil_of_le (show(aN l).length≤k by omega)]at hpre;cases hpre
   rw[eS hklt]at hpre;injection hpre with hx hrest
   rw[hx];have hins:mY (aN l)[k]=[.i .i64 (aN l)[k].op,.i .i64 (aN l)[k].d,.i .i64 (aN l)[k].a,.i .i64 (aN l)[k].b,.i .i64 (aN l)[k].i]:=rfl;have hy:=fun x=>hY k (M2.set c2 x) (c2+1) hklt (hG k M1 c1 _ _ hi (hgx x));rw[hins]at hy⊢;simp only[WX,Nat.reduceAdd,Nat.reduceLeDiff,B37,ne_eq,not_true_eq_false];refine aB ((hy _).mono ?_);rintro r M3 c1003 (⟨rfl,hi3⟩|⟨rfl,hj⟩)
   ·simp only[WX,B37,q8];exact⟨l.length-4*(k+1),by omega,(hIv _ _).2 ⟨k+1,M3,c1003,[none,none,_,none,_,_,_,_,_,_,_,_,_,_,_,_,_,_,_,_,_,_,_,_,_,_,_,_,_,_,_],rfl,by omega,rfl,hklt,hrest,hi3⟩⟩
   ·simp only[WX];exact .inr hj
  ·rw[Bn hok];rw[ab hok]at hpre;have hke:k=(aN l).length:=by
    by_cases hh:k<(aN l).length
    ·rw[eS hh]at hpre;cases hpre
    ·omega
   simp only[WX,Int.reduceEq,Nat.reduceAdd,Nat.reduceLeDiff,B37,vz,ne_eq,not_false_eq_true];exact .inl (hke▸hG k M1 c1 _ _ hi (hgx _))
 ·have hd:decide (((4*k+4:Nat):Int)≤(l.length:Int))=false:=ag (by omega);simp only[WX,B37,hld,hln,hd,q8];rw[dG (by rw[cM];omega)]at hpre;have hke:k=(aN l).length:=by
   by_cases hh:k<(aN l).length
   ·rw[eS hh]at hpre;cases hpre
   ·omega
  exact .inl (hke▸hi)
def by5:CC:=(.reg [(qq a8 (.mv z0)),(qq a9 (.ln .slice z8)),(qq cg (.bi .gtr z9 (x6 8192)))])
def c06:=wu by5.eq_1
def by6:CC:=(.seq (.reg [(qq a2 (.mv (.c (.s 0 0))))]) .ret)
def cC4:=wu by6.eq_1
def b69:CC:=(.reg [(qq cI (.mv z0)),(ee de (.call 13 [cD]))])
def c09:=wu b69.eq_1
def b70:CC:=(.reg [(aa a5 (.al 59 [(.i .i64 0),(.i .i64 0),(.i .i64 0),(.i .i64 0),(.i .i64 0)])),(ez (.st 5 z5 dD))])
def cC5:=wu b70.eq_1
def b71:CC:=(.reg [(qq dE (.ldn 5 z5)),(ee dO (.call 14 [dQ])),(qq du (.mv dM)),(qq dY (.ex 0 dj)),(qq eg (.ex 1 dj)),(qq a6 (.mv ey)),(qq a7 (.mv eV))])
def cC6:=wu b71.eq_1
def b72:CC:=(.reg [(qq eQ (.ld1 z3)),(qq dP (.mv z6)),(aa eB (.bsl 9 1 1 [(.s 0 0)] [(0,fm)])),(ee ec (.app 9 1 16 eW eX)),(ez (.st 1 z3 fG))])
def cC7:=wu b72.eq_1
def b73:CC:=(.rf cS [cH,db] b70 (.block 1 (.seq b71 b72)))
def cC8:=wu b73.eq_1
def by7:CC:=(.reg [(qq dH (.ld1 z3)),(qq eR (.ln .slice fH)),(qq eD (.bi .eql fJ (x6 0))),(qq eJ (.mv fK)),(aL fk (.ld1 z3) eJ),(aL eE (.ln .slice g9) eJ),(aL eY (.bi .mul (x6 4) gA) eJ),(aL gH (.mv z0) eJ),(aL fo (.ln .slice gD) eJ),(aL gu (.bi .neq gC iE) eJ),(qq gh (.pk fL xT j1))])
def cC9:=wu by7.eq_1
def by8:CC:=(.reg [(qq iq (.mv z0)),(ee j3 (.call 15 [jj])),(qq iO (.bi .add (.c (.s 1 58)) jz)),(qq a2 (.mv jk))])
def cD0:=wu by8.eq_1
def aI8:CC:=(.cond ji (.seq by8 .ret) .skip)
def c07:=wu aI8.eq_1
def aI9:CC:=(.reg [(qq ib (.ld1 z3)),(ee j4 (.call 16 [kf,(.c (.s 2 8236))])),(qq a2 (.mv kq))])
def c08:=wu aI9.eq_1
def aJ0:CC:=(.seq (.seq b69 (.block 0 b73)) (.seq (.seq by7 aI8) (.seq aI9 .ret)))
def b35:=wu aJ0.eq_1
def aJ1:CC:=(.seq (.reg [(aa a3 (.al 53 [.l0]))]) aJ0)
def b36:=wu aJ1.eq_1
def aJ2:CC:=(.seq (.seq by5 (.cond cj by6 .skip)) aJ1)
def b37:=wu aJ2.eq_1
def aJ3:CC:=(.seq (.reg [(qq a2 (.mv (.c (.s 0 0))))]) aJ2)
def b38:=wu aJ3.eq_1
def c5:CF:= .mk 6 [.t a2] aJ3
theorem e5(v0:V):aS 6 [v0]=(.n mr (some v0) mr):=rfl
def B5:=ai @e5 (ai @c06 (ai @cC4 (ai @c09 (ai @cC5 (ai @cC6 (ai @cC7 (ai @cC8 (ai @cC9 (ai @cD0 (ai @c07 (ai @c08 (ai @b35 (ai @b36 (ai @b37 (@b38)))))))))))))))
theorem zT{x:nc}(hm:iX x=true):(kh x).length≤100:=by
 unfold kh cL
 refine bm (ot _ _) ?_
 unfold i7
 rw[iD]
 have h1:=zY x.op x.d x.a x.b 3
 have h2:=Xg x.op x.d x.a x.b 3
 have h3:=fy x.i
 rw[bE,show[(32:UInt8)].length=1 from rfl]
 split
 ·simp only[n8,List.length_singleton];omega
 ·simp only[n8,cF];omega
theorem zR:∀(L:List nc),(∀x∈L,iX x=true)→n8 (L.map kh)≤101*L.length
 |[],_=>by simp[n8]
 |x::L,h=>by
  have:=zR L fun y hy=>h y (bc _ hy);have:=zT (h x (bh ..));rw[List.map_cons,n8,bk];omega
structure LP(Φ:Nat→Option CF)(L:List gF):Prop where
 h13:Φ 13=some c13
 h36:Φ 36=some c36
 h37:Φ 37=some c37
 h76:Φ 76=some (.orc (aj h76))
 h38:Φ 38=some c38
 h14:Φ 14=some (.orc (ce L h14))
 h15:Φ 15=some c15
 h16:Φ 16=some c16
 h46:Φ 46=some c46
 h44:Φ 44=some YF
 h45:Φ 45=some YG
 h81:Φ 81=some Ug
 h82:Φ 82=some c82
theorem cm8(Φ:Nat→Option CF){L:List gF}(p:LP Φ L){F:RO}{M0 M:Mem}{c:Nat}{v:V}{l:List UInt8}(ok:eA F M (c+1))(hge:1000≤c)(ht:bB F L=true)(hs:l9 F M (c+1) v l)(hl:l.length≤8192)(hc:M.get c=some (aK 53 [.l0]))(h0:∀x,x<c→M.get x=M0.get x)(u:List (Option V))(Q:Ex→St→Prop)
 (hQ:∀(u:List (Option V)) (acc:V) (d:Nat) M' c',c+1≤d→d<c'→eA F M' c'→(∀x,x<c→M'.get x=M0.get x)→M'.get c=some (aK 53 [acc])→M'.get d=some (.defs false)→ie F M' (d+1) c' 1 acc (d6 ((aN l).map kh))→Q .nrm (.mk ((.n (.n (.n (ay u 31 15 47 7 39 23 55) (some (.p c 0)) (ay u 35 19 51 11 43 27 59)) (uO u 1) (.n (ay u 33 17 49 9 41 25 57) (uO u 5) (ay u 37 21 53 13 45 29 61))) (some (v)) (.n (.n (ay u 32 16 48 8 40 24 56) (uO u 4) (ay u 36 20 52 12 44 28 60)) (some (.s 0 0)) (.n (ay u 34 18 50 10 42 26 58) (uO u 6) (ay u 38 22 54 14 46 30 62))))) [d] M' c')):
 Wp (b69.seq (.block 0 b73)) (K Φ none 5 F) (.mk ((.n (.n (.n (ay u 31 15 47 7 39 23 55) (some (.p c 0)) (ay u 35 19 51 11 43 27 59)) (uO u 1) (.n (ay u 33 17 49 9 41 25 57) (uO u 5) (ay u 37 21 53 13 45 29 61))) (some (v)) (.n (.n (ay u 32 16 48 8 40 24 56) (uO u 4) (ay u 36 20 52 12 44 28 60)) (some (.s 0 0)) (.n (ay u 34 18 50 10 42 26 58) (uO u 6) (ay u 38 22 54 14 46 30 62))))) [] M (c+1)) Q:=by
 simp only[WX,c09]
 refine aB ((r13 Φ p.h13 p.h36 ok hs (by omega)).mono ?_)
 rintro r M1 c1 ⟨pb,w,rfl,p1,p2,p3,hw,g1⟩
 have g1l:=g1.le
 have ok1:=g1.ok ok
 simp only[WX,B5]
 refine Xi ?_
 simp only[WX,Hi]
 obtain⟨BL,hBL⟩:∃BL:LS→ng→bz,BL=fun s' q=>bz.loop s' q 5 ((.n (.n (.n (ay u 31 15 47 7 39 23 55) (some (.p c 0)) (.n (eH u 35 19 51) (some (v)) (eH u 43 27 59))) (uO u 1) (.n (ay u 33 17 49 9 41 25 57) (uO u 5) (ay u 37 21 53 13 45 29 61))) (some (v)) (.n (.n (ay u 32 16 48 8 40 24 56) (uO u 4) (.n (eH u 36 20 52) (some (.f 37 [] [.p pb 0])) (eH u 44 28 60))) (some (.s 0 0)) (.n (ay u 34 18 50 10 42 26 58) (uO u 6) (ay u 38 22 54 14 46 30 62))))) [(.l (.r (.r .h))),(.r (.r (.r .h)))] b70 (.block 1 (b71.seq b72)) c1:=⟨_,rfl⟩
 have hTL:(aN l).length≤8192:=by have:=mg _ l (ah _);omega
 have hm:=lx _ l (ah _)
 obtain⟨Ik,hIk⟩:∃I:Nat→Mem→Nat→Prop,∀k M' cc,I k M' cc↔(∃acc b1,eA F M' cc∧c1+2≤cc∧(∀x,x<c→M'.get x=M0.get x)∧M'.get c=some (aK 53 [acc])∧(∀x,c<x→x<c1→M'.get x=M1.get x)∧M'.get c1=some (.defs false)∧M'.get (c1+1)=some (BL .ready .none)∧cu M' (c1+2) cc b1 9 1 acc (d6 (((aN l).take k).map kh))∧k≤(aN l).length):=⟨fun k M' cc=>_,fun _ _ _=>Iff.rfl⟩
 have gZ:Gr (c+1) M (c1+2) ((M1.set c1 (.defs false)).set (c1+1) (BL .ready .none)):=((g1.set c1 _ (by omega) (show c1<c1+1 by omega) (by omega)).set (c1+1) _ (by omega) (by omega) (by omega))
 have okZ:=gZ.ok ok
 refine(r37 Φ p.h37 p.h76 p.h38 (y:=c1+1) (w:=c1) (pb:=pb) (v:=w) (l:=l) (by omega) (I:=Ik) (J:=fun _ _=>False) ?_ ?_ ?_ ?_).mono ?_
 ·refine(hIk _ _ _).2 ⟨.l0,0,?_,ah _,fun x hx=>?_,?_,fun x x1 x2=>?_,?_,?_,?_,aM _⟩
  ·rw[hBL]at okZ;exact okZ
  ·rw[aq _ _ (by omega),aq _ _ (by omega),g1.old x (by omega),h0 x hx]
  ·rw[aq _ _ (by omega),aq _ _ (by omega),g1.old c (by omega)];exact hc
  ·rw[aq _ _ (by omega),aq _ _ (by omega)]
  ·rw[aq _ _ (by omega)];exact aw _ _ _
  ·rw[hBL];exact aw _ _ _
  ·exact cu.nil
 ·intro k M2 cc hi;obtain⟨acc,b1,a1,a2,a3,a4,a5,a6,a7,a8,a9⟩:=(hIk _ _ _).1 hi;exact⟨a1,by omega,(a5 pb (by omega) p2).trans p3,(hw.up (lo':=c+1) (c':=cc) (by omega) (ah _) fun b x1 x2=>a5 b (by omega) x2).sl⟩
 ·intro k M2 cc M3 c3 hi hg;obtain⟨acc,b1,a1,a2,a3,a4,a5,a6,a7,a8,a9⟩:=(hIk _ _ _).1 hi;have:=hg.le;exact(hIk _ _ _).2 ⟨acc,b1,hg.ok a1,by omega,fun x hx=>(hg.old x (by omega)).trans (a3 x hx),(hg.old _ (by omega)).trans a4,fun x x1 x2=>(hg.old x (by omega)).trans (a5 x x1 x2),(hg.old _ (by omega)).trans a6,(hg.old _ (by omega)).trans a7,a8.gr hg,a9⟩
 ·intro k M2 cc hk hi;obtain⟨acc,b1,a1,a2,a3,a4,a5,a6,a7,a8,a9⟩:=(hIk _ _ _).1 hi;have hl5:=a7;rw[hBL]at hl5;refine C0 hl5 (pj _ _ _ _ _) ?_;have hx:=hm _ (List.getElem_mem hk);have hins:mY (aN l)[k]=[.i .i64 (aN l)[k].op,.i .i64 (aN l)[k].d,.i .i64 (aN l)[k].a,.i .i64 (aN l)[k].b,.i .i64 (aN l)[k].i]:=rfl;rw[hins];have e14:=(Dh (aN l)[k].op (aN l)[k].d (aN l)[k].a (aN l)[k].b (aN l)[k].i).trans (congrArg some (ac hx));have htk:(aN l).take (k+1)=(aN l).take k++[(aN l)[k]]:=oB hk;generalize hzz:(aN l)[k]=z at hx hins e14 htk⊢;have hc0:(M2.set cc (aK 59 [.i .i64 0,.i .i64 0,.i .i64 0,.i .i64 0,.i .i64 0])).get cc=some (aK 59 [.i .i64 0,.i .i64 0,.i .i64 0,.i .i64 0,.i .i64 0]):=aw _ _ _;have hs1:=bC hc0 0 [.i .i64 z.op,.i .i64 z.d,.i .i64 z.a,.i .i64 z.b,.i .i64 z.i] (by simp) rfl;simp only[WX,Nat.reduceAdd,B5,hs1];refine Fg (by rw[aq _ _ (by omega),aq _ _ (by omega)];exact hl5) ?_;rw[show bz.loop LS.busy _ _ _ _ _ _ _=BL .busy .none by rw[hBL]];generalize hMB:Tr.set (Tr.set (Tr.set M2 cc _) cc _) (c1+1) (BL .busy .none)=MB;have okB:eA F MB (cc+1):=by
   rw[←hMB];refine eA.put (((Gr.refl a1).set cc _ (ah _) (show cc<cc+1 by omega) (by omega)).set cc _ (ah _) (show cc<cc+1 by omega) (ah _)|>.ok a1) (by omega) (x:=BL .ready .none) ?_;rw[aq _ _ (by omega),aq _ _ (by omega)];exact a7
  have mo:∀x,x<cc→x≠c1+1→MB.get x=M2.get x:=fun x x1 x2=>by rw[←hMB,aq _ _ x2,aq _ _ (by omega),aq _ _ (by omega)]
  have mc:MB.get cc=some (aK 59 [.i .i64 z.op,.i .i64 z.d,.i .i64 z.a,.i .i64 z.b,.i .i64 z.i]):=by rw[←hMB,aq _ _ (by omega)];exact aw _ _ _
  have ml:MB.get (c1+1)=some (BL .busy .none):=by rw[←hMB];exact aw _ _ _
  have l59:=lu (F:=F) mc 5 rfl;have l53:=bZ (F:=F) ((mo c (by omega) (by omega)).trans a4) 0;have hT:=fun h args M c=>eu ht h args M c;obtain⟨hA1,hA2,hA3⟩:=Cq a8;clear hMB;have hf1:∀t:List UInt8,flatten (sV t)=[sV t]:=fun _=>rfl;have hf2:∀t:List UInt8,br [sV t]=true:=fun _=>rfl;have hf3:∀t:List UInt8,dq (sV t)=true:=fun _=>rfl;have hty:kh z=cL z.op z.d z.a z.b z.i:=rfl;have htl:=zT hx;rw[hty]at htl;generalize cL z.op z.d z.a z.b z.i=tz at e14 hty htl⊢;simp only[WX,Nat.reduceAdd,B5,l59,l53,p.h14,hT,e14,hf1,hf2];have g3:=(Gr.refl okB).set (cc+1) (eU [.s 0 0] 9 [sV tz]) (ah _) (show cc+1<cc+2 by omega) (by omega);have hy:cU F (MB.set (cc+1) (eU [.s 0 0] 9 [sV tz])) (cc+2) 1 (.l (cc+1) 0 1 1) (d6 [tz]):=E6 (d:=[.s 0 0]) (ty:=9) (aw _ _ _) (by omega) (fun e he=>by obtain⟨x,_,rfl⟩:=List.mem_map.1 he;rfl) rfl;have hA8:=a8.keep (M':=MB.set (cc+1) (eU [.s 0 0] 9 [sV tz])) (c':=cc+2) (by omega) fun x x1 x2=>(g3.old x (by omega)).trans (mo x (by omega) (by omega));have hkl:(d6 (((aN l).take k).map kh)).length≤8192:=by unfold d6;rw[List.length_map,List.length_map,List.length_take];omega
  refine aB ((od (c0:=c1+2) (bytes:=16) hA8 (g3.ok okB) (by omega) (by decide) hy rfl (eO (by rw[show(d6 [tz]).length=1 from rfl];omega) (by rw[show(d6 [tz]).length=1 from rfl];omega))).mono ?_);rintro v' M4 c4 ⟨b4,hA4,ok4,hle4,hold4⟩;have mo4:∀x,x<c1+2→x≠c1+1→M4.get x=M2.get x:=fun x x1 x2=>(hold4 x x1).trans ((g3.old x (by omega)).trans (mo x (by omega) x2));have hsc:=bC ((mo4 c (by omega) (by omega)).trans a4) 0 [v'] (by simp) (by obtain⟨_,_,h3⟩:=Cq hA4;exact h3);obtain⟨hB1,hB2,hB3⟩:=Cq hA4;simp only[WX,hsc,hB2];have ml4:(M4.set c (aK 53 [v'])).get (c1+1)=some (BL .busy .none):=(aq _ _ (by omega)).trans ((hold4 _ (by omega)).trans ((g3.old _ (by omega)).trans ml));have hly:=ml4;rw[hBL]at hly;refine Xq hly ?_;refine⟨rfl,(hIk _ _ _).2 ⟨v',b4,?_,by omega,fun x hx=>?_,?_,fun x x1 x2=>?_,?_,?_,?_,hk⟩⟩
  ·exact(ok4.put (by omega) ((mo4 c (by omega) (by omega)).trans a4)).put (by omega) ml4
  ·rw[aq _ _ (by omega),aq _ _ (by omega),mo4 x (by omega) (by omega),a3 x hx]
  ·rw[aq _ _ (by omega)];exact aw _ _ _
  ·rw[aq _ _ (by omega),aq _ _ (by omega),mo4 x (by omega) (by omega),a5 x x1 x2]
  ·rw[aq _ _ (by omega),aq _ _ (by omega),mo4 c1 (by omega) (by omega),a6]
  ·rw[hBL];exact aw _ _ _
  ·rw[htk,List.map_append,show List.map kh [z]=[tz] by rw[←hty];rfl];unfold d6 at hA4⊢;rw[List.map_append];exact hA4.keep (ah _) fun x x1 x2=>by rw[aq _ _ (by omega),aq _ _ (by omega)]
 ·intro v' M2 cc hij;rcases hij with hi|hj
  rotate_left
  ·exact hj.elim
  obtain⟨acc,b1,a1,a2,a3,a4,a5,a6,a7,a8,a9⟩:=(hIk _ _ _).1 hi;rw[List.take_length]at a8;have hl5:=a7;rw[hBL]at hl5;refine⟨_,_,_,_,_,_,_,_,hl5,(by intro h;cases h),?_⟩;rw[show bz.loop LS.exhausted _ _ _ _ _ _ _=BL .exhausted .none by rw[hBL]];simp only[WX,tc];refine hQ [none,_,none,none,_,_,_,_,_,_,_,_,_,_,_,_,_,_,_,_,_,_,_,_,_,_,_,_,_,_,_,_,_,_,_,_,_,_,_,_,_,_,_,_,_,_,_,_,_,_,_,_,_,_,_,_,_,_,_,_,_,_,_] acc c1 _ cc (by omega) (by omega) (a1.put (by omega) a7) (fun x hx=>?_) ?_ ?_ ?_
  ·rw[aq _ _ (by omega),a3 x hx]
  ·rw[aq _ _ (by omega)];exact a4
  ·rw[aq _ _ (by omega)];exact a6
  ·exact a8.own.up (ah _) (by omega) fun x x1 x2=>aq _ _ (by omega)
theorem r5(Φ:Nat→Option CF)(h:Φ 5=some c5){L:List gF}(p:LP Φ L)
 {F:RO} {M:Mem} {c:Nat} {v:V} {l:List UInt8} (ok:eA F M c) (ht:bB F L=true) (hs:l9 F M c v l):
 Calls Φ F 5 [v] M c fun r M' c'=>r=sV (da l)∧Gr c M c' M':=by
 refine ax h ?_
 have hge:=ok.ge
 have hln:=hs.len
 by_cases hl:8192<l.length
 ·have d1:decide ((8192:Int)<(l.length:Int))=true:=af (by omega);simp only[WX,B5,hln,d1];exact⟨by unfold da;rw[ac hl];rfl,Gr.refl ok⟩
 have d1:decide ((8192:Int)<(l.length:Int))=false:=ag (by omega)
 simp only[WX,e5,c06,b35,b36,b37,b38,hln,d1]
 have g0:=(Gr.refl ok).set c (aK 53 [.l0]) (ah _) (bD _) (bU _)
 have hm:=lx _ l (ah _)
 have hpl:=mg _ l (ah _)
 rw[←ke]
 refine cm8 Φ p (g0.ok ok) hge ht (hs.grow g0) (by omega) (aw _ _ _) (fun x hx=>g0.old x hx) [none,_,none,none,_,_,_,_,_,_,_,_,_,_,_,_,_,_,_,_,_,_,_,_,_,_,_,_,_,_,_,_,_,_,_,_,_,_,_,_,_,_,_,_,_,_,_,_,_,_,_,_,_,_,_,_,_,_,_,_,_,_,_] _ ?_
 intro u acc d M1 c1 k1 k2 k3 k4 k5 k6 k7
 have l53:=bZ (F:=F) k5 0
 have hsl:=rk k7.sl
 rw[List.length_map]at hsl
 have gr1:Gr c M c1 M1:=⟨by omega,k4,k3.hiM⟩
 have ht1:∀M2 c2,Gr c1 M1 c2 M2→cA [d] M2=some (M2.set d (.defs true)):=fun M2 c2 g=>by rw[mC (by rw[g.old d k2];exact k6)];rfl
 have grd:∀M2 c2,Gr c1 M1 c2 M2→Gr c M c2 (M2.set d (.defs true)):=fun M2 c2 g=>(gr1.trans g).set d _ (by omega) (by have:=g.le;omega) (ah _)
 have q4:bu .mul (.i .i64 4) (.i .i64 ((aN l).length:Int))=some (.i .i64 ((4*(aN l).length:Nat):Int)):=by
  rw[jq _ _ (by omega) (by omega)];simp
 have hpe:(aN l=[]∨4*(aN l).length≠l.length)→da l=58::gG l:=fun hn=>by unfold da;rw[ab hl,ac hn]
 have hcat:bu .add (.s 1 58) (sV (gG l))=some (sV (58::gG l)):=by
  have hh:(gG l).length≤20000:=by
   unfold gG;split
   ·exact Nat.le_of_ble_eq_true rfl
   ·rw[gS];omega
  have:=eK [58] (gG l) (by rw[List.length_singleton];omega);exact this
 by_cases hz:(aN l).length=0
 ·have dz:decide (((aN l).length:Int)=0)=true:=af (by omega);simp only[WX,B5,l53,hsl,dz];refine aB ((r15 Φ p.h15 p.h44 p.h45 p.h81 k3 (hs.grow gr1) (by omega)).mono ?_);rintro r M2 c2 ⟨rfl,g2⟩;simp only[WX,hcat,lq,ht1 _ _ g2,lm];exact⟨by rw[hpe (.inl (List.length_eq_zero_iff.1 hz))],grd _ _ g2⟩
 ·have dz:decide (((aN l).length:Int)=0)=false:=ag (by omega);by_cases hn:4*(aN l).length=l.length
  ·have dn:decide (((4*(aN l).length:Nat):Int)≠(l.length:Int))=false:=ag (by omega);simp only[WX,B5,l53,hsl,q4,hln,dz,dn];refine aB ((r16 (s:=[44,32]) Φ p.h16 p.h46 p.h44 p.h45 p.h81 p.h82 k3 k7.sl (by have:=zR _ hm;omega) (by decide) (by decide)).mono ?_);rintro r M2 c2 ⟨rfl,g2⟩;simp only[WX,lq,ht1 _ _ g2,lm];refine⟨?_,grd _ _ g2⟩;unfold da;rw[ab hl,ab];rintro(e|e)
   ·rw[e]at hz;exact hz rfl
   ·exact e hn
  ·have dn:decide (((4*(aN l).length:Nat):Int)≠(l.length:Int))=true:=af (by omega);simp only[WX,B5,l53,hsl,q4,hln,dz,dn];refine aB ((r15 Φ p.h15 p.h44 p.h45 p.h81 k3 (hs.grow gr1) (by omega)).mono ?_);rintro r M2 c2 ⟨rfl,g2⟩;simp only[WX,hcat,lq,ht1 _ _ g2,lm];exact⟨by rw[hpe (.inr hn)],grd _ _ g2⟩
def aG0:CC:=(.reg [(qq a4 (.mv (.c (.i .u8 0))))])
def aG1:CC:=(.reg [(qq a5 (.mv z0)),(qq a6 (.bi .geq z5 (.c (.i .u8 48)))),(qq a7 (.mv z6)),(ak a8 (.mv z0) a7),(ak a9 (.bi .leq z8 (.c (.i .u8 57))) a7),(qq cg (.pk z7 z9 xF))])
def aG2:CC:=(.reg [(qq cI (.mv z0)),(qq de (.bi .sub cD (.c (.i .u8 48)))),(qq a4 (.mv cS))])
def aG3:CC:=(.seq aG1 (.cond cj (.seq aG2 .ret) .skip))
def aG4:CC:=(.reg [(qq cH (.mv z0)),(qq db (.mv z1)),(qq du (.bi .geq cR dD)),(qq dE (.mv dj)),(ak dO (.mv z0) dE),(ak dY (.mv z1) dE),(ak eg (.bi .add ey (.c (.i .u8 6))) dE),(ak eQ (.bi .lss dM eV) dE),(qq dP (.pk dQ eW xF))])
def aG5:CC:=(.reg [(qq eB (.mv z0)),(qq ec (.mv z1)),(qq dH (.bi .sub eX fG)),(qq eR (.bi .add fH (.c (.i .u8 10)))),(qq a4 (.mv fJ))])
def aG6:CC:=(.seq aG4 (.cond fm (.seq aG5 .ret) .skip))
def aG7:CC:=(.reg [(qq a4 (.mv (.c (.i .u8 16))))])
def c56:CF:= .mk 5 [.t a4] (.seq aG0 (.seq aG3 (.seq aG6 (.seq aG7 .ret))))
theorem e56(v0 v1:V):aS 5 [v0,v1]=(.n (.n iC (some v1) iC) (some v0) l8):=rfl
def B56:=ai @e56 (ai (wu aG0.eq_1) (ai (wu aG1.eq_1) (ai (wu aG2.eq_1) (ai (wu aG3.eq_1) (ai (wu aG4.eq_1) (ai (wu aG5.eq_1) (ai (wu aG6.eq_1) (wu aG7.eq_1))))))))
def at6:CC:=(.reg [(qq a5 (.mv z0)),(qq a6 (.ln .slice z5)),(qq a7 (.bi .eql z6 (x6 0)))])
def at7:CC:=(.seq (.reg [(qq a2 (.mv (.c (.s 1 46))))]) .ret)
def at8:CC:=(.reg [(qq a4 (.mv (x6 0)))])
def at9:CC:=(.reg [(qq a8 (.mv z4)),(qq a9 (.mv z0)),(qq cg (.ln .slice z9)),(qq cI (.bi .lss z8 cj))])
def au0:CC:=(.dreg 16 [(0,0,(qq db (.mv z3))),(1,0,(qq du (.mv z0))),(2,0,(qq dE (.mv z4))),(3,6,(qq dO (.iaS 1 dj dQ))),(4,14,(qq dY (.ld1 dM))),(5,30,(qq eg (.bi .shr ey (.c (.i .u64 4))))),(6,62,(qq eQ (.ixS (.c (.s 16 136107713667768957684761770045455085872)) eV))),(7,0,(qq dP (.mv z0))),(8,0,(qq eB (.mv z4))),(9,384,(qq ec (.iaS 1 fm eX))),(10,896,(qq dH (.ld1 fG))),(11,1920,(qq eR (.bi .and fH (.c (.i .u8 15))))),(12,3968,(qq eD (.ixS (.c (.s 16 136107713667768957684761770045455085872)) fJ))),(13,8190,(aa eJ (.bsl 5 2 1 [(.i .u8 0)] [(0,eW),(1,fK)]))),(14,16383,(ee fk (.app 5 1 1 dD fL))),(15,32767,(qq a3 (.mv g9)))])
def au1:CC:=(.reg [(qq de (.mv z4)),(qq cH (.bi .add cS (x6 1))),(qq a4 (.mv cR))])
def au2:CC:=(.seq (.seq at9 (.cond cD .skip (.exit 0))) (.seq (.block 1 au0) au1))
def au3:CC:=(.reg [(qq eE (.mv z3)),(qq eY (.bs gA)),(qq a2 (.mv gC))])
def au4:CC:=(.seq (.seq at8 (.block 0 (.loop au2))) (.seq au3 .ret))
def Pn:CC:=(.seq (.reg [(qq a3 (.mv (.c .l0)))]) au4)
def Po:CC:=(.seq (.seq at6 (.cond z7 at7 .skip)) Pn)
def Pp:CC:=(.seq (.reg [(qq a2 (.mv (.c (.s 0 0))))]) Po)
def c27:CF:= .mk 5 [.t a2] Pp
theorem e27(v0:V):aS 5 [v0]=(.n l8 (some v0) l8):=rfl
def B27:=ai @e27 (ai (wu at6.eq_1) (ai (wu at7.eq_1) (ai (wu at8.eq_1) (ai (wu at9.eq_1) (ai (wu au0.eq_1) (ai (wu au1.eq_1) (ai (wu au2.eq_1) (ai (wu au3.eq_1) (ai (wu au4.eq_1) (ai (wu Pn.eq_1) (ai (wu Po.eq_1) (wu Pp.eq_1))))))))))))
def ar6:CC:=(.reg [(qq a3 (.mv z0)),(qq a4 (.ci .u8 z3)),(qq a5 (.mv z0)),(qq a6 (.bi .shr z5 (.c (.i .u64 8)))),(qq a7 (.ci .u8 z6)),(qq a8 (.mv z0)),(qq a9 (.bi .shr z8 (.c (.i .u64 16)))),(qq cg (.ci .u8 z9)),(qq cI (.mv z0)),(qq de (.bi .shr cD (.c (.i .u64 24)))),(qq cH (.ci .u8 cS)),(aa db (.bsl 5 4 1 [(.i .u8 0)] [(0,z4),(1,z7),(2,cj),(3,cR)])),(qq a2 (.mv dD))])
def ar7:CC:=(.seq (.reg [(qq a2 (.mv (.c .l0)))]) (.seq ar6 .ret))
def c24:CF:= .mk 4 [.t a2] ar7
theorem e24(v0:V):aS 4 [v0]=(.n iC (some v0) iC):=rfl
def B24:=ai @e24 (ai (wu ar6.eq_1) (wu ar7.eq_1))
def aC3:CC:=(.reg [(qq a4 (.mv (.c (.s 0 0)))),(qq a5 (.mv xF))])
def aC4:CC:=(.reg [(qq a6 (.mv z0)),(qq a7 (.mv z1)),(ee a8 (.call 83 [z6,z7])),(qq a9 (.un .not z8))])
def aC5:CC:=(.reg [(qq cg (.mv z0)),(qq a4 (.mv cj)),(qq a5 (.mv xF))])
def aC6:CC:=(.seq aC4 (.cond z9 (.seq aC5 .ret) .skip))
def aC7:CC:=(.reg [(qq cI (.mv z0)),(qq de (.mv z1)),(qq cH (.ln .str cS)),(qq db (.slS cD (some cR) none)),(qq a4 (.mv dD)),(qq a5 (.mv xT))])
def c47:CF:= .mk 4 [.t a4,.t a5] (.seq aC3 (.seq aC6 (.seq aC7 .ret)))
theorem e47(v0 v1:V):aS 4 [v0,v1]=(.n (.n mN (some v1) mN) (some v0) iC):=rfl
def B47:=ai @e47 (ai (wu aC3.eq_1) (ai (wu aC4.eq_1) (ai (wu aC5.eq_1) (ai (wu aC6.eq_1) (wu aC7.eq_1)))))
def am9:CC:=(.reg [(qq a4 (.mv (.c (.s 0 0)))),(qq a5 (.mv xF))])
def an0:CC:=(.reg [(qq a6 (.mv z0)),(qq a7 (.mv z1)),(ee a8 (.call 47 [z6,z7])),(qq a9 (.ex 0 z8)),(qq cg (.ex 1 z8)),(qq a4 (.mv z9)),(qq a5 (.mv cj))])
def c17:CF:= .mk 4 [.t a4,.t a5] (.seq am9 (.seq an0 .ret))
theorem e17(v0 v1:V):aS 4 [v0,v1]=(.n (.n mN (some v1) mN) (some v0) iC):=rfl
def B17:=ai @e17 (ai (wu am9.eq_1) (wu an0.eq_1))
def fZ(b:UInt8):Nat:=if 48≤b.toNat∧b.toNat≤57 then b.toNat-48 else if 97≤b.toNat∧b.toNat<103 then b.toNat-87 else 16
theorem Vw(b:UInt8):fZ b≤16:=by
 unfold fZ;split
 ·omega
 ·split<;>omega
theorem HX(n:Nat)(h:n<16):fZ (fY n)=n:=by
 have:∀n,n<16→fZ (fY n)=n:=by decide
 exact this n h
theorem t56(Φ:Nat→Option CF)(h:Φ 56=some c56)(b:UInt8)(ct:Nat):To Φ 56 [bV b,.i .u8 97] ct (.i .u8 (fZ b:Int)):=by
 refine bL h ?_
 have hb:=UInt8.toNat_lt b
 rw[bV]
 unfold fZ
 generalize b.toNat=x at hb⊢
 by_cases hA:48≤x∧x≤57
 ·have e2:decide ((48:Int)≤(x:Int))=true:=af (by omega);have e3:decide ((x:Int)≤57)=true:=af (by omega);have s1:bu .sub (.i .u8 (x:Int)) (.i .u8 48)=some (.i .u8 ((x-48:Nat):Int)):=by rw[fX,dh];congr 2;omega
  rw[ac hA];simp only[WX,B56,e2,e3,s1]
 ·have a3:bu .add (.i .u8 97) (.i .u8 6)=some (.i .u8 103):=by rw[jN,dh];rfl
  rw[ab hA];by_cases h1:x<48
  ·have e2:decide ((48:Int)≤(x:Int))=false:=ag (by omega);have e4:decide ((97:Int)≤(x:Int))=false:=ag (by omega);rw[ab (by omega)];simp only[WX,B56,e2,e4];rfl
  ·have e2:decide ((48:Int)≤(x:Int))=true:=af (by omega);have e3:decide ((x:Int)≤57)=false:=ag (by omega);by_cases h2:x<97
   ·have e4:decide ((97:Int)≤(x:Int))=false:=ag (by omega);rw[ab (by omega)];simp only[WX,B56,e2,e3,e4];rfl
   ·have e4:decide ((97:Int)≤(x:Int))=true:=af (by omega);by_cases h3:x<103
    ·have e5:decide ((x:Int)<103)=true:=af (by omega);have s1:bu .sub (.i .u8 (x:Int)) (.i .u8 97)=some (.i .u8 ((x-97:Nat):Int)):=by rw[fX,dh];congr 2;omega
     have s2:bu .add (.i .u8 ((x-97:Nat):Int)) (.i .u8 10)=some (.i .u8 ((x-87:Nat):Int)):=by rw[jN,dh];congr 2;omega
     rw[ac (by omega)];simp only[WX,B56,e2,e3,e4,e5,a3,s1,s2]
    ·have e5:decide ((x:Int)<103)=false:=ag (by omega);rw[ab (by omega)];simp only[WX,B56,e2,e3,e4,e5,a3];rfl
def h56:List V→Option V
 |[v,.i .u8 97]=>(XZ v).bind fun b=>some (.i .u8 (fZ b:Int))
 |_=>none
theorem UX(b:UInt8):h56 [bV b,.i .u8 97]=some (.i .u8 (fZ b:Int)):=by
 show(XZ (bV b)).bind (fun b=>some (V.i .u8 (fZ b:Int)))=_
 rw[Ml,Option.bind_some]
theorem HH(n:Nat)(h:n<16):qI (.s 16 136107713667768957684761770045455085872) (.i .u8 (n:Int))=some (bV (fY n)):=by
 have e16:V.s 16 136107713667768957684761770045455085872=sV vp:=rfl
 have hlen:vp.length=16:=rfl
 rw[e16,tU vp .u8 n (by omega)]
 have:∀n,n<16→vp[n]?=some (fY n):=by decide
 have h2:=this n h
 rw[List.getElem?_eq_getElem (by omega)]at h2
 rw[ae h2]
theorem r27(Φ:Nat→Option CF)(h:Φ 27=some c27){F:RO}{M:Mem}{c:Nat}{v:V}{l:List UInt8}(ok:eA F M c)(hs:l9 F M c v l)(hl:l.length≤100000):
 Calls Φ F 27 [v] M c fun r M' c'=>r=sV (gG l)∧Gr c M c' M':=by
 refine ax h ?_
 have hln:=hs.len
 by_cases h0:l=[]
 ·subst h0;rw[cF]at hln;simp only[WX,B27,hln,Int.ofNat_zero];exact⟨rfl,Gr.refl ok⟩
 ·have hpos:l.length≠0:=fun e=>h0 (List.length_eq_zero_iff.1 e);have d0:decide ((l.length:Int)=0)=false:=ag (by omega);simp only[WX,B27,hln,d0];obtain⟨I,hI⟩:∃I:Nat→St→Prop,∀n s',I n s'↔(∃(i c1 b1:Nat) (acc:V) (M1:Mem) (u:List (Option V)),n=l.length-i∧i≤l.length∧s'= .mk ((.n (.n (.n (eH u 15 7 23) (some (acc)) (eH u 19 11 27)) (uO u 1) (ay u 17 9 25 5 21 13 29)) (some (v)) (.n (.n (eH u 16 8 24) (some (.i .i64 (i:Int))) (eH u 20 12 28)) (uO u 2) (ay u 18 10 26 6 22 14 30)))) [] M1 c1∧Gr c M c1 M1∧cu M1 c c1 b1 5 1 acc ((iU (l.take i)).map fun x=>[bV x])):=⟨fun n s'=>_,fun _ _=>Iff.rfl⟩
  refine cX I ?_ l.length _ ((hI _ _).2 ⟨0,c,0,.l0,M,[none,_,_,none,none,_,_,_,_,_,_,_,_,_,_,_,_,_,_,_,_,_,_,_,_,_,_,_,_,_,_],rfl,aM _,rfl,Gr.refl ok,cu.nil⟩);intro n s' hIs;obtain⟨i,c1,b1,acc,M1,u,rfl,hi,rfl,g1,hA⟩:=(hI _ _).1 hIs;clear hIs;have ok1:=g1.ok ok;have g1l:=g1.le;by_cases hlt:i<l.length
  ·have d1:decide ((i:Int)<(l.length:Int))=true:=af (by omega);have q8:bu .add (.i .i64 (i:Int)) (.i .i64 1)=some (.i .i64 ((i+1:Nat):Int)):=by rw[bA _ _ (by omega) (by omega)];simp
   obtain⟨pb,po,hpb,hia,hld⟩:=hs.get i hlt;have hia:=hia .i64;have hld1:=(g1.load1 (F:=F) hpb po).trans hld;have htk:=oB hlt;have hlen:(l.take i).length=i:=by rw[List.length_take];omega
   generalize l[i]=x at hld hld1 htk;have hx:=UInt8.toNat_lt x;have a1:=II x;have a2:=BN x;have x1:=HH (x.toNat/16) (by omega);have x2:=HH (x.toNat%16) (by omega);have lk:(look F M1 (c1+13)).isNone=true:=by rw[ok1.look (by omega)];rfl
   have fb:∀x,flatten (bV x)=[bV x]:=fun _=>rfl;have ob:∀x,dq (bV x)=true:=fun _=>rfl;have rf:dU (c1+13) [(10,pb),(4,pb)]=true:=by rw[gd _ _ _ _ (by omega),gd _ _ _ _ (by omega),jv]
   simp only[WX,Nat.reducePow,Nat.reduceDiv,Nat.reduceMod,Nat.reduceBEq,Nat.reduceAdd,B27,hln,d1,hia,hld1,a1,a2,x1,x2,lk,rf,af2,I0,cb5,fb,ob];have grY:=(g1.up (c2:=c1+16) (by omega)).set (c2:=c1+16) (c1+13) (eU [V.i .u8 0] 5 [bV (fY (x.toNat/16)),bV (fY (x.toNat%16))]) (by omega) (by omega) (ah _);have hy:cU F (M1.set (c1+13) (eU [V.i .u8 0] 5 [bV (fY (x.toNat/16)),bV (fY (x.toNat%16))])) (c1+16) 1 (.l (c1+13) 0 2 2) ([fY (x.toNat/16),fY (x.toNat%16)].map fun x=>[bV x]):=E6 (d:=[V.i .u8 0]) (ty:=5) (by rw[aw];rfl) (by omega) (fun e he=>by obtain⟨x,_,rfl⟩:=List.mem_map.1 he;rfl) rfl;refine Be ((lR (bytes:=1) (hA.up (show c1≤c1+16 by omega) (fun hx=>aq _ _ (by omega))) grY Nat.one_pos hy rfl (eO (by rw[List.length_map,List.length_map,gS,hlen];simp only[bk,cF];omega) (by rw[List.length_map,List.length_map,gS,hlen];simp only[bk,cF];omega))).mono ?_);rintro v' M2 c2 ⟨b2,hA2,gr2,hle2,_,_⟩;refine⟨(gr2.ok ok).free,?_⟩;simp only[WX,B27,q8];refine⟨l.length-(i+1),by omega,(hI _ _).2 ⟨i+1,c2,b2,v',M2,[none,_,_,none,none,_,_,_,_,_,_,_,_,_,_,_,_,_,_,_,_,_,_,_,_,_,_,_,_,_,_],rfl,by omega,rfl,gr2,?_⟩⟩;rw[htk];have:iU (l.take i++[x])=iU (l.take i)++[fY (x.toNat/16),fY (x.toNat%16)]:=by unfold iU;rw[List.flatMap_append];rfl
   rw[this,List.map_append];exact hA2
  ·obtain rfl:i=l.length:=by omega
   have d1:decide ((l.length:Int)<(l.length:Int))=false:=ag (by omega);rw[List.take_length]at hA;have hbs:=oW (F:=F) (show l9 F M1 c1 acc (iU l)from hA.sl);simp only[WX,B27,hln,d1,hbs];exact⟨by unfold gG;rw[ab h0],g1⟩
theorem r24(Φ:Nat→Option CF)(h:Φ 24=some c24){F:RO}{M:Mem}{c:Nat}(ok:eA F M c)(w:Nat):Calls Φ F 24 [.i .u32 (w:Int)] M c fun r M' c'=>l9 F M' c' r (iT w)∧Gr c M c' M':=by
 refine ax h ?_
 have a1:=ru w
 have a2:=oF w
 have a3:=yr w
 have k1:=kL w
 have k2:=kL (w/256)
 have k3:=kL (w/65536)
 have k4:=kL (w/16777216)
 have fb:∀x,flatten (V.i .u8 x)=[V.i .u8 x]:=fun _=>rfl
 have ob:∀x,dq (V.i .u8 x)=true:=fun _=>rfl
 simp only[WX,Nat.reduceAdd,B24,a1,a2,a3,k1,k2,k3,k4,fb,ob]
 exact⟨E6 (d:=[V.i .u8 0]) (ty:=5) (by rw[AE];exact aw _ _ _) (by omega) (fun e he=>by obtain⟨x,_,rfl⟩:=List.mem_map.1 he;rfl) rfl,(Gr.refl ok).set c _ (ah _) (bD _) (bU _)⟩
def iR:List UInt8→V
 |x::r=>if x=58 then .t [sV r,.b true]else .t [sV (x::r),.b false]
 |[]=> .t [sV [],.b false]
theorem t47(Φ:Nat→Option CF)(h:Φ 47=some c47)(xO:Φ 83=some (.orc (aj xO)))(l:List UInt8)(ct:Nat):To Φ 47 [sV l,.s 1 58] ct (iR l):=by
 refine bL h ?_
 have e:=Dk l [58]
 rw[show sV [58]= .s 1 58 from rfl]at e
 match l with
 |[]=>
  rw[ag (by simp)]at e;simp only[WX,B47,xO,e];rfl
 |x::r=>
  by_cases hx:x=58
  ·subst hx;rw[show iR (58::r)= .t [sV r,.b true] by unfold iR;exact ac rfl];rw[af (by simp)]at e;have s1:=pl (58::r) .i64 1 (by simp);rw[show((1:Nat):Int)=1 from rfl,List.drop_one,List.tail_cons]at s1;have ln1:∀M,lnV (F:=[]) .str M (.s 1 58)=some (.i .i64 1):=fun _=>rfl;simp only[WX,B47,xO,e,s1,ln1]
  ·rw[ag (by simp[hx])]at e;rw[show iR (x::r)= .t [sV (x::r),.b false] by unfold iR;exact ab hx];simp only[WX,B47,xO,e]
def HG:List V→Option V
 |[v,.s 1 58]=>(sM v).bind fun l=>some (iR l)
 |_=>none
theorem UW(l:List UInt8):HG [sV l,.s 1 58]=some (iR l):=by
 show(sM (sV l)).bind (fun l=>some (iR l))=_
 rw[nn,Option.bind_some]
theorem t17(Φ:Nat→Option CF)(h:Φ 17=some c17)(HG:Φ 47=some (.orc (aj HG)))(l:List UInt8)(ct:Nat):To Φ 17 [sV l,.s 1 58] ct (iR l):=by
 refine bL h ?_
 have e:=UW l
 obtain⟨w,b,hw⟩:∃w b,iR l= .t [sV w,.b b]:=by
  unfold iR;split
  ·split<;>exact⟨_,_,rfl⟩
  ·exact⟨_,_,rfl⟩
 rw[hw]at e⊢
 simp only[WX,B17,HG,e]
def ap8:CC:=(.reg [(qq a2 (.mv (.c .l0))),(qq a3 (.mv xF))])
def ap9:CC:=(.reg [(qq a8 (.mv z0)),(qq a9 (.bi .eql z8 (.c (.s 1 46))))])
def aq0:CC:=(.reg [(qq a2 (.mv (.c .l0))),(qq a3 (.mv xT))])
def aq1:CC:=(.seq ap9 (.cond z9 (.seq aq0 .ret) .skip))
def aq2:CC:=(.reg [(qq a5 (.mv (x6 0)))])
def aq3:CC:=(.reg [(qq cg (.mv z5)),(qq cI (.bi .add cj (x6 1))),(qq de (.mv z0)),(qq cH (.ln .str cS)),(qq db (.bi .lss cD cR))])
def aq4:CC:=(.dreg 11 [(0,0,(qq dO (.mv z0))),(1,0,(qq dY (.mv z5))),(2,3,(qq eg (.ixS dM ey))),(4,0,(qq dP (.mv z0))),(5,0,(qq eB (.mv z5))),(6,32,(qq ec (.bi .add eX (x6 1)))),(7,112,(qq dH (.ixS fm fG))),(3,7,(ee eQ (.call 56 [eV,(.c (.i .u8 97))]))),(8,255,(ee eR (.call 56 [fH,(.c (.i .u8 97))]))),(9,511,(qq a6 (.mv eW))),(10,1023,(qq a7 (.mv fJ)))])
def aq5:CC:=(.reg [(qq eD (.mv z6)),(qq eJ (.bi .gtr fK (.c (.i .u8 15)))),(qq fk (.mv fL)),(aL eE (.mv z7) fk),(aL eY (.bi .gtr gA (.c (.i .u8 15))) fk),(qq gH (.pk g9 xT gC))])
def aq6:CC:=(.reg [(qq a2 (.mv (.c .l0))),(qq a3 (.mv xF))])
def OT:CC:=(.cond gD (.seq aq6 .ret) .skip)
def OU:CC:=(.reg [(qq fo (.mv z4)),(qq gu (.mv z6)),(qq gh (.bi .mul j1 (.c (.i .u8 16)))),(qq iq (.mv z7)),(qq j3 (.bi .add ji jj)),(aa iO (.bsl 5 1 1 [(.i .u8 0)] [(0,jz)])),(ee ib (.app 5 1 1 iE jk)),(qq a4 (.mv kf))])
def OV:CC:=(.reg [(qq du (.mv z5)),(qq dE (.bi .add dj (x6 2))),(qq a5 (.mv dQ))])
def OW:CC:=(.seq (.block 1 (.seq aq4 (.seq (.seq aq5 OT) OU))) OV)
def OX:CC:=(.seq (.seq aq3 (.cond dD .skip (.exit 0))) OW)
def OY:CC:=(.reg [(qq j4 (.mv z4)),(qq gJ (.mv z0)),(qq jL (.ln .str kO)),(qq ja (.bi .gtr kr (x6 0))),(qq jA (.mv l5)),(ak jB (.mv z0) jA),(ak kl (.ln .str lM) jA),(ak kg (.bi .rem mE (x6 2)) jA),(ak km (.bi .eql mR (x6 0)) jA),(qq jb (.pk lJ lN xF)),(qq a2 (.mv kq)),(qq a3 (.mv n6))])
def OZ:CC:=(.seq (.seq aq2 (.block 0 (.loop OX))) (.seq OY .ret))
def P0:CC:=(.seq (.reg [(qq a4 (.mv (.c .l0)))]) OZ)
def c22:CF:= .mk 6 [.t a2,.t a3] (.seq ap8 (.seq aq1 P0))
theorem e22(v0:V):aS 6 [v0]=(.n mr (some v0) mr):=rfl
def B22:=ai @e22 (ai (wu ap8.eq_1) (ai (wu ap9.eq_1) (ai (wu aq0.eq_1) (ai (wu aq1.eq_1) (ai (wu aq2.eq_1) (ai (wu aq3.eq_1) (ai (wu aq4.eq_1) (ai (wu aq5.eq_1) (ai (wu aq6.eq_1) (ai (wu OT.eq_1) (ai (wu OU.eq_1) (ai (wu OV.eq_1) (ai (wu OW.eq_1) (ai (wu OX.eq_1) (ai (wu OY.eq_1) (ai (wu OZ.eq_1) (wu P0.eq_1)))))))))))))))))
theorem V5(a b:Nat)(hb:0<b)(ha:a<9223372036854775808):bu .rem (.i .i64 (a:Int)) (.i .i64 (b:Int))=some (.i .i64 ((a%b:Nat):Int)):=by
 show(oU .i64 (a:Int) (b:Int)).val=_
 unfold oU
 rw[cV,ag (show¬((b:Int)=0) by omega),cond_false,eI,←Int.ofNat_tmod];rfl
theorem vq{x y:UInt8}{r:List UInt8}{l:List UInt8}(h:iU l=x::y::r):∃b l',l=b::l'∧iU l'=r∧fZ x<16∧fZ y<16∧b=UInt8.ofNat (fZ x*16+fZ y):=by
 cases l with
 |nil=>cases h
 |cons b l'=>
  have hb:=UInt8.toNat_lt b;unfold iU at h;rw[List.flatMap_cons]at h;injection h with h1 h
  injection h with h2 h
  refine⟨b,l',rfl,h,?_⟩;rw[←h1,←h2,HX _ (by omega),HX _ (by omega)];refine⟨by omega,by omega,?_⟩;rw[show b.toNat/16*16+b.toNat%16=b.toNat by omega,UInt8.ofNat_toNat]
theorem r22(Φ:Nat→Option CF)(h:Φ 22=some c22)(h56:Φ 56=some (.orc (aj h56))){F:RO}{M:Mem}{c:Nat}(ok:eA F M c)(s:List UInt8)(hl:s.length≤100000):
 Calls Φ F 22 [sV s] M c fun r M' c'=>Gr c M c' M'∧ ∃v b l,r= .t [v,.b b]∧l9 F M' c' v l∧2*l.length≤s.length∧ ∀l',s=gG l'→b=true∧l'=l:=by
 refine ax h ?_
 have e0:=lU s [46]
 rw[show sV [46]= .s 1 46 from rfl]at e0
 by_cases h0:s=[46]
 ·rw[af h0]at e0;simp only[WX,B22,e0];refine⟨Gr.refl ok,_,_,[],rfl,(cu.nil (ty:=5) (b:=0) (c0:=0)).sl,aM _,fun l' hl'=>⟨rfl,?_⟩⟩;rw[h0]at hl';exact AM _ _ (hl'.symm.trans rfl)
 ·rw[ag h0]at e0
  have hne:∀l',s=gG l'→s=iU l'∧l'≠[]:=fun l' hl'=>by
   unfold gG at hl';split at hl'
   ·exact absurd hl' h0
   ·exact⟨hl',by assumption⟩
  simp only[WX,B22,e0];obtain⟨I,hI⟩:∃I:Nat→St→Prop,∀n s',I n s'↔(∃(i c1 b1:Nat) (acc:V) (M1:Mem) (d:List UInt8) (u:List (Option V)),n=s.length-i∧i≤s.length∧i=2*d.length∧s'= .mk ((.n (.n (.n (ay u 31 15 47 7 39 23 55) (uO u 3) (ay u 35 19 51 11 43 27 59)) (uO u 1) (.n (ay u 33 17 49 9 41 25 57) (some (.i .i64 (i:Int))) (ay u 37 21 53 13 45 29 61))) (some (sV s)) (.n (.n (ay u 32 16 48 8 40 24 56) (some (acc)) (ay u 36 20 52 12 44 28 60)) (uO u 2) (.n (ay u 34 18 50 10 42 26 58) (uO u 6) (ay u 38 22 54 14 46 30 62))))) [] M1 c1∧Gr c M c1 M1∧cu M1 c c1 b1 5 1 acc (d.map fun x=>[bV x])∧ ∀l',s=iU l'→ ∃l2,l'=d++l2∧iU l2=s.drop i):=⟨fun n s'=>_,fun _ _=>Iff.rfl⟩
  refine cX I ?_ s.length _ ((hI _ _).2 ⟨0,c,0,.l0,M,[],[none,_,_,_,none,none,_,_,_,_,_,_,_,_,_,_,_,_,_,_,_,_,_,_,_,_,_,_,_,_,_,_,_,_,_,_,_,_,_,_,_,_,_,_,_,_,_,_,_,_,_,_,_,_,_,_,_,_,_,_,_,_,_],rfl,aM _,rfl,rfl,Gr.refl ok,cu.nil,fun l' hl'=>⟨l',rfl,hl'.symm⟩⟩);intro n s' hIs;obtain⟨i,c1,b1,acc,M1,d,u,rfl,hi,hid,rfl,g1,hA,hL⟩:=(hI _ _).1 hIs;clear hIs;have ok1:=g1.ok ok;have g1l:=g1.le;have q8:bu .add (.i .i64 (i:Int)) (.i .i64 1)=some (.i .i64 ((i+1:Nat):Int)):=by rw[bA _ _ (by omega) (by omega)];simp
  have q9:bu .add (.i .i64 (i:Int)) (.i .i64 2)=some (.i .i64 ((i+2:Nat):Int)):=by rw[bA _ _ (by omega) (by omega)];simp
  by_cases hlt:i+1<s.length
  ·have d1:decide (((i+1:Nat):Int)<(s.length:Int))=true:=af (by omega);have x1:=tU s .i64 i (by omega);have x2:=tU s .i64 (i+1) hlt;have hdr:s.drop i=s[i]::s[i+1]::s.drop (i+2):=by rw[eS (show i<s.length by omega),eS hlt]
   rw[hdr]at hL;generalize s[i]=x at x1 hL;generalize s[i+1]=y at x2 hL;have n1:=UX x;have n2:=UX y;have k1:=Vw x;have k2:=Vw y;by_cases hxy:fZ x<16∧fZ y<16
   ·have e1:decide ((15:Int)<(fZ x:Int))=false:=ag (by omega);have e2:decide ((15:Int)<(fZ y:Int))=false:=ag (by omega);have m1:bu .mul (.i .u8 (fZ x:Int)) (.i .u8 16)=some (.i .u8 ((fZ x*16:Nat):Int)):=by rw[uM,dh];congr 2;omega
    have m2:bu .add (.i .u8 ((fZ x*16:Nat):Int)) (.i .u8 (fZ y:Int))=some (bV (UInt8.ofNat (fZ x*16+fZ y))):=by rw[jN,dh,Ak,show(fZ x*16+fZ y)%256=fZ x*16+fZ y by omega];congr 2;omega
    have fb:∀x,flatten (bV x)=[bV x]:=fun _=>rfl;have ob:∀x,dq (bV x)=true:=fun _=>rfl;have hfr:=ok1.free;simp only[WX,Nat.reduceAdd,j0,B22,q8,d1,x1,x2,h56,n1,n2,e1,e2,m1,m2,fb,ob,hfr];generalize hz:fZ x*16+fZ y=z;have grY:=(g1.up (c2:=c1+12) (by omega)).set (c2:=c1+12) (c1+11) (eU [V.i .u8 0] 5 [bV (UInt8.ofNat z)]) (by omega) (by omega) (ah _);have hy:cU F (M1.set (c1+11) (eU [V.i .u8 0] 5 [bV (UInt8.ofNat z)])) (c1+12) 1 (.l (c1+11) 0 1 1) ([UInt8.ofNat z].map fun x=>[bV x]):=E6 (d:=[V.i .u8 0]) (ty:=5) (by rw[aw];rfl) (by omega) (fun e he=>by obtain⟨x,_,rfl⟩:=List.mem_map.1 he;rfl) rfl;refine aB ((lR (bytes:=1) (hA.up (show c1≤c1+12 by omega) (fun hx=>aq _ _ (by omega))) grY Nat.one_pos hy rfl (eO (by rw[List.length_map,List.length_map];simp only[bk,cF];omega) (by rw[List.length_map,List.length_map];simp only[bk,cF];omega))).mono ?_);rintro v' M2 c2 ⟨b2,hA2,gr2,hle2,_,_⟩;simp only[WX,B22,q9];refine⟨s.length-(i+2),by omega,(hI _ _).2 ⟨i+2,c2,b2,v',M2,d++[UInt8.ofNat z],[none,_,_,_,none,none,_,_,_,_,_,_,_,_,_,_,_,_,_,_,_,_,_,_,_,_,_,_,_,_,_,_,_,_,_,_,_,_,_,_,_,_,_,_,_,_,_,_,_,_,_,_,_,_,_,_,_,_,_,_,_,_,_],rfl,by omega,by rw[bE,List.length_singleton];omega,rfl,gr2,?_,fun l' hl'=>?_⟩⟩
    ·rw[List.map_append];exact hA2
    ·obtain⟨l2,h1,h2⟩:=hL l' hl';obtain⟨b,l3,r1,r2,r3,r4,r5⟩:=vq h2;exact⟨l3,by rw[h1,r1,r5,hz,kz];rfl,r2⟩
   ·have bad:∀l',s=gG l'→(false=true∧l'=[]):=fun l' hl'=>by
     obtain⟨h1,_⟩:=hne l' hl';obtain⟨l2,_,h2⟩:=hL l' h1;obtain⟨b,l3,r1,r2,r3,r4,r5⟩:=vq h2;exact absurd ⟨r3,r4⟩ hxy
    have hfr:=ok1.free;by_cases hx:fZ x<16
    ·have e1:decide ((15:Int)<(fZ x:Int))=false:=ag (by omega);have e2:decide ((15:Int)<(fZ y:Int))=true:=af (by omega);simp only[WX,j0,B22,q8,d1,x1,x2,h56,n1,n2,e1,e2,hfr];exact⟨g1.up (by omega),_,_,[],rfl,(cu.nil (ty:=5) (b:=0) (c0:=0)).sl,aM _,bad⟩
    ·have e1:decide ((15:Int)<(fZ x:Int))=true:=af (by omega);simp only[WX,j0,B22,q8,d1,x1,x2,h56,n1,n2,e1,hfr];exact⟨g1.up (by omega),_,_,[],rfl,(cu.nil (ty:=5) (b:=0) (c0:=0)).sl,aM _,bad⟩
  ·have d1:decide (((i+1:Nat):Int)<(s.length:Int))=false:=ag (by omega)
   have fin:∀b:Bool,((0<s.length∧s.length%2=0)→b=true)→ ∃v0 b0 l,V.t [acc,.b b]= .t [v0,.b b0]∧l9 F M1 c1 v0 l∧2*l.length≤s.length∧ ∀l',s=gG l'→b0=true∧l'=l:=fun b hb=>by
    refine⟨acc,b,d,rfl,hA.sl,by omega,fun l' hl'=>?_⟩;obtain⟨h1,hn⟩:=hne l' hl';obtain⟨l2,h3,h2⟩:=hL l' h1;have hh:=congrArg List.length h1;rw[gS]at hh;have hp:0<l'.length:=List.length_pos_iff.2 hn;have hh2:=congrArg List.length h2;rw[gS,cM]at hh2;have:l2=[]:=List.length_eq_zero_iff.1 (by omega);rw[this,di]at h3;exact⟨hb ⟨by omega,by omega⟩,h3⟩
   have q2:bu .rem (.i .i64 (s.length:Int)) (.i .i64 2)=some (.i .i64 ((s.length%2:Nat):Int)):=by
    exact V5 _ 2 (by decide) (by omega)
   by_cases hp:0<s.length
   ·have e1:decide ((0:Int)<(s.length:Int))=true:=af (by omega);simp only[WX,B22,q8,d1,e1,q2];exact⟨g1,fin _ fun h=>af (by omega)⟩
   ·have e1:decide ((0:Int)<(s.length:Int))=false:=ag (by omega);simp only[WX,B22,q8,d1,e1];exact⟨g1,fin _ fun h=>absurd h.1 hp⟩
def by9:CC:=(.reg [(qq a2 (.mv (.c .l0))),(qq a3 (.mv (x6 0)))])
def bm8:=wu by9.eq_1
def bz0:CC:=(.reg [(qq db (.mv z0)),(ee du (.call 17 [dD,(.c (.s 1 58))])),(qq cH (.mv dj)),(qq dE (.ex 0 cR)),(qq dO (.ex 1 cR)),(qq a5 (.mv dQ)),(qq a6 (.mv dM))])
def bm9:=wu bz0.eq_1
def bz1:CC:=(.reg [(qq dY (.mv z6))])
def bn0:=wu bz1.eq_1
def bz2:CC:=(.reg [(qq eQ (.mv z5)),(ee dP (.call 18 [eW])),(qq eg (.mv fm)),(qq eB (.ex 0 eV)),(qq ec (.ex 1 eV)),(qq a4 (.mv eX))])
def ca6:=wu bz2.eq_1
def bz3:CC:=(.reg [(qq dH (.mv z0)),(ee eR (.call 19 [fH,(.c (.s 2 8236))])),(qq eD (.ln .slice fJ)),(qq eJ (.mv (x6 0)))])
def ca7:=wu bz3.eq_1
def bz4:CC:=(.reg [(qq fk (.bi .lss fL fK))])
def bn1:=wu bz4.eq_1
def bz5:CC:=(.reg [(qq eE (.iaS 1 fJ fL)),(qq eY (.ld1 gA)),(qq a8 (.mv gC))])
def ca8:=wu bz5.eq_1
def bz6:CC:=(.reg [(qq fo (.mv z8)),(ee gu (.call 20 [iE])),(qq gH (.mv j1)),(qq gh (.ex 0 gD)),(qq iq (.ex 1 gD)),(aa a9 (.al 59 [(.i .i64 0),(.i .i64 0),(.i .i64 0),(.i .i64 0),(.i .i64 0)])),(ez (.st 5 z9 ji)),(qq cg (.mv jj))])
def ca9:=wu bz6.eq_1
def bz7:CC:=(.reg [(qq j3 (.mv cj)),(qq iO (.bi .neq jz (x6 0)))])
def bn2:=wu bz7.eq_1
def aM2:CC:=(.reg [(qq a2 (.mv (.c .l0))),(qq a3 (.mv (x6 4)))])
def b39:=wu aM2.eq_1
def aM3:CC:=(.cond jk (.seq aM2 .ret) .skip)
def X5:=wu aM3.eq_1
def aM4:CC:=(.reg [(qq j4 (.ldn 5 z9)),(aa gJ (.bsl 59 1 5 [(.i .i64 0),(.i .i64 0),(.i .i64 0),(.i .i64 0),(.i .i64 0)] [(0,kq)])),(ee jL (.call 21 [kO])),(qq ib (.mv kr)),(qq ja (.ex 0 kf)),(qq jA (.ex 1 kf)),(qq cI (.mv l5)),(qq de (.mv lJ))])
def b40:=wu aM4.eq_1
def aM5:CC:=(.reg [(qq jB (.mv z4)),(qq kl (.mv cD)),(ee kg (.app 5 1 1 lM mE)),(qq a4 (.mv mR))])
def b41:=wu aM5.eq_1
def aM6:CC:=(.seq bz5 (.seq bz6 (.seq (.seq bz7 aM3) (.seq aM4 aM5))))
def b42:=wu aM6.eq_1
def aM7:CC:=(.reg [(qq km (.bi .add fL (x6 1))),(qq eJ (.mv lN))])
def b43:=wu aM7.eq_1
def aM8:CC:=(.seq (.cond g9 .skip (.exit 0)) (.seq (.block 1 aM6) aM7))
def X6:=wu aM8.eq_1
def aM9:CC:=(.cond ey bz2 (.seq bz3 (.block 0 (.loop (.seq bz4 aM8)))))
def X7:=wu aM9.eq_1
def Rz:CC:=(.reg [(qq jb (.mv z4)),(qq ga (.ln .slice n6)),(qq mU (.bi .gtr mS (x6 8192))),(qq ko (.mv oG)),(aL jC (.mv z4) ko),(tM ig (.call 5 [pq]) ko),(aL lK (.mv z0) ko),(aL nh (.bi .neq oL qc) ko),(qq ky (.pk oH xT pv))])
def ca0:=wu Rz.eq_1
def aN0:CC:=(.reg [(qq a2 (.mv (.c .l0))),(qq a3 (.mv (x6 4)))])
def ca2:=wu aN0.eq_1
def RA:CC:=(.cond oM (.seq aN0 .ret) .skip)
def ca4:=wu RA.eq_1
def RB:CC:=(.reg [(qq l6 (.mv z4)),(qq a2 (.mv qd)),(qq a3 (.mv (x6 0)))])
def ca5:=wu RB.eq_1
def aN1:CC:=(.seq (.seq bz0 (.seq bz1 aM9)) (.seq (.seq Rz RA) (.seq RB .ret)))
def X8:=wu aN1.eq_1
def aN2:CC:=(.seq (.reg [(qq a4 (.mv (.c .l0)))]) aN1)
def X9:=wu aN2.eq_1
def c6:CF:= .mk 6 [.t a2,.t a3] (.seq by9 aN2)
theorem e6(v0:V):aS 6 [v0]=(.n mr (some v0) mr):=rfl
def B6:=ai @e6 (ai @bm8 (ai @bm9 (ai @bn0 (ai @ca6 (ai @ca7 (ai @bn1 (ai @ca8 (ai @ca9 (ai @bn2 (ai @b39 (ai @X5 (ai @b40 (ai @b41 (ai @b42 (ai @b43 (ai @X6 (ai @X7 (ai @ca0 (ai @ca2 (ai @ca4 (ai @ca5 (ai @X8 (@X9)))))))))))))))))))))))
structure SP(Φ:Nat→Option CF)(L:List gF):Prop extends LP Φ L where
 h5:Φ 5=some c5
 h17:Φ 17=some (.orc (aj HG))
 h18:Φ 18=some c18
 h19:Φ 19=some (.orc (pX 9 0))
 h20:Φ 20=some c20
 h21:Φ 21=some c21
 h48:Φ 48=some c48
 h50:Φ 50=some Uf
 h51:Φ 51=some Y0
 h52:Φ 52=some yR
 h54:Φ 54=some c54
 h84:Φ 84=some tI
 h85:Φ 85=some wD
 h89:Φ 89=some xe
 h112:Φ 112=some jR
 h113:Φ 113=some jS
 h119:Φ 119=some kQ
 h120:Φ 120=some Jy
 h35:Φ 35=some (.orc (aj vn))
 h40:Φ 40=some (.orc (aj h40))
 h41:Φ 41=some (.orc (aj h41))
 h53:Φ 53=some (.orc (aj wM))
 h55:Φ 55=some (.orc (aj h55))
 h79:Φ 79=some (.orc (aj h79))
 h91:Φ 91=some (.orc (aj h91))
 h110:Φ 110=some (.orc (aj h110))
 h136:Φ 136=some (.orc (aj h136))
def Cb(F:RO):Prop:=∃z:Int,∀M,M.get 0=none→load1 F M 0 0=some (.i .i64 z)
theorem b08(Φ:Nat→Option CF){L:List gF}(p:SP Φ L){F:RO}{M M1:Mem}{c c1:Nat}{acc:V}{l s:List UInt8}(ok:eA F M c)(ht:bB F L=true)(g1:Gr c M c1 M1)(hs:l9 F M1 c1 acc l)(hu:∀l':List UInt8,l'.length≤8192→da l'=s→l'=l)(u:List (Option V)):
 Wp ((Rz.seq RA).seq (RB.seq .ret)) (K Φ none 6 F) (.mk ((.n (.n (.n (ay u 31 15 47 7 39 23 55) (uO u 3) (ay u 35 19 51 11 43 27 59)) (uO u 1) (.n (ay u 33 17 49 9 41 25 57) (uO u 5) (ay u 37 21 53 13 45 29 61))) (some (sV s)) (.n (.n (ay u 32 16 48 8 40 24 56) (some (acc)) (ay u 36 20 52 12 44 28 60)) (some (.l0)) (.n (ay u 34 18 50 10 42 26 58) (uO u 6) (ay u 38 22 54 14 46 30 62))))) [] M1 c1) (j5 F [.t (.r .h),.t (.l (.l .h))] fun r M' c'=>UnP F M' c' s r∧Gr c M c' M'):=by
 have ok1:=g1.ok ok
 have hln:=hs.len
 by_cases hl:8192<l.length
 ·have d1:decide ((8192:Int)<(l.length:Int))=true:=af (by omega);simp only[WX,B6,hln,d1];exact⟨.inr ⟨fun l' h1 h2=>by have:=hu l' h1 h2;subst this;omega,rfl⟩,g1⟩
 ·have d1:decide ((8192:Int)<(l.length:Int))=false:=ag (by omega);simp only[WX,B6,hln,d1];refine aB ((r5 Φ p.h5 p.toLP ok1 ht hs).mono ?_);rintro r M2 c2 ⟨rfl,g2⟩;have hne:=np (da l) s;by_cases he:da l=s
  ·rw[af he]at hne;simp only[WX,B6,hne];exact⟨.inl ⟨acc,l,rfl,hs.grow g2,by omega,he⟩,g1.trans g2⟩
  ·rw[ag he]at hne;simp only[WX,B6,hne];exact⟨.inr ⟨fun l' h1 h2=>by have:=hu l' h1 h2;subst this;exact he h2,rfl⟩,g1.trans g2⟩
theorem VI{r l:List UInt8}(hl:l.length≤8192)(h:da l=58::r):r=gG l:=by
 rcases k8 hl with e|⟨L,h1,h2,h3,e⟩
 ·rw[e]at h;injection h with _ h;exact h.symm
 ·obtain⟨z,w,hz,hn⟩:=rV h1 h2;rw[e,hz]at h;injection h with h _;exact absurd h hn
theorem wf:∀(n:Nat) (s a:List UInt8),s.length≤n→(cC s a).length≤s.length+1∧ ∀x∈cC s a,x.length≤a.length+s.length
 |_,[],a,_=>by rw[cC];exact⟨by simp,fun x hx=>by rw[List.mem_singleton]at hx;subst hx;omega⟩
 |_,[y],a,_=>by rw[cC];exact⟨by simp,fun x hx=>by rw[List.mem_singleton]at hx;subst hx;simp⟩
 |0,x::y::r,a,h=>by simp at h
 |n+1,x::y::r,a,h=>by
  rw[cC];split
  ·obtain⟨h1,h2⟩:=wf n r [] (by simp at h;omega);refine⟨by simp;omega,fun w hw=>?_⟩;rcases bj.1 hw with rfl|hw
   ·omega
   ·have:=h2 w hw;simp at this⊢;omega
  ·obtain⟨h1,h2⟩:=wf n (y::r) (a++[x]) (by simp at h⊢;omega);refine⟨by simp at h1⊢;omega,fun w hw=>?_⟩;have:=h2 w hw;simp at this⊢;omega
theorem bj8(ty:Nat)(ps:List (List UInt8)):ac6 ty ps=eU [] ty (d6 ps).flatten:=by
 have:(d6 ps).flatten=ps.map sV:=by unfold d6;induction ps with
  |nil=>rfl
  |cons x r ih=>rw[List.map_cons,List.flatten_cons,ih];rfl
 rw[this];rfl
theorem r6(Φ:Nat→Option CF){L:List gF}(h:Φ 6=some c6)(p:SP Φ L){F:RO}{M:Mem}{c:Nat}(ok:eA F M c)(ht:bB F L=true)(hE1:bF F 1)(hE2:bF F 2)(hX:Cb F)(hlow:∀g,g<1000→M.get g=none)(s:List UInt8)(hs:s.length≤400000):
 Calls Φ F 6 [sV s] M c fun r M' c'=>UnP F M' c' s r∧Gr c M c' M':=by
 refine ax h ?_
 have hge:=ok.ge
 have e17:=UW s
 by_cases h58:∃r,s=58::r
 ·obtain⟨r,rfl⟩:=h58;rw[show iR (58::r)= .t [sV r,.b true] by unfold iR;exact ac rfl]at e17;simp only[WX,e6,bm8,bm9,bn0,ca6,X7,X8,X9,p.h17,e17];refine aB ((r18 Φ p.h18 p.h48 p.h84 p.h85 p.h112 p.h113 p.h136 p.h110 p.h15 p.h44 p.h45 p.h81 ok hE1 hE2 hlow r (by simp at hs;omega)).mono ?_);rintro q M1 c1 ⟨v,b,rfl,h1,g1⟩;simp only[WX];rw[←ke,←ke];refine b08 Φ p ok ht g1 h1 (fun l' h1 h2=>?_) [none,_,none,_,none,_,_,_,_,_,_,_,_,_,_,_,_,_,_,_,_,_,_,_,_,_,_,_,_,_,_,_,_,_,_,_,_,_,_,_,_,_,_,_,_,_,_,_,_,_,_,_,_,_,_,_,_,_,_,_,_,_,_];rw[VI h1 h2,Ww]
 ·have h59:∀r,s≠58::r:=fun r e=>h58 ⟨r,e⟩;have e17':iR s= .t [sV s,.b false]:=by
   unfold iR;split
   ·rename_i x r;exact ab fun e=>h59 r (by rw[e])
   ·rfl
  rw[e17']at e17;obtain⟨z,hz⟩:=hX;have e19:=KW (ty:=9) (g:=0) (F:=F) (M:=M) (ct:=c) (s:=s) (by omega) (hz M (hlow 0 (by decide)));obtain⟨hn,hw⟩:=wf _ s [] (ah _);have hPC:∀l':List UInt8,l'.length≤8192→da l'=s→ ∃L,L≠[]∧(∀x∈L,iX x=true)∧cB L=l'∧cC s []=L.map kh:=fun l' a b=>tf a h59 b;generalize cC s []=ps at e19 hn hw hPC;rw[bj8,List.length_map]at e19;simp only[WX,e6,bm8,bm9,bn0,ca7,X7,X8,X9,p.h17,e17,p.h19,e19];have g0:=(Gr.refl ok).set c (eU [] 9 (d6 ps).flatten) (ah _) (bD _) (bU _);have hP0:cU F (M.set c (eU [] 9 (d6 ps).flatten)) (c+1) 1 (.l c 0 ps.length ps.length) (d6 ps):=E6 (aw _ _ _) (bD _) (fun e he=>by obtain⟨x,_,rfl⟩:=List.mem_map.1 he;rfl) (List.length_map ..);obtain⟨I,hI⟩:∃I:Nat→St→Prop,∀n s',I n s'↔(∃(i c1 b1:Nat) (acc:V) (M1:Mem) (Ls:List nc) (u:List (Option V)),n=ps.length-i∧i≤ps.length∧s'= .mk ((.n (.n (.n (ay u 31 15 47 7 39 23 55) (uO u 3) (.n (eH u 35 19 51) (uO u 11) (.n (kp u 43) (some (.i .i64 (i:Int))) (kp u 59)))) (uO u 1) (.n (.n (eH u 33 17 49) (uO u 9) (.n (kp u 41) (some (.l c 0 ps.length ps.length)) (kp u 57))) (uO u 5) (ay u 37 21 53 13 45 29 61))) (some (sV s)) (.n (.n (ay u 32 16 48 8 40 24 56) (some (acc)) (ay u 36 20 52 12 44 28 60)) (some (.l0)) (.n (.n (eH u 34 18 50) (uO u 10) (.n (kp u 42) (some (.i .i64 (ps.length:Int))) (kp u 58))) (uO u 6) (ay u 38 22 54 14 46 30 62))))) [] M1 c1∧eA F M1 c1∧c+1≤c1∧(∀x,x<c+1→M1.get x=(M.set c (eU [] 9 (d6 ps).flatten)).get x)∧cu M1 (c+1) c1 b1 5 1 acc ((cB Ls).map fun x=>[bV x])∧ps.take i=Ls.map kh∧ ∀x∈Ls,iX x=true):=⟨fun n s'=>_,fun _ _=>Iff.rfl⟩
  refine cX I ?_ ps.length _ ((hI _ _).2 ⟨0,c+1,0,.l0,_,[],[none,_,none,_,none,_,_,_,_,_,_,_,_,_,_,_,_,_,_,_,_,_,_,_,_,none,none,none,_,_,_,_,_,_,_,_,_,_,_,_,_,_,_,_,_,_,_,_,_,_,_,_,_,_,_,_,_,_,_,_,_,_,_],rfl,aM _,rfl,g0.ok ok,ah _,fun _ _=>rfl,cu.nil,by simp,fun x hx=>by cases hx⟩);intro n s' hIs;obtain⟨i,c1,b1,acc,M1,Ls,u,rfl,hi,rfl,ok1,le1,old1,hA,hps,hm⟩:=(hI _ _).1 hIs;clear hIs;have gr1:Gr (c+1) (M.set c (eU [] 9 (d6 ps).flatten)) c1 M1:=⟨le1,old1,ok1.hiM⟩
  have gM:Gr c M c1 M1:=g0.trans gr1;have hP1:cU F M1 c1 1 (.l c 0 ps.length ps.length) (d6 ps):=hP0.grow gr1;have q8:bu .add (.i .i64 (i:Int)) (.i .i64 1)=some (.i .i64 ((i+1:Nat):Int)):=by rw[bA _ _ (by omega) (by omega)];simp
  have hLl:Ls.length=i:=by have:=congrArg List.length hps;rw[List.length_map,List.length_take]at this;omega
  have hbl:=ft Ls;by_cases hlt:i<ps.length
  ·have d1:decide ((i:Int)<(ps.length:Int))=true:=af (by omega);obtain⟨pb,po,hpb,hia,hld⟩:=my hP1 i hlt;have htk:=oB hlt;have hwl:=hw _ (List.getElem_mem hlt);have hix:ps[i]?=some ps[i]:=List.getElem?_eq_getElem hlt;generalize ps[i]=t at hld htk hwl hix;simp only[WX,bn1,ca8,ca9,b42,X6,d1,hia,hld];refine aB ((r20 Φ p.h14 p.h50 p.h35 p.h51 p.h53 p.h52 p.h89 p.h85 p.h112 p.h113 p.h119 p.h84 p.h136 p.h110 p.h20 p.h54 p.h91 p.h79 p.h120 p.h41 p.h40 ok1 ht hE1 hE2 (fun g hg=>(gM.old g (by omega)).trans (hlow g hg)) t (by rw[cF]at hwl;omega)).mono ?_);rintro q M2 c2 ⟨hpp,g2⟩;have ok2:=g2.ok ok1;have g2l:=g2.le;rcases hpp with⟨op,d,a,b,im,hmy,htx,rfl⟩|⟨hno,rfl⟩
   ·have hc0:(M2.set c2 (aK 59 [.i .i64 0,.i .i64 0,.i .i64 0,.i .i64 0,.i .i64 0])).get c2=some (aK 59 [.i .i64 0,.i .i64 0,.i .i64 0,.i .i64 0,.i .i64 0]):=aw _ _ _;have hs1:=bC hc0 0 [.i .i64 op,.i .i64 d,.i .i64 a,.i .i64 b,.i .i64 im] (by simp) rfl;have d0:decide ((0:Int)≠0)=false:=rfl;have l59:=lu (F:=F) (show((M2.set c2 (aK 59 [.i .i64 0,.i .i64 0,.i .i64 0,.i .i64 0,.i .i64 0])).set c2 (aK 59 [.i .i64 op,.i .i64 d,.i .i64 a,.i .i64 b,.i .i64 im])).get c2=some (aK 59 [.i .i64 op,.i .i64 d,.i .i64 a,.i .i64 b,.i .i64 im])from aw _ _ _) 5 rfl;simp only[WX,Nat.reduceAdd,bn2,X5,b40,hs1,d0,l59];have g3:=((((Gr.refl ok2).set c2 (aK 59 [.i .i64 0,.i .i64 0,.i .i64 0,.i .i64 0,.i .i64 0]) (ah _) (show c2<c2+1 by omega) (by omega)).set c2 (aK 59 [.i .i64 op,.i .i64 d,.i .i64 a,.i .i64 b,.i .i64 im]) (ah _) (show c2<c2+1 by omega) (by omega)).set (c2+1) (eU [.i .i64 0,.i .i64 0,.i .i64 0,.i .i64 0,.i .i64 0] 59 [.i .i64 op,.i .i64 d,.i .i64 a,.i .i64 b,.i .i64 im]) (by omega) (show c2+1<c2+2 by omega) (by omega))
    have hy3:cU F (((M2.set c2 (aK 59 [.i .i64 0,.i .i64 0,.i .i64 0,.i .i64 0,.i .i64 0])).set c2 (aK 59 [.i .i64 op,.i .i64 d,.i .i64 a,.i .i64 b,.i .i64 im])).set (c2+1) (eU [.i .i64 0,.i .i64 0,.i .i64 0,.i .i64 0,.i .i64 0] 59 [.i .i64 op,.i .i64 d,.i .i64 a,.i .i64 b,.i .i64 im])) (c2+2) 5 (.l (c2+1) 0 1 1) ([(⟨op,d,a,b,im⟩:nc)].map mY):=E6 (aw _ _ _) (by omega) (V7 _) rfl;generalize((M2.set c2 (aK 59 [.i .i64 0,.i .i64 0,.i .i64 0,.i .i64 0,.i .i64 0])).set c2 (aK 59 [.i .i64 op,.i .i64 d,.i .i64 a,.i .i64 b,.i .i64 im])).set (c2+1) (eU [.i .i64 0,.i .i64 0,.i .i64 0,.i .i64 0,.i .i64 0] 59 [.i .i64 op,.i .i64 d,.i .i64 a,.i .i64 b,.i .i64 im])=M3 at g3 hy3⊢;have Ke:=g3.ok ok2;refine aB ((r21 Φ p.h21 p.h55 Ke hy3 (by simp)).mono ?_);rintro q M4 c4 ⟨g4,hr⟩;have hmx:iX (⟨op,d,a,b,im⟩:nc)=true:=hmy;rcases hr with⟨_,bv,rfl,hsb⟩|⟨hf,_⟩
    rotate_left
    ·rw[List.all_cons,hmx]at hf;simp at hf
    have g24:=g3.trans g4;have g4l:=g4.le;simp only[WX,b41];have hA4:=hA.gr (g2.trans g24);have hbx:=ft [(⟨op,d,a,b,im⟩:nc)];refine aB ((od (c0:=c+1) (bytes:=1) hA4 (g4.ok Ke) (by omega) (by decide) hsb (lc _) (eO (by rw[List.length_map,List.length_map,hbl,hbx,List.length_singleton];omega) (by rw[List.length_map,List.length_map,hbl,hbx,List.length_singleton];omega))).mono ?_);rintro v' M5 c5 ⟨b5,hA5,Y2,le5,old5⟩;simp only[WX,b43,q8];refine⟨ps.length-(i+1),by omega,(hI _ _).2 ⟨i+1,c5,b5,v',M5,Ls++[⟨op,d,a,b,im⟩],[none,_,none,_,none,_,_,_,_,_,_,_,_,_,_,_,_,_,_,_,_,_,_,_,_,none,none,none,_,_,_,_,_,_,_,_,_,_,_,_,_,_,_,_,_,_,_,_,_,_,_,_,_,_,_,_,_,_,_,_,_,_,_],rfl,by omega,rfl,Y2,by omega,fun x hx=>?_,?_,?_,fun x hx=>?_⟩⟩
    ·rw[old5 x hx,g24.old x (by omega),g2.old x (by omega),old1 x hx]
    ·rw[show cB (Ls++[(⟨op,d,a,b,im⟩:nc)])=cB Ls++cB [⟨op,d,a,b,im⟩] by unfold cB;rw[List.flatMap_append],List.map_append];exact hA5
    ·rw[htk,hps,List.map_append,←htx];rfl
    ·rcases List.mem_append.1 hx with hx|hx
     ·exact hm x hx
     ·rw[List.mem_singleton.1 hx];exact hmx
   ·have d4:decide ((4:Int)≠0)=true:=rfl;simp only[WX,Nat.reduceAdd,Nat.reduceLeDiff,bn2,b39,X5,d4];refine⟨.inr ⟨fun l' h1 h2=>?_,rfl⟩,(gM.trans g2).set c2 _ (by omega) (by omega) (by omega)⟩;obtain⟨L',k1,k2,k3,k4⟩:=hPC l' h1 h2;rw[k4,List.getElem?_map]at hix;obtain⟨x,hx1,hx2⟩:=be.1 hix;exact hno x.op x.d x.a x.b x.i (k2 x (List.mem_of_getElem? hx1)) hx2
  ·obtain rfl:i=ps.length:=by omega
   have d1:decide ((ps.length:Int)<(ps.length:Int))=false:=ag (by omega);rw[List.take_length]at hps;simp only[WX,bn1,X6,d1];rw[←ke,←ke];refine b08 Φ p ok ht gM hA.sl (fun l' h1 h2=>?_) [none,_,none,_,none,_,_,_,_,_,_,_,_,_,_,_,_,_,_,_,_,_,_,_,_,_,_,_,_,_,_,_,_,_,_,_,_,_,_,_,_,_,_,_,_,_,_,_,_,_,_,_,_,_,_,_,_,_,_,_,_,_,_];obtain⟨L',k1,k2,k3,k4⟩:=hPC l' h1 h2;rw[←k3,nH L' Ls k2 hm (k4.symm.trans hps)]
end
end Go.Proofs.YtkcelmimbmbfkaaGreatDoor.Ev
