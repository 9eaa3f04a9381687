/- What is proved here: pieces of the evaluator's soundness: if the evaluator comes to a value, the model's run comes to it, for every world and tape; no conditions beyond the hypotheses of each theorem. -/
import Derived.Test.YtcnblipfcihcpaaGreatDoorEv5
import Derived.KernelRfl
set_option linter.unusedSimpArgs false
set_option linter.unusedVariables false
set_option linter.defProp false
set_option maxRecDepth 10000
set_option maxHeartbeats 16000000
namespace Go.Proofs.YtcnblipfcihcpaaGreatDoor.Ev
open Go
noncomputable section
variable{Φ:Nat→Option CF}{F:RO}{L:List uN}{M M0 M':Mem}{c c0 c' b n sz ty i:Nat}{v:V}{l:List UInt8}{es:List (List V)}{α:Type}
abbrev cO2(u:List (Option V))(x0 x1 x5 x39 x40 x41:V):T:=(.n (.n (.n (.n (aq u 63 31 95 15 79 47 111) (uO u 7) (.n (.n (ia u 71) (some x39) (ia u 103)) (uO u 23) (fu u 87 55 119))) (uO u 3) (.n (aq u 67 35 99 19 83 51 115) (uO u 11) (aq u 75 43 107 27 91 59 123))) (some x1) (.n (.n (aq u 65 33 97 17 81 49 113) (uO u 9) (.n (.n (ia u 73) (some x41) (ia u 105)) (uO u 25) (fu u 89 57 121))) (some x5) (.n (aq u 69 37 101 21 85 53 117) (uO u 13) (aq u 77 45 109 29 93 61 125)))) (some x0) (.n (.n (.n (aq u 64 32 96 16 80 48 112) (uO u 8) (.n (.n (ia u 72) (some x40) (ia u 104)) (uO u 24) (fu u 88 56 120))) (uO u 4) (.n (aq u 68 36 100 20 84 52 116) (uO u 12) (aq u 76 44 108 28 92 60 124))) (uO u 2) (.n (.n (aq u 66 34 98 18 82 50 114) (uO u 10) (aq u 74 42 106 26 90 58 122)) (uO u 6) (.n (aq u 70 38 102 22 86 54 118) (uO u 14) (aq u 78 46 110 30 94 62 126)))))
abbrev cO3(u:List (Option V))(x0 x1 x8 x63 x64 x65:V):T:=(.n (.n (.n (.n (.n (.n (.n .e (some x63) .e) (uO u 31) (ia u 95)) (uO u 15) (fu u 79 47 111)) (uO u 7) (aq u 71 39 103 23 87 55 119)) (uO u 3) (.n (aq u 67 35 99 19 83 51 115) (uO u 11) (aq u 75 43 107 27 91 59 123))) (some x1) (.n (.n (.n (.n (.n .e (some x65) .e) (uO u 33) (ia u 97)) (uO u 17) (fu u 81 49 113)) (uO u 9) (aq u 73 41 105 25 89 57 121)) (uO u 5) (.n (aq u 69 37 101 21 85 53 117) (uO u 13) (aq u 77 45 109 29 93 61 125)))) (some x0) (.n (.n (.n (.n (.n (.n .e (some x64) .e) (uO u 32) (ia u 96)) (uO u 16) (fu u 80 48 112)) (some x8) (aq u 72 40 104 24 88 56 120)) (uO u 4) (.n (aq u 68 36 100 20 84 52 116) (uO u 12) (aq u 76 44 108 28 92 60 124))) (uO u 2) (.n (.n (aq u 66 34 98 18 82 50 114) (uO u 10) (aq u 74 42 106 26 90 58 122)) (uO u 6) (.n (aq u 70 38 102 22 86 54 118) (uO u 14) (aq u 78 46 110 30 94 62 126)))))
def aY0:CC:=(.reg [(qq a4 (.mv (.c (.s 0 0))))])
def aY1:CC:=(.reg [(qq dk (.mv z0)),(qq dy (.ln .slice dC))])
def aY2:CC:=(.reg [(qq dL (.bi .eql dX (x6 0))),(qq dN (.mv eu))])
def aY3:CC:=(.reg [(qq a4 (.mv (.c (.s 0 0))))])
def aY4:CC:=(.reg [(qq dY (.bi .eql dX (x6 1))),(qq dS (.mv eF))])
def aY5:CC:=(.reg [(qq eE (.mv z0)),(qq dT (.iaS 1 eD (x6 0))),(qq eG (.ld1 fm)),(qq a4 (.mv fS))])
def aY6:CC:=(.seq aY4 (.cond dM (.seq aY5 .ret) .skip))
def aY7:CC:=(.seq aY2 (.cond dG (.seq aY3 .ret) aY6))
def aY8:CC:=(.reg [(qq a5 (.mv (x6 0)))])
def Un:CC:=(.reg [(qq fF (.mv z1)),(qq eR (.ln .str fD)),(qq fv (.bi .gtr gv (x6 0)))])
def Uo:CC:=(.reg [(qq fl (.mv z1)),(qq dU (.ln .str gH)),(qq eV (.mv z0)),(qq eb (.ln .slice gO)),(qq fG (.bi .sub gw (x6 1))),(qq gi (.bi .quo (x6 9223372036854775807) gy)),(qq gg (.bi .geq gM iz))])
def cw1:Nat:=232023140547069528372253906381035003553488466437483087989658184371904395368843875349619
def Up:CC:=(.reg [(qq gQ (.mki 9 (.c (.s 36 cw1)))),⟨none,.q (.bad),none⟩])
def Uq:CC:=(.seq Uo (.cond iA Up .skip))
def Ur:CC:=(.reg [(qq j4 (.mv z5)),(qq gj (.mv z1)),(qq iG (.ln .str jL)),(qq fT (.mv z0)),(qq j5 (.ln .slice kC)),(qq kv (.bi .sub kD (x6 1))),(qq jq (.bi .mul kz ll)),(qq gR (.bi .add jh kr)),(qq a5 (.mv kW))])
def Us:CC:=(.cond gb (.seq Uq Ur) .skip)
def Ut:CC:=(.reg [(qq j6 (.mv z0)),(qq jr (.ln .slice lh)),(qq kF (.mv (x6 0)))])
def Uu:CC:=(.reg [(qq jM (.bi .lss lq lm))])
def Uv:CC:=(.reg [(qq j7 (.iaS 1 lh lq)),(qq ky (.ld1 mW)),(qq a7 (.mv ny))])
def Uw:CC:=(.reg [(qq js (.mv z7)),(qq kX (.ln .str nG)),(qq kY (.mv z5)),(qq kB (.bi .sub (x6 9223372036854775807) nA)),(qq iB (.bi .gtr oD oE))])
def Ux:CC:=(.reg [(qq nC (.mki 9 (.c (.s 36 cw1)))),⟨none,.q (.bad),none⟩])
def Uy:CC:=(.seq Uw (.cond nH Ux .skip))
def Uz:CC:=(.reg [(qq kG (.mv z5)),(qq kH (.mv z7)),(qq j8 (.ln .str pS)),(qq nK (.bi .add pl pm)),(qq a5 (.mv pU))])
def UA:CC:=(.reg [(qq nL (.bi .add lq (x6 1))),(qq kF (.mv qO))])
def UB:CC:=(.seq (.cond lr .skip (.exit 1)) (.seq (.block 2 (.seq Uv (.seq Uy Uz))) UA))
def UC:CC:=(.reg [(aa a8 (.al 66 [.p0,.l0]))])
def UD:CC:=(.reg [(qq kI (.mv z5)),(ee lx (.call 93 [z8,pn]))])
def UE:CC:=(.reg [(qq lT (.mv z0)),(qq qa (.iaS 1 qU (x6 0))),(qq oI (.ld1 sB)),(ee qb (.call 23 [z8,sw]))])
def UF:CC:=(.reg [(qq pq (.mv z0)),(qq pj (.slL 1 sy (some (x6 1)) none none)),(qq qc (.ln .slice tC)),(qq qd (.mv (x6 0)))])
def UG:CC:=(.reg [(qq tG (.bi .lss uM yA))])
def UH:CC:=(.cond vn .skip (.exit 3))
def UI:CC:=(.reg [(qq tH (.iaS 1 tC uM)),(qq qQ (.ld1 xX)),(qq dp (.mv xY))])
def UJ:CC:=(.reg [(qq um (.mv z1)),(ee uo (.call 23 [z8,ya]))])
def UK:CC:=(.reg [(qq qX (.mv dx)),(ee vE (.call 23 [z8,yc]))])
def UL:CC:=(.reg [(qq y6 (.bi .add uM (x6 1))),(qq qd (.mv zL))])
def UM:CC:=(.seq UH (.seq (.block 4 (.seq UI (.seq UJ UK))) UL))
def UN:CC:=(.reg [(ee y7 (.call 28 [z8])),(qq a4 (.mv BB))])
def UO:CC:=(.seq (.seq UF (.block 3 (.loop (.seq UG UM)))) (.seq UN .ret))
def UP:CC:=(.seq (.seq Ut (.block 1 (.loop (.seq Uu UB)))) (.seq UC (.seq UD (.seq UE UO))))
def UQ:CC:=(.seq (.seq aY1 (.block 0 aY7)) (.seq aY8 (.seq (.seq Un Us) UP)))
def c54:CF:= .mk 7 [.t a4] (.seq aY0 UQ)
theorem e54(v0 v1:V):aU 7 [v0,v1]=(.n (.n mM (some v1) mM) (some v0) sc):=rfl
def Og:=ai @e54 (ai (wu aY0.eq_1) (ai (wu aY1.eq_1) (ai (wu aY2.eq_1) (ai (wu aY3.eq_1) (ai (wu aY4.eq_1) (ai (wu aY5.eq_1) (ai (wu aY6.eq_1) (ai (wu aY7.eq_1) (ai (wu aY8.eq_1) (ai (wu Un.eq_1) (ai (wu Uo.eq_1) (ai (wu Up.eq_1) (ai (wu Uq.eq_1) (ai (wu Ur.eq_1) (ai (wu Us.eq_1) (ai (wu Ut.eq_1) (ai (wu Uu.eq_1) (ai (wu Uv.eq_1) (ai (wu Uw.eq_1) (ai (wu Ux.eq_1) (ai (wu Uy.eq_1) (ai (wu Uz.eq_1) (ai (wu UA.eq_1) (ai (wu UB.eq_1) (ai (wu UC.eq_1) (ai (wu UD.eq_1) (ai (wu UE.eq_1) (ai (wu UF.eq_1) (ai (wu UG.eq_1) (ai (wu UH.eq_1) (ai (wu UI.eq_1) (ai (wu UJ.eq_1) (ai (wu UK.eq_1) (ai (wu UL.eq_1) (ai (wu UM.eq_1) (ai (wu UN.eq_1) (ai (wu UO.eq_1) (ai (wu UP.eq_1) (wu UQ.eq_1)))))))))))))))))))))))))))))))))))))))
def cR(l:List (List UInt8)):List (List V):=l.map fun w=>[sV w]
theorem tq{l:List (List UInt8)}(hs:bG F M c 1 v (cR l))(i:Nat)(hi:i<l.length):
 ∃b o,b<c∧(∀k,gf 1 v (.i k (i:Int))=some (.p b o))∧load1 F M b o=some (sV l[i]):=
 bG.one hs i (by simpa [cR]using hi) (by simp[cR])
theorem AX{l:List (List UInt8)}(hs:bG F M c 1 v (cR l)):l6 v=some (.i .i64 (l.length:Int)):=by
 have:=hs.len;rwa [cR,List.length_map]at this
def jS:List (List UInt8)→Nat
 |[]=>0
 |w::r=>w.length+1+jS r
theorem xC:∀(l:List (List UInt8)) (k:Nat),jS (l.take k)≤jS l
 |[],k=>by rw[List.take_nil];exact ak _
 |w::r,0=>aE _
 |w::r,k+1=>by rw[List.take_succ_cons,jS,jS];have:=xC r k;omega
theorem iS:∀(a b:List (List UInt8)),jS (a++b)=jS a+jS b
 |[],b=>by rw[List.nil_append,jS];omega
 |w::r,b=>by rw[List.cons_append,jS,jS,iS r b];omega
theorem Kz:∀(a:List (List UInt8)),a.length≤jS a
 |[]=>ak _
 |w::r=>by rw[aP,jS];have:=Kz r;omega
theorem AZ{l:List (List UInt8)}(h:i<l.length):l[i].length≤jS l:=by
 induction l generalizing i with
 |nil=>cases h
 |cons w r ih=>
  cases i with
  |zero=>rw[List.getElem_cons_zero,jS];omega
  |succ i=>rw[List.getElem_cons_succ,jS];have:=ih (i:=i) (by simpa using h);omega
def dE(s:List UInt8):List (List UInt8)→List UInt8
 |[]=>[]
 |w::r=>w++(r.map fun x=>s++x).flatten
theorem zb(s w:List UInt8)(r:List (List UInt8))(x:List UInt8):dE s (w::(r++[x]))=dE s (w::r)++s++x:=by
 simp[dE,List.map_append,List.flatten_append]
theorem XR(s:List UInt8):∀(w:List UInt8) (r:List (List UInt8)),(dE s (w::r)).length≤jS (w::r)+s.length*r.length:=by
 intro w r
 induction r generalizing w with
 |nil=>simp[dE,jS]
 |cons x r ih=>
  have:=ih x;simp only[dE,jS,List.map_cons,List.flatten_cons,aG,aP]at this⊢;rw[Nat.mul_add];omega
theorem jQ(s:List UInt8)(l:List (List UInt8)):(dE s l).length≤jS l+s.length*l.length:=by
 cases l with
 |nil=>simp[dE]
 |cons w r=>have:=XR s w r;rw[aP,Nat.mul_add];omega
theorem zc(s:List UInt8)(L:List (List UInt8))(i:Nat)(h:i+1<L.length):dE s (L.take (i+1+1))=dE s (L.take (i+1))++s++L[i+1]:=by
 cases L with
 |nil=>cases h
 |cons w r=>
  rw[List.take_succ_cons,List.take_succ_cons,List.getElem_cons_succ,List.take_succ_eq_append_getElem (by simpa using h),zb]
theorem JE(a b:Int)(h1: -9223372036854775808≤a-b)(h2:a-b<9223372036854775808):bX .sub (.i .i64 a) (.i .i64 b)=some (.i .i64 (a-b)):=by
 rw[sJ,eQ h1 h2]
theorem as9(a b:Nat)(hb:0<b)(ha:a<9223372036854775808):bX .quo (.i .i64 (a:Int)) (.i .i64 (b:Int))=some (.i .i64 ((a/b:Nat):Int)):=by
 have hle:a/b≤a:=Nat.div_le_self a b
 show(n8 .i64 (a:Int) (b:Int)).val=_
 unfold n8
 rw[du,ah (show¬((b:Int)=0) by omega),cond_false,fe,jg,←Int.ofNat_tdiv]
 generalize a/b=q at hle⊢
 rw[eQ (by omega) (by omega)];rfl
theorem r54(Φ:Nat→Option CF)(h:Φ 54=some c54)(h93:Φ 93=some c93)(h23:Φ 23=some O9)(h28:Φ 28=some WW)(h60:Φ 60=some En)(h120:Φ 120=some vP){l:List (List UInt8)}{s:List UInt8}(ok:cO F M c)(hs:bG F M c 1 v (cR l))
 (hl:jS l≤4000000) (hs1:1≤s.length) (hs2:s.length≤100):Calls Φ F 54 [v,sV s] M c fun r M' c'=>r=sV (dE s l)∧Gr c M c' M':=by
 refine ax h ?_
 have hn:=AX hs
 have hll:=Kz l
 match l,hs,hn,hl,hll with
 |[],hs,hn,hl,hll=>
  rw[bo]at hn;simp only[WX,Og,hn,Int.ofNat_zero];exact⟨rfl,Gr.refl ok⟩
 |[w],hs,hn,hl,hll=>
  obtain⟨b1,o1,_,ia1,ld1⟩:=tq hs 0 (by simp);have ia1:=ia1 .i64;rw[List.length_singleton]at hn;rw[Int.ofNat_zero]at ia1;rw[List.getElem_cons_zero]at ld1;simp only[WX,Int.reduceEq,Og,hn,Int.ofNat_one,ia1,ld1];exact⟨by simp[dE],Gr.refl ok⟩
 |w0::w1::r,hs,hn,hl,hll=>
  generalize hL:w0::w1::r=L at hs hn hl hll⊢;have hL2:2≤L.length:=by rw[←hL];simp
  have d0:decide ((L.length:Int)=0)=false:=ah (by omega);have d1:decide ((L.length:Int)=1)=false:=ah (by omega);have d2:decide ((0:Int)<(s.length:Int))=true:=af (by omega);have sb:bX .sub (.i .i64 (L.length:Int)) (.i .i64 1)=some (.i .i64 ((L.length-1:Nat):Int)):=by rw[JE _ _ (by omega) (by omega)];congr 2;omega
  have qu:=as9 9223372036854775807 (L.length-1) (by omega) (by omega);rw[show((9223372036854775807:Nat):Int)=9223372036854775807 from rfl]at qu;have hq:922337203685≤9223372036854775807/(L.length-1):=by
   rw[Nat.le_div_iff_mul_le (by omega)];have:922337203685*(L.length-1)≤922337203685*4000000:=Nat.mul_le_mul_left _ (by omega);omega
  have d3:decide (((9223372036854775807/(L.length-1):Nat):Int)≤(s.length:Int))=false:=ah (by omega);have hmb:s.length*(L.length-1)≤100*4000000:=Nat.mul_le_mul hs2 (by omega);have mu:bX .mul (.i .i64 (s.length:Int)) (.i .i64 ((L.length-1:Nat):Int))=some (.i .i64 ((s.length*(L.length-1):Nat):Int)):=by
   have:((s.length:Int)*((L.length-1:Nat):Int))=((s.length*(L.length-1):Nat):Int):=by rw[Int.natCast_mul]
   rw[mr _ _ (by rw[this];omega) (by rw[this];omega),this]
  have ad:bX .add (.i .i64 0) (.i .i64 ((s.length*(L.length-1):Nat):Int))=some (.i .i64 ((s.length*(L.length-1):Nat):Int)):=by rw[aN _ _ (by omega) (by omega)];simp
  simp only[WX,Og,hn,d0,d1,d2,sb,qu,d3,mu,ad];obtain⟨I1,hI1⟩:∃I:Nat→St→Prop,∀n s',I n s'↔(∃(i a:Nat) (u:List (Option V)),n=L.length-i∧i≤L.length∧s'= .mk ((cO2 u v (sV s) (.i .i64 (a:Int)) v (.i .i64 (L.length:Int)) (.i .i64 (i:Int)))) [] M c∧a≤400000000+jS (L.take i)):=⟨fun n s'=>_,fun _ _=>Iff.rfl⟩
  refine bD I1 ?_ L.length _ ((hI1 _ _).2 ⟨0,s.length*(L.length-1),(G2 (X2 (X1 (G1 (cw (X1 (G2 (G1 (bH (cj (X4 (X1 [])))))))))))),rfl,aE _,rfl,by omega⟩);intro n s' hIs;obtain⟨i,a,u,rfl,hi,rfl,ha⟩:=(hI1 _ _).1 hIs;clear hIs;have htk:=xC L i;by_cases hlt:i<L.length
  ·have e1:decide ((i:Int)<(L.length:Int))=true:=af (by omega);obtain⟨b1,o1,_,ia1,ld1⟩:=tq hs i hlt;have hge:=AZ hlt;have sb2:bX .sub (.i .i64 9223372036854775807) (.i .i64 (a:Int))=some (.i .i64 (9223372036854775807-(a:Int))):=JE _ _ (by omega) (by omega);have e2:decide ((9223372036854775807-(a:Int))<(L[i].length:Int))=false:=ah (by omega);have ad2:bX .add (.i .i64 (a:Int)) (.i .i64 (L[i].length:Int))=some (.i .i64 ((a+L[i].length:Nat):Int)):=by rw[aN _ _ (by omega) (by omega)];simp
   have q8:bX .add (.i .i64 (i:Int)) (.i .i64 1)=some (.i .i64 ((i+1:Nat):Int)):=by rw[aN _ _ (by omega) (by omega)];simp
   simp only[WX,Og,e1,ia1,ld1,sb2,e2,ad2,q8];refine⟨L.length-(i+1),by omega,(hI1 _ _).2 ⟨i+1,a+L[i].length,(G2 (X2 (X1 (G1 (cw (X1 (G2 (G1 (bH (cj (X4 (X1 [])))))))))))),rfl,by omega,rfl,?_⟩⟩;rw[List.take_succ_eq_append_getElem hlt,iS,jS,jS];omega
  ·have e1:decide ((i:Int)<(L.length:Int))=false:=ah (by omega);have gr0:Gr c M (c+1) (M.set c (au 66 [.p0,.l0])):=(Gr.refl ok).set c _ (ak _) (aD _) (aA _);have ok0:=gr0.ok ok;simp only[WX,Og,e1];refine aw ((r93 Φ h93 h60 h120 ok0 gr0 (ak _) (aD _) (am _ _ _) a (by omega)).mono ?_);rintro v1 M1 c1 ⟨bb,hb1,gr1,hle1,hfr1⟩;have cW:=gr1.ok ok;have hs1':=hs.grow gr1;obtain⟨b1,o1,hb1c,ia1,ld1⟩:=tq hs1' 0 (by omega);have ia1:=ia1 .i64;rw[Int.ofNat_zero]at ia1;simp only[WX,Og,ia1,ld1];have hg0:=AZ (l:=L) (i:=0) (by omega);refine aw ((r23 Φ h23 h60 cW gr1 hb1 L[0] (iu (by simp only[bo];omega))).mono ?_);rintro v2 M2 c2 ⟨bb2,hb2,gr2,hle2,_,_⟩;rw[List.nil_append]at hb2;have ok2:=gr2.ok ok;obtain⟨v3,⟨_,_,hsl,_⟩,hs3⟩:=YY (lo:=1) (hi:=(cR L).length) hs (by simp[cR];omega) (ak _);have hsl':D0 1 v (some (.i .i64 1)) none none=some v3:=congrArg QR.val (hsl rfl);have hs3':bG F M c 1 v3 (cR (L.drop 1)):=by
    rw[List.take_length,cR,←List.map_drop]at hs3;exact hs3
   have hn3:=AX hs3';rw[eL]at hn3;simp only[WX,Og,hsl',hn3];obtain⟨I2,hI2⟩:∃I:Nat→St→Prop,∀n s',I n s'↔(∃(i:Nat) (M3:Mem) (c1003 bb3:Nat) (u:List (Option V)),n=L.length-1-i∧i≤L.length-1∧s'= .mk ((cO3 u v (sV s) (.p c 0) v3 (.i .i64 ((L.length-1:Nat):Int)) (.i .i64 (i:Int)))) [] M3 c1003∧eB M3 c c1003 c bb3 (dE s (L.take (i+1)))∧Gr c M c1003 M3):=⟨fun n s'=>_,fun _ _=>Iff.rfl⟩
   refine bD I2 ?_ (L.length-1) _ ((hI2 _ _).2 ⟨0,M2,c2,bb2,(G2 (X4 (X2 (G1 (cw (cj (X4 (X2 (G2 (G1 (cw (cj (X8 (X4 (X1 []))))))))))))))),rfl,aE _,rfl,?_,gr2⟩)
   ·intro n s' hIs;obtain⟨i,M3,c1003,bb3,u,rfl,hi,rfl,hb3,gr3⟩:=(hI2 _ _).1 hIs;clear hIs;have hs4:=hs3'.grow gr3;have uZ:=gr3.ok ok;have hj:=jQ s (L.take (i+1));have hj2:=xC L (i+1);have hj3:s.length*(L.take (i+1)).length≤100*4000000:=Nat.mul_le_mul hs2 (by rw[List.length_take];omega);by_cases hlt:i<L.length-1
    ·have e1:decide ((i:Int)<((L.length-1:Nat):Int))=true:=af (by omega);obtain⟨b1004,o1004,hb4,ia4,ld4⟩:=tq hs4 i (by rw[eL];omega);have hge:(L.drop 1)[i]'(by rw[eL];omega)=L[i+1]:=by rw[List.getElem_drop];congr 1;omega
     rw[hge]at ld4;have hgl:=AZ (l:=L) (i:=i+1) (by omega);have q8:bX .add (.i .i64 (i:Int)) (.i .i64 1)=some (.i .i64 ((i+1:Nat):Int)):=by rw[aN _ _ (by omega) (by omega)];simp
     simp only[WX,Og,e1,ia4,ld4];refine aw ((r23 Φ h23 h60 uZ gr3 hb3 s (iu (by omega))).mono ?_);rintro v5 M5 c1005 ⟨bb5,hb5,gr5,hle5,_,_⟩;have Yf:=gr5.ok ok;simp only[WX,Og];refine aw ((r23 Φ h23 h60 Yf gr5 hb5 L[i+1] (iu (by rw[aG];omega))).mono ?_);rintro v6 M6 c1006 ⟨bb6,hb6,gr6,hle6,_,_⟩;simp only[WX,Og,q8];refine⟨L.length-1-(i+1),by omega,(hI2 _ _).2 ⟨i+1,M6,c1006,bb6,(G2 (X4 (X2 (G1 (cw (cj (X4 (X2 (G2 (G1 (cw (cj (X8 (X4 (X1 []))))))))))))))),rfl,by omega,rfl,?_,gr6⟩⟩;rw[zc s L i (by omega)];exact hb6
    ·have e1:decide ((i:Int)<((L.length-1:Nat):Int))=false:=ah (by omega);simp only[WX,Og,e1];refine aw ((r28 Φ h28 uZ gr3 hb3 (by omega)).mono ?_);rintro v5 M5 c1005 ⟨rfl,gr5,_,_⟩;simp only[WX];refine⟨?_,gr5⟩;rw[List.take_of_length_le (by omega)]
   ·rw[show L.take (0+1)=[L[0]] by rw[List.take_succ_eq_append_getElem (show 0<L.length by omega)];rfl]
    simpa [dE]using hb2
def gm(n:Nat):UInt8:=if n<10 then UInt8.ofNat (48+n)else UInt8.ofNat (87+n)
def uB(l:List UInt8):List UInt8:=l.flatMap fun b=>[gm (b.toNat/16),gm (b.toNat%16)]
def fh(l:List UInt8):List UInt8:=if l=[]then[46]else uB l
theorem kc(l:List UInt8):(uB l).length=2*l.length:=by
 induction l with
 |nil=>rfl
 |cons b r ih=>unfold uB at ih⊢;rw[List.flatMap_cons,aG,ih];simp;omega
def bC9:CC:=(.reg [(qq a4 (.mv (x6 0)))])
def bD0:CC:=(.reg [(qq a5 (.mv z0)),(qq a6 (.mv z1)),(qq a7 (.xib z5 z6)),(qq a4 (.mv z7))])
def cx7:CF:= .mk 4 [.t a4] (.seq bC9 (.seq bD0 .ret))
def bA9:CC:=(.reg [(qq a4 (.mv (x6 0)))])
def bB0:CC:=(.reg [(qq dL (.mv z1)),(qq dS (.ln .str eu)),(qq a5 (.mv dM))])
def bB1:CC:=(.reg [(qq eE (.mv z5)),(qq dT (.bi .eql eD (x6 0))),(qq eG (.mv fm)),(aH fF (.mv z1) eG),(aH eR (.mv z0) eG),(aH fv (.bi .eql fD gv) eG),(qq fl (.pk fS xT gb)),(qq dY (.mv gH))])
def bB6:CC:=(.reg [(qq a4 (.mv (x6 0)))])
def bB7:CC:=(.reg [(qq eV (.mv z5)),(qq eb (.bi .eql gO (x6 1))),(qq dU (.mv gw))])
def bB8:CC:=(.reg [(qq fG (.mv z0)),(qq gi (.mv z1)),(qq gg (.ixS iz (x6 0))),(ee gQ (.call 144 [gy,iA])),(qq a4 (.mv iE))])
def bB9:CC:=(.reg [(qq gj (.mv z5)),(qq iG (.mv z0)),(qq fT (.ln .str kz)),(qq j5 (.bi .geq jL kC)),(qq j4 (.mv kD))])
def bC0:CC:=(.reg [(qq a4 (.mv (x6 (-1))))])
def bC1:CC:=(.reg [(qq jq (.mv z5)),(qq gR (.ld1 (.c (.p 0 0)))),(qq j6 (.bi .leq kr kW)),(qq jr (.mv lh)),(av kF (.mv z0) jr),(av jM (.ln .str lq) jr),(av j7 (.bi .leq lr (x6 64)) jr),(qq ky (.pk lm mW xF)),(qq kv (.mv ny))])
def ah2:CC:=(.reg [(qq js (.mv z0)),(qq kX (.mv z1)),(qq kY (.bad)),(qq a4 (.mv nA))])
def ah3:CC:=(.cond ll (.seq ah2 .ret) .skip)
def ah4:CC:=(.cond jh (.seq bC0 .ret) (.seq bC1 ah3))
def ah5:CC:=(.cond gM (.seq bB8 .ret) (.seq bB9 ah4))
def ah6:CC:=(.cond eF (.seq bB6 .ret) (.seq bB7 ah5))
def ah7:CC:=(.reg [(qq kB (.mv z1)),(qq iB (.ixS oE (x6 0))),(qq a6 (.mv nH))])
def ah8:CC:=(.reg [(qq nC (.mv z1)),(qq kG (.ixS oF (x6 1))),(qq a7 (.mv pl))])
def ah9:CC:=(.reg [(qq a8 (.mv (x6 0)))])
def ai0:CC:=(.reg [(qq kH (.mv z0)),(qq j8 (.ln .str pS)),(qq nK (.mv z5)),(qq nL (.bi .sub pm pU)),(qq kI (.bi .add qO (x6 1))),(qq a9 (.mv pn))])
def ai1:CC:=(.reg [(qq dp (.mv (x6 0)))])
def ai2:CC:=(.reg [(qq lx (.mv z8)),(qq lT (.mv z9)),(qq qa (.bi .lss qT qU))])
def ai3:CC:=(.seq ai2 (.cond sB .skip (.exit 1)))
def ai4:CC:=(.reg [(qq oI (.mv z0)),(qq qb (.mv z8)),(qq pq (.ixS sw ug)),(qq pj (.mv z6)),(qq qc (.bi .neq sy tC))])
def ai5:CC:=(.reg [(qq qd (.mv z0)),(qq tG (.mv z8)),(qq tH (.bi .add vn (x6 1))),(qq qQ (.mv z9)),(qq um (.slS uM (some xX) (some xY))),(qq uo (.mv z6)),(ee qX (.call 144 [ya,yb])),(qq dk (.mv yc))])
def ai6:CC:=(.reg [(qq vE (.mv dC)),(qq y6 (.bi .lss Bz (x6 0)))])
def ai7:CC:=(.reg [(qq a4 (.mv (x6 (-1))))])
def ai8:CC:=(.cond zL (.seq ai7 .ret) .skip)
def ai9:CC:=(.reg [(qq y7 (.mv z8)),(qq yl (.mv dC)),(qq y8 (.bi .add BC (x6 1))),(qq zT (.bi .add BB BD)),(qq a8 (.mv Dp))])
def aj0:CC:=(.cond yA (.seq ai5 (.seq (.seq ai6 ai8) ai9)) .skip)
def aj1:CC:=(.reg [(qq BN (.mv z0)),(qq Gx (.mv z8)),(qq Dl (.bi .add z79 (x6 1))),(qq O3 (.ixS Gq z80)),(qq O4 (.mv z7)),(qq O5 (.bi .eql z81 z82)),(qq vF (.mv z83)),(av O6 (.mv z0) vF),(av O7 (.mv z8) vF),(av Ls (.mv z8) vF),(av O8 (.mv z5) vF),(av zU (.bi .add z87 z88) vF),(av OM (.slS z85 (some z86) (some z89)) vF),(av ON (.mv z1) vF),(av OO (.bi .eql z90 z91) vF),(qq OP (.pk z84 z92 xF))])
def aj2:CC:=(.reg [(qq Gy (.mv z8)),(qq a4 (.mv z94))])
def aj3:CC:=(.cond z93 (.seq aj2 .ret) .skip)
def aj4:CC:=(.reg [(qq OQ (.mv z8)),(qq OR (.bi .add z95 (x6 1))),(qq a8 (.mv z96))])
def aj5:CC:=(.reg [(qq OS (.mv dx)),(qq OT (.bi .add z97 (x6 1))),(qq dp (.mv z98))])
def aj6:CC:=(.reg [(qq Gz (.mv z5)),(qq vw (.ld1 (.c (.p 0 0)))),(qq pY (.bi .leq z99 Dg)),(qq pZ (.mv yz)),(av uj (.mv dx) pZ),(av vz (.mv z8) pZ),(eU BG (.call 146 [Gj]) pZ),(av BH (.bi .gtr Gi Gk) pZ),(qq jV (.pk Dh Gl xF))])
def aj7:CC:=(.reg [(qq Dv (.mv z0)),(qq BI (.mv z8)),(qq BJ (.slS Gn (some NE) none)),(qq yf (.mv z1)),(qq Dw (.bad)),(qq dy (.mv NF))])
def aj8:CC:=(.reg [(qq Dx (.mv dX)),(qq Dy (.bi .geq NG (x6 0)))])
def aj9:CC:=(.reg [(qq lw (.mv dX)),(qq yg (.mv z8)),(qq Dz (.bi .add NI NJ)),(qq a4 (.mv NK))])
def ak0:CC:=(.cond NH (.seq aj9 .ret) .skip)
def ak1:CC:=(.reg [(qq a4 (.mv (x6 (-1))))])
def ak2:CC:=(.seq aj7 (.seq (.seq aj8 ak0) (.seq ak1 .ret)))
def ak3:CC:=(.reg [(qq DA (.mv z5)),(qq DB (.ld1 (.c (.p 0 0)))),(qq DC (.bi .gtr NL NM)),(qq pi (.mv NN)),(av DD (.mv dx) pi),(av DE (.mv z8) pi),(av yh (.bi .shr NQ (.c (.i .u64 4))) pi),(av yi (.bi .add (x6 4) NR) pi),(av DF (.bi .geq NP NS) pi),(qq vA (.pk NO NT xF)),(qq yj (.mv NU)),(av yk (.mv z8) yj),(av DG (.mv z9) yj),(av DH (.bi .lss NX NY) yj),(qq DI (.pk NW NZ xF))])
def ak4:CC:=(.reg [(qq Lj (.mv z0)),(qq zQ (.mv z8)),(qq Lk (.slS ab4 (some ab5) none)),(qq Ll (.mv z1)),(ee Lm (.call 147 [ab6,ab7])),(qq dN (.mv ab8))])
def ak5:CC:=(.reg [(qq Ln (.mv dG)),(qq zR (.bi .lss ab9 (x6 0)))])
def ak6:CC:=(.reg [(qq a4 (.mv (x6 (-1))))])
def ak7:CC:=(.cond ac0 (.seq ak6 .ret) .skip)
def ak8:CC:=(.reg [(qq Lo (.mv z8)),(qq Lq (.mv dG)),(qq Lr (.bi .add ac1 ac2)),(qq a4 (.mv ac3))])
def ak9:CC:=(.seq ak4 (.seq (.seq ak5 ak7) (.seq ak8 .ret)))
def al0:CC:=(.cond O0 ak9 .skip)
def al3:CC:=(.cond Gm ak2 (.seq ak3 al0))
def al4:CC:=(.seq (.seq aj1 aj3) (.seq aj4 (.seq aj5 (.seq aj6 al3))))
def al5:CC:=(.seq ai3 (.block 2 (.seq (.seq ai4 aj0) al4)))
def al6:CC:=(.reg [(qq a4 (.mv (x6 (-1))))])
def al7:CC:=(.seq ai1 (.seq (.block 1 (.loop al5)) (.seq al6 .ret)))
def al8:CC:=(.seq ah7 (.seq ah8 (.seq ah9 (.seq ai0 al7))))
def al9:CC:=(.seq bB0 (.seq (.block 0 (.seq bB1 ah6)) al8))
def cx4:CF:= .mk 8 [.t a4] (.seq bA9 al9)
def ct7:CC:=(.reg [(qq a4 (.mv (.c (.s 0 0)))),(qq a5 (.mv (.c (.s 0 0)))),(qq a6 (.mv xF))])
def ct8:CC:=(.reg [(qq a8 (.mv z0)),(qq a9 (.mv z1)),(ee dp (.call 115 [z8,z9])),(qq a7 (.mv dx))])
def ct9:CC:=(.reg [(qq dk (.mv z7)),(qq dy (.bi .geq dC (x6 0)))])
def cu0:CC:=(.dreg 12 [(0,0,(qq dN (.mv z0))),(1,0,(qq dL (.mv z7))),(2,3,(qq dS (.slS dG none (some eu)))),(3,0,(qq dY (.mv z0))),(4,0,(qq eE (.mv z7))),(5,0,(qq dT (.mv z1))),(6,32,(qq eG (.ln .str fm))),(7,112,(qq fF (.bi .add eD fS))),(8,248,(qq eR (.slS eF (some fD) none))),(9,7,(qq a4 (.mv dM))),(10,1023,(qq a5 (.mv gv))),(11,2047,(qq a6 (.mv xT)))])
def cu1:CC:=(.seq ct9 (.cond dX (.seq cu0 .ret) .skip))
def cu2:CC:=(.reg [(qq fv (.mv z0)),(qq a4 (.mv gb)),(qq a5 (.mv (.c (.s 0 0)))),(qq a6 (.mv xF))])
def c87:CF:= .mk 5 [.t a4,.t a5,.t a6] (.seq ct7 (.seq (.seq ct8 cu1) (.seq cu2 .ret)))
def co9:CC:=(.reg [(qq a4 (.mv (.c (.s 0 0)))),(qq a5 (.mv (.c (.s 0 0)))),(qq a6 (.mv xF))])
def cp0:CC:=(.reg [(qq a7 (.mv z0)),(qq a8 (.mv z1)),(ee a9 (.call 87 [z7,z8])),(qq dp (.ex 0 z9)),(qq dk (.ex 1 z9)),(qq dy (.ex 2 z9)),(qq a4 (.mv dx)),(qq a5 (.mv dC)),(qq a6 (.mv dX))])
def c51:CF:= .mk 4 [.t a4,.t a5,.t a6] (.seq co9 (.seq cp0 .ret))
def bA6:CC:=(.reg [(qq a4 (.mv xF))])
def bA7:CC:=(.reg [(qq a5 (.mv z0)),(qq a6 (.ln .str z5)),(qq a7 (.mv z1)),(qq a8 (.ln .str z7)),(qq a9 (.bi .geq z6 z8)),(qq dp (.mv z9)),(av dk (.mv z0) dp),(av dy (.mv z1) dp),(av dN (.ln .str dX) dp),(av dL (.slS dC none (some dG)) dp),(av dS (.mv z1) dp),(av dY (.bi .eql eu dM) dp),(qq eE (.pk dx eF xF)),(qq a4 (.mv eD))])
def cw9:CF:= .mk 5 [.t a4] (.seq bA6 (.seq bA7 .ret))
theorem bH5(x:X)(lo hi:Option X)(M:Mem)(t:T):oM (.slS x lo hi) F M t=oV (D1 (x.ev t) (lo.map fun x=>x.ev t) (hi.map fun x=>x.ev t)):=by
 refine(ij ?_).trans (congrArg oV (bq7 (F:=F) x lo hi M t))
 intro F' M'
 refine nq ?_
 show((tY (x.ev t) QR.f fun n s=>kg n s (optN t 0 lo) (optN t n hi))= .f∨ ∃y,(tY (x.ev t) QR.f fun n s=>kg n s (optN t 0 lo) (optN t n hi))= .v y)
 cases x.ev t with
 |s n s=>
  show QV (kg n s (optN t 0 lo) (optN t n hi));generalize optN t 0 lo=a;generalize optN t n hi=b;cases a with
  |none=>exact .inl rfl
  |some a=>
   cases b with
   |none=>exact .inl rfl
   |some b=>
    show QV (Bool.rec (motive:=fun _=>QR) .f (Bool.rec (motive:=fun _=>QR) .f (vS (b-a) (s/256^a%256^(b-a))) (Nat.ble b n)) (Nat.ble a b));cases Nat.ble a b with
    |false=>exact .inl rfl
    |true=>
     cases Nat.ble b n with
     |false=>exact .inl rfl
     |true=>exact .inr ⟨_,by show vS _ _=_;unfold vS;rw[b9,b9]⟩
 |_=>exact .inl rfl
abbrev cO4(u:List (Option V))(x0 x3 x9 x10 x11:V):T:=(.n (.n (.n (fu u 15 7 23) (some x3) (.n (ia u 19) (some x11) (ia u 27))) (uO u 1) (.n (.n (ia u 17) (some x9) (ia u 25)) (uO u 5) (fu u 21 13 29))) (some x0) (.n (aq u 16 8 24 4 20 12 28) (uO u 2) (.n (.n (ia u 18) (some x10) (ia u 26)) (uO u 6) (fu u 22 14 30))))
def aO2:CC:=(.reg [(qq a6 (.mv z0)),(qq a7 (.ln .slice z6)),(qq a8 (.bi .eql z7 (x6 0)))])
def aO3:CC:=(.seq (.reg [(qq a2 (.mv (.c (.s 1 46))))]) .ret)
def aO4:CC:=(.reg [(aa a3 (.al 66 [.p0,.l0]))])
def aO5:CC:=(.reg [(qq a9 (.mv z0)),(qq dp (.ln .slice z9)),(qq dk (.mv (x6 0)))])
def aO6:CC:=(.reg [(qq dy (.bi .lss dC dx))])
def aO7:CC:=(.reg [(qq dN (.iaS 1 z9 dC)),(qq dL (.ld1 dG)),(qq a5 (.mv eu))])
def Ef:Nat:=136107713667768957684761770045455085872
def aO8:CC:=(.dreg 10 [(0,0,(qq dS (.mv z5))),(1,1,(qq dY (.bi .shr dM (.c (.i .u64 4))))),(2,3,(qq eE (.slS (.c (.s 16 Ef)) (some eF) none))),(3,7,(qq dT (.slS eD none (some (x6 1))))),(4,0,(qq eG (.mv z5))),(5,16,(qq fF (.bi .and fS (.c (.i .u8 15))))),(6,48,(qq eR (.slS (.c (.s 16 Ef)) (some fD) none))),(7,112,(qq fv (.slS gv none (some (x6 1))))),(8,255,(qq fl (.bi .add fm gb))),(9,511,(ee dU (.call 23 [z3,gH])))])
def aO9:CC:=(.reg [(qq eV (.bi .add dC (x6 1))),(qq dk (.mv gO))])
def aP0:CC:=(.seq (.cond dX .skip (.exit 0)) (.seq (.block 1 (.seq aO7 aO8)) aO9))
def SH:CC:=(.reg [(ee eb (.call 28 [z3])),(qq a2 (.mv gw))])
def SI:CC:=(.seq (.seq aO5 (.block 0 (.loop (.seq aO6 aP0)))) (.seq SH .ret))
def SJ:CC:=(.seq (.seq aO2 (.cond z8 aO3 .skip)) (.seq aO4 SI))
def SK:CC:=(.seq (.reg [(qq a2 (.mv (.c (.s 0 0))))]) SJ)
def WV:CF:= .mk 5 [.t a2] SK
theorem e26(v0:V):aU 5 [v0]=(.n lj (some v0) lj):=rfl
def B26:=ai @e26 (ai (wu aO2.eq_1) (ai (wu aO3.eq_1) (ai (wu aO4.eq_1) (ai (wu aO5.eq_1) (ai (wu aO6.eq_1) (ai (wu aO7.eq_1) (ai (wu aO8.eq_1) (ai (wu aO9.eq_1) (ai (wu aP0.eq_1) (ai (wu SH.eq_1) (ai (wu SI.eq_1) (ai (wu SJ.eq_1) (wu SK.eq_1)))))))))))))
theorem Ba(b:UInt8):bX .shr (.i .u8 (b.toNat:Int)) (.i .u64 4)=some (.i .u8 ((b.toNat/16:Nat):Int)):=by
 have h:=A8 .u8 .u64 (b.toNat:Int) 4
 rw[show(((4:Nat):Int))=4 from rfl,show en .u8 4=4 from rfl,Int.fdiv_eq_ediv_of_nonneg _ (Int.natCast_nonneg _)]at h
 exact h
theorem xN(b:UInt8):bX .and (.i .u8 (b.toNat:Int)) (.i .u8 15)=some (.i .u8 ((b.toNat%16:Nat):Int)):=by
 have hb:=UInt8.toNat_lt b
 have h2:toU .u8 (b.toNat:Int)=b.toNat:=by show((b.toNat:Int)%256).toNat=_;omega
 rw[Eh,h2,show toU .u8 15=2^4-1 from rfl,Nat.and_two_pow_sub_one_eq_mod,Bu]
 congr 2
 omega
theorem Eg(a b:List UInt8)(M:Mem):WG .add (sV a) (sV b) F M=oV (bX .add (sV a) (sV b)):=by
 refine(ij ?_).trans (congrArg oV (aB0 (F:=F) .add _ _ M .e))
 intro F' M'
 have key:∀n x m y,mO n x m y=oV (mO n x m y).val:=fun n x m y=>by
  unfold mO;cases Nat.ble (Nat.add n m) 1099511627776 with
  |false=>rfl
  |true=>show vS _ _=oV (vS _ _).val;unfold vS;rw[b9,b9];rfl
 exact key _ _ _ _
theorem Yl(h:cO F M c)(hc:c≤c'):cO F M c':=⟨fun y hy=>h.hiM y (by omega),fun y hy=>h.hiF y (by omega),h.ap,by have:=h.ge;omega⟩
def ww:List UInt8:=[48,49,50,51,52,53,54,55,56,57,97,98,99,100,101,102]
theorem as8(n:Nat)(h:n<16):(ww.drop n).take 1=[gm n]:=by
 have:∀n,n<16→(ww.drop n).take 1=[gm n]:=by decide
 exact this n h
theorem cq{l:List α}{j:Nat}(h:j<l.length):l.take (j+1)=l.take j++[l[j]]:=by rw[List.take_add_one,List.getElem?_eq_getElem h];rfl
theorem r26(Φ:Nat→Option CF)(h:Φ 26=some WV)(h23:Φ 23=some O9)(h28:Φ 28=some WW)(h60:Φ 60=some En)(ok:cO F M c)(hs:fC F M c v l)(hl:l.length≤400000):
 Calls Φ F 26 [v] M c fun r M' c'=>r=sV (fh l)∧Gr c M c' M':=by
 refine ax h ?_
 have hln:=hs.len
 by_cases h0:l=[]
 ·subst h0;rw[bo]at hln;simp only[WX,B26,hln,Int.ofNat_zero];exact⟨rfl,Gr.refl ok⟩
 ·have hpos:l.length≠0:=fun e=>h0 (List.length_eq_zero_iff.1 e);have d0:decide ((l.length:Int)=0)=false:=ah (by omega);simp only[WX,B26,hln,d0];have g0:=(Gr.refl ok).set c (au 66 [.p0,.l0]) (ak _) (aD _) (aA _);obtain⟨I,hI⟩:∃I:Nat→St→Prop,∀n s',I n s'↔(∃(i c1 bb:Nat) (M1:Mem) (u:List (Option V)),n=l.length-i∧i≤l.length∧s'= .mk ((cO4 u v (.p c 0) v (.i .i64 (l.length:Int)) (.i .i64 (i:Int)))) [] M1 c1∧Gr c M c1 M1∧eB M1 c c1 c bb (uB (l.take i))):=⟨fun n s'=>_,fun _ _=>Iff.rfl⟩
  refine bD I ?_ l.length _ ((hI _ _).2 ⟨0,c+1,c+1,_,(G1 (X2 (G1 (X4 (X1 (G2 (G1 (cj (X2 (X1 [])))))))))),rfl,aE _,rfl,g0,⟨ak _,aD _,by omega,.p0,.l0,am _ _ _,.inl rfl,.inl ⟨by rw[List.take_zero];rfl,rfl⟩⟩⟩);intro n s' hIs;obtain⟨i,c1,bb,M1,u,rfl,hi,rfl,g1,hb⟩:=(hI _ _).1 hIs;clear hIs;have cW:=g1.ok ok;by_cases hlt:i<l.length
  ·have d1:decide ((i:Int)<(l.length:Int))=true:=af (by omega);have q8:bX .add (.i .i64 (i:Int)) (.i .i64 1)=some (.i .i64 ((i+1:Nat):Int)):=by rw[aN _ _ (by omega) (by omega)];simp
   obtain⟨pb,po,hpb,hia,hld⟩:=hs.get i hlt;have hia:=hia .i64;have hld1:=(g1.load1 (F:=F) hpb po).trans hld;have htk:=cq hlt;generalize l[i]=x at hld hld1 htk;have hx:=UInt8.toNat_lt x;have e54:V.s 16 Ef=sV ww:=rfl;have s1:=Z0 ww .u8 (x.toNat/16) (by show _≤16;omega);have s2:=Z0 ww .u8 (x.toNat%16) (by show _≤16;omega);have s3:=bo6 (ww.drop (x.toNat/16)) .i64 1 (by rw[eL];show 1≤16-_;omega);have s4:=bo6 (ww.drop (x.toNat%16)) .i64 1 (by rw[eL];show 1≤16-_;omega);rw[as8 _ (by omega),show((1:Nat):Int)=1 from rfl]at s3 s4;have hcat:bX .add (sV [gm (x.toNat/16)]) (sV [gm (x.toNat%16)])=some (sV [gm (x.toNat/16),gm (x.toNat%16)]):=cL _ _ (by show 1+1≤1099511627776;decide);have a1:=Ba x;have a2:=xN x;simp only[WX,jz,B26,d1,hia,hld1,e54,a1,a2,bH5,s1,s2,s3,s4,Eg,hcat];have ok1':=Yl cW (show c1≤c1+10 by omega);refine iq ((r23 Φ h23 h60 ok1' (g1.trans ((Gr.refl cW).up (show c1≤c1+10 by omega))) (hb.up (show c1≤c1+10 by omega) fun x _=>rfl) [gm (x.toNat/16),gm (x.toNat%16)] (iu (by rw[kc,List.length_take];show _+2≤_;omega))).mono ?_);rintro r M2 c2 ⟨bb',hb2,g2,hle,_,_⟩;refine⟨(g2.ok ok).free,?_⟩;simp only[WX,B26,q8];refine⟨l.length-(i+1),by omega,(hI _ _).2 ⟨i+1,c2,bb',M2,(G1 (X2 (G1 (X4 (X1 (G2 (G1 (cj (X2 (X1 [])))))))))),rfl,hlt,rfl,g2,?_⟩⟩;rw[htk];have:uB (l.take i++[x])=uB (l.take i)++[gm (x.toNat/16),gm (x.toNat%16)]:=by unfold uB;rw[List.flatMap_append];rfl
   rw[this];exact hb2
  ·obtain rfl:i=l.length:=by omega
   have d1:decide ((l.length:Int)<(l.length:Int))=false:=ah (by omega);rw[List.take_length]at hb;simp only[WX,B26,d1];refine aw ((r28 Φ h28 cW g1 hb (by rw[kc];omega)).mono ?_);rintro r M2 c2 ⟨rfl,g2,_,_⟩;simp only[WX];refine⟨?_,g2⟩;unfold fh;rw[ab h0]
def Ro:CC:=(.reg [(qq a3 (.mv z0)),(qq a4 (.bi .geq z3 (.c (.i .u64 4294967296))))])
def Rq:CC:=(.reg [(qq a5 (.mv z0)),(qq a6 (.bi .shr z5 (.c (.i .u64 32)))),(qq a0 (.mv z6))])
def Rr:CC:=(.seq Rq (.reg [(qq a2 (.mv (x6 32)))]))
def Rt:CC:=(.reg [(qq a7 (.mv z0)),(qq a8 (.bi .geq z7 (.c (.i .u64 65536))))])
def Ru:CC:=(.reg [(qq a9 (.mv z0)),(qq dp (.bi .shr z9 (.c (.i .u64 16)))),(qq a0 (.mv dx))])
def Rv:CC:=(.reg [(qq dk (.mv z2)),(qq dy (.bi .add dC (x6 16))),(qq a2 (.mv dX))])
def Rw:CC:=(.seq Rt (.cond z8 (.seq Ru Rv) .skip))
def Rx:CC:=(.reg [(qq dN (.mv z0)),(qq dL (.bi .geq dG (.c (.i .u64 256))))])
def Ry:CC:=(.reg [(qq dS (.mv z0)),(qq dY (.bi .shr dM (.c (.i .u64 8)))),(qq a0 (.mv eF))])
def J8:CC:=(.reg [(qq eE (.mv z2)),(qq dT (.bi .add eD (x6 8))),(qq a2 (.mv fm))])
def J9:CC:=(.seq Rx (.cond eu (.seq Ry J8) .skip))
def bD3:Nat:=1013866857139168856493015739252390649739422828853819106890363778118420553376247557433637691341895324351018602695588957474325319502760499485336098898398377509666851054660423406800006203933793007272033180812049178612605246075062580585469430410618860250057463399279570354286669047577758927328864388992123306212451509403152394148136105363817402562688186708175358218852349079190158732807302672745370040257219644697201681238697346923541678507645485296520536209706771857694240900605172937619415410180424934769249448772944216470541052485265558808433676546390051204254346932932316488017972311616136051587427851453983453479168
def Ja:CC:=(.reg [(qq eG (.mv z2)),(qq fF (.mv z0)),(qq eR (.ci .u8 fD)),(qq fv (.ixS (.c (.s 256 bD3)) gv)),(qq fl (.ci .i64 gb)),(qq dU (.bi .add fS gH)),(qq a2 (.mv gM))])
def Jb:CC:=(.seq (.seq Ro (.cond z4 Rr .skip)) (.seq Rw (.seq J9 (.seq Ja .ret))))
def Jc:CC:=(.seq (.reg [(qq a2 (.mv (x6 0)))]) Jb)
def an8:CF:= .mk 5 [.t a2] Jc
theorem di4(v0:V):aU 5 [v0]=(.n lj (some v0) lj):=rfl
def BE:=ai @di4 (ai (wu Ro.eq_1) (ai (wu Rq.eq_1) (ai (wu Rr.eq_1) (ai (wu Rt.eq_1) (ai (wu Ru.eq_1) (ai (wu Rv.eq_1) (ai (wu Rw.eq_1) (ai (wu Rx.eq_1) (ai (wu Ry.eq_1) (ai (wu J8.eq_1) (ai (wu J9.eq_1) (ai (wu Ja.eq_1) (ai (wu Jb.eq_1) (wu Jc.eq_1))))))))))))))
def Rm:CC:=(.reg [(qq a3 (.mv z0)),(qq a4 (.bi .mul z3 (x6 78913))),(qq a5 (.bi .shr z4 (.c (.i .u64 18)))),(qq a2 (.mv z5))])
def Rn:CC:=(.seq (.reg [(qq a2 (.mv (x6 0)))]) (.seq Rm .ret))
def an7:CF:= .mk 3 [.t a2] Rn
theorem di3(v0:V):aU 3 [v0]=(.n nF (some v0) nF):=rfl
def de0:=ai @di3 (ai (wu Rm.eq_1) (wu Rn.eq_1))
def Rz:CC:=(.seq (.reg [(qq a2 (.mv (x6 1)))]) .ret)
def RA:CC:=(.seq (.reg [(qq a3 (.mv z0))]) (.cond z3 Rz .skip))
def RB:CC:=(.seq (.reg [(qq a2 (.mv (x6 0)))]) .ret)
def RD:CC:=(.seq (.reg [(qq a2 (.mv (x6 0)))]) (.seq RA RB))
def an9:CF:= .mk 3 [.t a2] RD
theorem di5(v0:V):aU 3 [v0]=(.n nF (some v0) nF):=rfl
def cf7:=ai @di5 (ai (wu Rz.eq_1) (ai (wu RA.eq_1) (ai (wu RB.eq_1) (wu RD.eq_1))))
def QX:CC:=(.reg [(qq a4 (.mv z0)),(ee a5 (.call 162 [z4])),(ee a6 (.call 161 [z5])),(qq a3 (.mv z6))])
def QY:CC:=(.reg [(qq a7 (.mv z3)),(qq a8 (.mv z0)),(qq a9 (.mv z3)),(qq dp (.iaA 20 1 (.c (.p 4 0)) z9)),(qq dk (.ld1 dx)),(qq dy (.bi .geq z8 dC)),(ee dN (.call 163 [dX])),(qq dL (.bi .add z7 dG)),(qq a2 (.mv eu))])
def QZ:CC:=(.seq (.reg [(qq a2 (.mv (x6 0)))]) (.seq QX (.seq QY .ret)))
def an5:CF:= .mk 4 [.t a2] QZ
theorem di0(v0:V):aU 4 [v0]=(.n iy (some v0) iy):=rfl
def cf6:=ai @di0 (ai (wu QX.eq_1) (ai (wu QY.eq_1) (wu QZ.eq_1)))
def QK:CC:=(.reg [(qq a3 (.mv z0)),(qq a4 (.bi .lss z3 (x6 10)))])
def bD4:Nat:=237927390410950444456928663707796224754864904193074819559483181009558347043374296609072
def QL:CC:=(.reg [(qq a5 (.mv z0)),(qq a6 (.mv z0)),(qq a7 (.bi .add z6 (x6 1))),(qq a8 (.slS (.c (.s 36 bD4)) (some z5) (some z7))),(qq a2 (.mv z8))])
def QM:CC:=(.seq QK (.cond z4 (.seq QL .ret) .skip))
def mf:Nat:=9938655150514779720929161263213647789093395803754561035662628441001274968862597953692946393464194303251501229616933063375291039650253924995779037586872666250072396106842829501851083234932712366962979930255066872747696324303968523733872590022915936937156789320557469720923390131174387415513794469201054844961267015441141542819553679203788501627738430154234325528792480477051962324423099068299719245009424585859096469223093538032153047611602695245052081125123941502624659711709950000
def QN:CC:=(.reg [(qq a9 (.mv z0)),(qq dp (.bi .mul z9 (x6 2))),(qq dk (.mv z0)),(qq dy (.bi .mul dC (x6 2))),(qq dN (.bi .add dX (x6 2))),(qq dL (.slS (.c (.s 200 mf)) (some dx) (some dG))),(qq a2 (.mv eu))])
def QP:CC:=(.seq (.reg [(qq a2 (.mv (.c (.s 0 0))))]) (.seq QM (.seq QN .ret)))
def an4:CF:= .mk 4 [.t a2] QP
theorem dh9(v0:V):aU 4 [v0]=(.n iy (some v0) iy):=rfl
def cf5:=ai @dh9 (ai (wu QK.eq_1) (ai (wu QL.eq_1) (ai (wu QM.eq_1) (ai (wu QN.eq_1) (wu QP.eq_1)))))
def nc:Nat→Nat→List UInt8
 |0,_=>[]
 |k+1,n=>nc k (n/10)++[UInt8.ofNat (48+n%10)]
def Y7:Nat→Nat→Nat
 |0,_=>1
 |f+1,n=>if n<10 then 1 else Y7 f (n/10)+1
def nd(n:Nat):Nat:=Y7 20 n
theorem wL:∀(k f n:Nat),(k=0∨10^k≤n)→n<10^(k+1)→k≤f→Y7 f n=k+1
 |0,0,_,_,_,_=>rfl
 |0,f+1,n,_,h,_=>ae h
 |k+1,0,n,_,_,h=>by omega
 |k+1,f+1,n,h1,h2,h1003=>by
  have h1:10^(k+1)≤n:=h1.resolve_left (Nat.succ_ne_zero k);have hp:=Nat.pow_pos (n:=k) (show 0<10 by decide);rw[Nat.pow_succ]at h1 h2;rw[Y7,ab (by omega),wL k f (n/10) (.inr (by omega)) (by omega) (by omega)]
def jc(n:Nat):List UInt8:=nc (nd n) n
def bT:Int→List UInt8
 | .ofNat n=>jc n
 | .negSucc n=>45::jc (n+1)
theorem ig:∀k n,(nc k n).length=k
 |0,n=>rfl
 |k+1,n=>by rw[nc,aG,ig k];rfl
def l8N:Nat:=bD3
def smN:Nat:=mf
def dgN:Nat:=bD4
def jY(x:Nat):Nat:=if x<1 then 0 else if x<2 then 1 else if x<4 then 2 else if x<8 then 3 else if x<16 then 4 else if x<32 then 5 else if x<64 then 6 else if x<128 then 7 else 8
theorem Mv:(List.range 256).all (fun x=>l8N/256^x%256==jY x)=true:=by decide+kernel
theorem bO5:(List.range 100).all (fun x=>(smN/256^(2*x)%256==48+x/10)&&(smN/256^(2*x+1)%256==48+x%10)&&(smN/256^(2*x)%256^2==(48+x/10)+256*(48+x%10)))=true:=by decide+kernel
theorem bG4:(List.range 10).all (fun x=>dgN/256^x%256^1==48+x)=true:=by decide+kernel
theorem XT(x:Nat)(h:x<256):l8N/256^x%256=jY x:=by
 have:=List.all_eq_true.1 Mv x (List.mem_range.2 h)
 simpa using this
theorem Z2(x:Nat)(h:x<100):smN/256^(2*x)%256=48+x/10∧smN/256^(2*x+1)%256=48+x%10∧smN/256^(2*x)%256^2=(48+x/10)+256*(48+x%10):=by
 have:=List.all_eq_true.1 bO5 x (List.mem_range.2 h)
 simp only[aC,beq_iff_eq]at this
 exact⟨this.1.1,this.1.2,this.2⟩
theorem cA0(x:Nat)(h:x<10):dgN/256^x%256^1=48+x:=by
 have:=List.all_eq_true.1 bG4 x (List.mem_range.2 h)
 simpa using this
theorem Aw(n s i:Nat)(k:IntKind)(h:i<n):Av (.s n s) (.i k (i:Int))=some (.i .u8 ((s/256^i%256:Nat):Int)):=by
 show(od n s i).val=_
 show(Bool.rec (motive:=fun _=>QR) QR.f (fN (Nat.mod (Nat.div s (jn i)) 256) fun c=>QR.v (.i .u8 (.ofNat c))) (Nat.blt i n)).val=_
 rw[bb,eT,ae (by simpa using h),b9];rfl
theorem tW(x:Nat)(k:IntKind)(h:x<256):Av (.s 256 bD3) (.i k (x:Int))=some (.i .u8 ((jY x:Nat):Int)):=by
 have:=Aw 256 l8N x k h
 rw[XT x h]at this
 exact this
theorem vN(n:Nat)(h:n<256):bV (UInt8.ofNat n)= .i .u8 (n:Int):=by
 show V.i .u8 ((UInt8.ofNat n).toNat:Int)=_
 rw[UInt8.toNat_ofNat',Nat.mod_eq_of_lt h]
theorem qt(x:Nat)(k:IntKind)(h:x<100):Av (.s 200 mf) (.i k ((2*x:Nat):Int))=some (bV (UInt8.ofNat (48+x/10))):=by
 have:=Aw 200 smN (2*x) k (by omega)
 rw[(Z2 x h).1]at this
 rw[vN _ (by omega)];exact this
theorem qw(x:Nat)(k:IntKind)(h:x<100):Av (.s 200 mf) (.i k ((2*x+1:Nat):Int))=some (bV (UInt8.ofNat (48+x%10))):=by
 have:=Aw 200 smN (2*x+1) k (by omega)
 rw[(Z2 x h).2.1]at this
 rw[vN _ (by omega)];exact this
theorem Kw(n s i j:Nat)(k k':IntKind)(h:i≤j)(h2:j≤n):D1 (.s n s) (some (.i k (i:Int))) (some (.i k' (j:Int)))=some (.s (j-i) (s/256^i%256^(j-i))):=by
 show(kg n s (some i) (some j)).val=_
 show(Bool.rec (motive:=fun _=>QR) .f (Bool.rec (motive:=fun _=>QR) .f (vS (j-i) (s/256^i%256^(j-i))) (Nat.ble j n)) (Nat.ble i j)).val=_
 rw[bb,bb,cE,cE,ae (by simpa using h),ae (by simpa using h2)]
 show(fN (j-i) fun n=>fN (s/256^i%256^(j-i)) fun x=>QR.v (.s n x)).val=_
 rw[b9,b9];rfl
theorem cN6(x:Nat)(h:x<10):D1 (.s 36 bD4) (some (.i .i64 (x:Int))) (some (.i .i64 ((x+1:Nat):Int)))=some (sV (jc x)):=by
 have:=Kw 36 dgN x (x+1) .i64 .i64 (by omega) (by omega)
 rw[show x+1-x=1 by omega,cA0 x h]at this
 refine this.trans ?_
 have e:jc x=[UInt8.ofNat (48+x)]:=by
  unfold jc;rw[show nd x=1 from wL 0 20 x (.inl rfl) h (by omega)];show[UInt8.ofNat (48+x%10)]=_;rw[Nat.mod_eq_of_lt h]
 rw[e]
 show _=some (V.s 1 ((UInt8.ofNat (48+x)).toNat+256*0))
 rw[UInt8.toNat_ofNat',Nat.mod_eq_of_lt (by omega)];rfl
theorem cN8(x:Nat)(h:x<100)(h1:10≤x):D1 (.s 200 mf) (some (.i .i64 ((2*x:Nat):Int))) (some (.i .i64 ((2*x+2:Nat):Int)))=some (sV (jc x)):=by
 have:=Kw 200 smN (2*x) (2*x+2) .i64 .i64 (by omega) (by omega)
 rw[show 2*x+2-2*x=2 by omega,(Z2 x h).2.2]at this
 refine this.trans ?_
 have e:jc x=[UInt8.ofNat (48+x/10),UInt8.ofNat (48+x%10)]:=by
  unfold jc;rw[show nd x=2 from wL 1 20 x (.inr h1) h (by omega)];show[UInt8.ofNat (48+x/10%10)]++[UInt8.ofNat (48+x%10)]=_;rw[Nat.mod_eq_of_lt (show x/10<10 by omega)];rfl
 rw[e]
 show _=some (V.s 2 ((UInt8.ofNat (48+x/10)).toNat+256*((UInt8.ofNat (48+x%10)).toNat+256*0)))
 rw[UInt8.toNat_ofNat',UInt8.toNat_ofNat',Nat.mod_eq_of_lt (show 48+x/10<2^8 by omega),Nat.mod_eq_of_lt (show 48+x%10<2^8 by omega)];rfl
def nE(n:Nat):Nat:=if n<256 then jY n else if n<65536 then 8+jY (n/256)else if n<16777216 then 16+jY (n/65536)else 24+jY (n/16777216)
def jm(n:Nat):Nat:=if n<4294967296 then nE n else 32+nE (n/4294967296)
theorem jj(x:Nat):jY x≤8:=by
 unfold jY;repeat' split
 all_goals omega
theorem B5(a n:Nat)(hn:n≤64):bX .shr (.i .u64 (a:Int)) (.i .u64 (n:Int))=some (.i .u64 ((a/2^n:Nat):Int)):=by
 rw[A8]
 have:en .u64 n=n:=by
  unfold en;rw[cE,af (show n≤kd .u64 from hn)];rfl
 rw[this,Int.fdiv_eq_ediv_of_nonneg _ (Int.natCast_nonneg _)];rfl
theorem mU(n:Nat)(h:n<256):IntKind.u8.wrap (n:Int)=(n:Int):=by rw[Bu];omega
theorem ei(n:Nat)(h:n<9223372036854775808):IntKind.i64.wrap (n:Int)=(n:Int):=eQ (by omega) (by omega)
theorem dx6(Φ:Nat→Option CF)(h:Φ 162=some an8)(n:Nat)(hn:n<18446744073709551616)(ct:Nat):To Φ 162 [.i .u64 (n:Int)] ct (.i .i64 (jm n:Int)):=by
 refine dw h ?_
 have s8:=fun a=>B5 a 8 (by omega)
 have Dn:=fun a=>B5 a 16 (by omega)
 have s32:=B5 n 32 (by omega)
 rw[show((8:Nat):Int)=8 from rfl,show(2:Nat)^8=256 from rfl]at s8
 rw[show((16:Nat):Int)=16 from rfl,show(2:Nat)^16=65536 from rfl]at Dn
 rw[show((32:Nat):Int)=32 from rfl,show(2:Nat)^32=4294967296 from rfl]at s32
 by_cases hs:n<4294967296
 ·have d0:decide ((4294967296:Int)≤(n:Int))=false:=ah (by omega);have hl:jm n=nE n:=ae hs;by_cases h0:n<256
  ·have d1:decide ((65536:Int)≤(n:Int))=false:=ah (by omega);have d2:decide ((256:Int)≤((n:Nat):Int))=false:=ah (by omega);have hb:=jj (n);have ha:bX .add (.i .i64 0) (.i .i64 (jY (n):Int))=some (.i .i64 ((0+jY (n):Nat):Int)):=by rw[aN _ _ (by omega) (by omega)];simp
   have e:jm n=0+jY (n):=by rw[hl];unfold nE;rw[ae h0];omega
   simp only[WX,BE,d0,d1,d2,mU (n) (by omega),tW (n) .u8 (by omega),ei (jY (n)) (by omega),ha,e]
  by_cases h1:n<65536
  ·have d1:decide ((65536:Int)≤(n:Int))=false:=ah (by omega);have d2:decide ((256:Int)≤((n:Nat):Int))=true:=af (by omega);have a2:bX .add (.i .i64 0) (.i .i64 8)=some (.i .i64 8):=aN 0 8 (by omega) (by omega);have hb:=jj (n/256);have ha:bX .add (.i .i64 8) (.i .i64 (jY (n/256):Int))=some (.i .i64 ((8+jY (n/256):Nat):Int)):=by rw[aN _ _ (by omega) (by omega)];simp
   have e:jm n=8+jY (n/256):=by rw[hl];unfold nE;rw[ab h0,ae h1]
   simp only[WX,BE,d0,d1,d2,s8,a2,mU (n/256) (by omega),tW (n/256) .u8 (by omega),ei (jY (n/256)) (by omega),ha,e]
  by_cases h2:n<16777216
  ·have d1:decide ((65536:Int)≤(n:Int))=true:=af (by omega);have d2:decide ((256:Int)≤((n/65536:Nat):Int))=false:=ah (by omega);have a1:bX .add (.i .i64 0) (.i .i64 16)=some (.i .i64 16):=aN 0 16 (by omega) (by omega);have hb:=jj (n/65536);have ha:bX .add (.i .i64 16) (.i .i64 (jY (n/65536):Int))=some (.i .i64 ((16+jY (n/65536):Nat):Int)):=by rw[aN _ _ (by omega) (by omega)];simp
   have e:jm n=16+jY (n/65536):=by rw[hl];unfold nE;rw[ab h0,ab h1,ae h2]
   simp only[WX,BE,d0,d1,d2,Dn,a1,mU (n/65536) (by omega),tW (n/65536) .u8 (by omega),ei (jY (n/65536)) (by omega),ha,e]
  have d1:decide ((65536:Int)≤(n:Int))=true:=af (by omega);have d2:decide ((256:Int)≤((n/65536:Nat):Int))=true:=af (by omega);have a1:bX .add (.i .i64 0) (.i .i64 16)=some (.i .i64 16):=aN 0 16 (by omega) (by omega);have a2:bX .add (.i .i64 16) (.i .i64 8)=some (.i .i64 24):=aN 16 8 (by omega) (by omega);have hb:=jj (n/65536/256);have ha:bX .add (.i .i64 24) (.i .i64 (jY (n/65536/256):Int))=some (.i .i64 ((24+jY (n/65536/256):Nat):Int)):=by rw[aN _ _ (by omega) (by omega)];simp
  have e:jm n=24+jY (n/65536/256):=by rw[hl];unfold nE;rw[ab h0,ab h1,ab h2];rw[show n/16777216=n/65536/256 by rw[Nat.div_div_eq_div_mul]]
  simp only[WX,BE,d0,d1,d2,s8,Dn,a1,a2,mU (n/65536/256) (by omega),tW (n/65536/256) .u8 (by omega),ei (jY (n/65536/256)) (by omega),ha,e]
 ·have d0:decide ((4294967296:Int)≤(n:Int))=true:=af (by omega);obtain⟨m,hm⟩:∃m,n/4294967296=m:=⟨_,rfl⟩
  have hm2:m<4294967296:=by omega
  have hl:jm n=32+nE m:=by unfold jm;rw[ab hs,hm]
  by_cases h0:m<256
  ·have d1:decide ((65536:Int)≤(m:Int))=false:=ah (by omega);have d2:decide ((256:Int)≤((m:Nat):Int))=false:=ah (by omega);have hb:=jj (m);have ha:bX .add (.i .i64 32) (.i .i64 (jY (m):Int))=some (.i .i64 ((32+jY (m):Nat):Int)):=by rw[aN _ _ (by omega) (by omega)];simp
   have e:jm n=32+jY (m):=by rw[hl];unfold nE;rw[ae h0]
   simp only[WX,BE,d0,s32,hm,d1,d2,mU (m) (by omega),tW (m) .u8 (by omega),ei (jY (m)) (by omega),ha,e]
  by_cases h1:m<65536
  ·have d1:decide ((65536:Int)≤(m:Int))=false:=ah (by omega);have d2:decide ((256:Int)≤((m:Nat):Int))=true:=af (by omega);have a2:bX .add (.i .i64 32) (.i .i64 8)=some (.i .i64 40):=aN 32 8 (by omega) (by omega);have hb:=jj (m/256);have ha:bX .add (.i .i64 40) (.i .i64 (jY (m/256):Int))=some (.i .i64 ((40+jY (m/256):Nat):Int)):=by rw[aN _ _ (by omega) (by omega)];simp
   have e:jm n=40+jY (m/256):=by rw[hl];unfold nE;rw[ab h0,ae h1];omega
   simp only[WX,BE,d0,s32,hm,d1,d2,s8,a2,mU (m/256) (by omega),tW (m/256) .u8 (by omega),ei (jY (m/256)) (by omega),ha,e]
  by_cases h2:m<16777216
  ·have d1:decide ((65536:Int)≤(m:Int))=true:=af (by omega);have d2:decide ((256:Int)≤((m/65536:Nat):Int))=false:=ah (by omega);have a1:bX .add (.i .i64 32) (.i .i64 16)=some (.i .i64 48):=aN 32 16 (by omega) (by omega);have hb:=jj (m/65536);have ha:bX .add (.i .i64 48) (.i .i64 (jY (m/65536):Int))=some (.i .i64 ((48+jY (m/65536):Nat):Int)):=by rw[aN _ _ (by omega) (by omega)];simp
   have e:jm n=48+jY (m/65536):=by rw[hl];unfold nE;rw[ab h0,ab h1,ae h2];omega
   simp only[WX,BE,d0,s32,hm,d1,d2,Dn,a1,mU (m/65536) (by omega),tW (m/65536) .u8 (by omega),ei (jY (m/65536)) (by omega),ha,e]
  have d1:decide ((65536:Int)≤(m:Int))=true:=af (by omega);have d2:decide ((256:Int)≤((m/65536:Nat):Int))=true:=af (by omega);have a1:bX .add (.i .i64 32) (.i .i64 16)=some (.i .i64 48):=aN 32 16 (by omega) (by omega);have a2:bX .add (.i .i64 48) (.i .i64 8)=some (.i .i64 56):=aN 48 8 (by omega) (by omega);have hb:=jj (m/65536/256);have ha:bX .add (.i .i64 56) (.i .i64 (jY (m/65536/256):Int))=some (.i .i64 ((56+jY (m/65536/256):Nat):Int)):=by rw[aN _ _ (by omega) (by omega)];simp
  have e:jm n=56+jY (m/65536/256):=by rw[hl];unfold nE;rw[ab h0,ab h1,ab h2];rw[show m/16777216=m/65536/256 by rw[Nat.div_div_eq_div_mul]];omega
  simp only[WX,BE,d0,s32,hm,d1,d2,s8,Dn,a1,a2,mU (m/65536/256) (by omega),tW (m/65536/256) .u8 (by omega),ei (jY (m/65536/256)) (by omega),ha,e]
def uy:List V→Option V
 |[.i .u64 (.ofNat n)]=>if n<18446744073709551616 then some (.i .i64 (jm n:Int))else none
 |_=>none
theorem Jy(h:n<18446744073709551616):uy [.i .u64 (n:Int)]=some (.i .i64 (jm n:Int)):=ae h
theorem at2(a n:Nat)(hn:n≤64):bX .shr (.i .i64 (a:Int)) (.i .u64 (n:Int))=some (.i .i64 ((a/2^n:Nat):Int)):=by
 rw[A8]
 have:en .i64 n=n:=by
  unfold en;rw[cE,af (show n≤kd .i64 from hn)];rfl
 rw[this,Int.fdiv_eq_ediv_of_nonneg _ (Int.natCast_nonneg _)];rfl
theorem dx5(Φ:Nat→Option CF)(h:Φ 161=some an7)(n:Nat)(hn:n<100)(ct:Nat):To Φ 161 [.i .i64 (n:Int)] ct (.i .i64 ((n*78913/262144:Nat):Int)):=by
 refine dw h ?_
 have h1:bX .mul (.i .i64 (n:Int)) (.i .i64 78913)=some (.i .i64 ((n*78913:Nat):Int)):=by rw[mr _ _ (by omega) (by omega)];simp
 have h2:=at2 (n*78913) 18 (by omega)
 rw[show((18:Nat):Int)=18 from rfl,show(2:Nat)^18=262144 from rfl]at h2
 simp only[WX,de0,h1,h2]
def ux:List V→Option V
 |[.i .i64 (.ofNat n)]=>if n<100 then some (.i .i64 ((n*78913/262144:Nat):Int))else none
 |_=>none
theorem Jx(h:n<100):ux [.i .i64 (n:Int)]=some (.i .i64 ((n*78913/262144:Nat):Int)):=ae h
theorem dx7(Φ:Nat→Option CF)(h:Φ 163=some an9)(b:Bool)(ct:Nat):To Φ 163 [.b b] ct (.i .i64 (if b=true then 1 else 0)):=by
 refine dw h ?_
 cases b
 ·simp only[WX,cf7]
 ·simp only[WX,cf7]
def uz:List V→Option V
 |[.b b]=>some (.i .i64 (if b=true then 1 else 0))
 |_=>none
theorem Jz(b:Bool):uz [.b b]=some (.i .i64 (if b=true then 1 else 0)):=rfl
theorem dx3(Φ:Nat→Option CF)(h:Φ 149=some an4)(n:Nat)(hn:n<100)(ct:Nat):To Φ 149 [.i .i64 (n:Int)] ct (sV (jc n)):=by
 refine dw h ?_
 by_cases h1:n<10
 ·have d:decide ((n:Int)<10)=true:=af (by omega);have ha:bX .add (.i .i64 (n:Int)) (.i .i64 1)=some (.i .i64 ((n+1:Nat):Int)):=by rw[aN _ _ (by omega) (by omega)];simp
  simp only[WX,cf5,d,ha,cN6 n h1]
 ·have d:decide ((n:Int)<10)=false:=ah (by omega);have hm:bX .mul (.i .i64 (n:Int)) (.i .i64 2)=some (.i .i64 ((2*n:Nat):Int)):=by rw[mr _ _ (by omega) (by omega)];simp;omega
  have ha:bX .add (.i .i64 ((2*n:Nat):Int)) (.i .i64 2)=some (.i .i64 ((2*n+2:Nat):Int)):=by rw[aN _ _ (by omega) (by omega)];simp
  simp only[WX,cf5,d,hm,ha,cN8 n hn (by omega)]
def wo:List V→Option V
 |[.i .i64 (.ofNat n)]=>if n<100 then some (sV (jc n))else none
 |_=>none
theorem as3(h:n<100):wo [.i .i64 (n:Int)]=some (sV (jc n)):=ae h
def AE:List Int:=[1,10,100,1000,10000,100000,1000000,10000000,100000000,1000000000,10000000000,100000000000,1000000000000,10000000000000,100000000000000,1000000000000000,10000000000000000,100000000000000000,1000000000000000000,10000000000000000000]
theorem am2:(List.range 256).all (fun x=>decide (x=0)||(decide (2^(jY x-1)≤x)&&decide (x<2^jY x)&&decide (1≤jY x)))=true:=by decide+kernel
theorem A9{x:Nat}(h:x<256)(h0:1≤x):1≤jY x∧2^(jY x-1)≤x∧x<2^jY x:=by
 have:=List.all_eq_true.1 am2 x (List.mem_range.2 h)
 simp only[Bool.or_eq_true,aC,decide_eq_true_eq]at this
 rcases this with h|⟨⟨h1,h2⟩,h1003⟩
 ·omega
 ·exact⟨h1003,h1,h2⟩
theorem oQ{L:Nat}(s:Nat)(h:1≤L∧2^(L-1)≤n/2^s∧n/2^s<2^L):1≤s+L∧2^(s+L-1)≤n∧n<2^(s+L):=by
 obtain⟨h1,h2,h1003⟩:=h
 have hp:=Nat.pow_pos (n:=s) (show 0<2 by decide)
 refine⟨by omega,?_,?_⟩
 ·rw[show s+L-1=(L-1)+s by omega,Nat.pow_add];exact(Nat.le_div_iff_mul_le hp).1 h2
 ·rw[Nat.add_comm,Nat.pow_add];exact(Nat.div_lt_iff_lt_mul hp).1 h1003
theorem JL(h:n<4294967296)(h0:1≤n):1≤nE n∧2^(nE n-1)≤n∧n<2^nE n:=by
 unfold nE
 split
 ·exact A9 (by omega) h0
 ·split
  ·exact oQ 8 (A9 (x:=n/256) (by omega) (by omega))
  ·split
   ·exact oQ 16 (A9 (x:=n/65536) (by omega) (by omega))
   ·exact oQ 24 (A9 (x:=n/16777216) (by omega) (by omega))
theorem JN(h:n<18446744073709551616)(h0:1≤n):1≤jm n∧2^(jm n-1)≤n∧n<2^jm n:=by
 unfold jm
 split
 ·exact JL (by omega) h0
 ·exact oQ 32 (JL (n:=n/4294967296) (by omega) (by omega))
theorem K2:(List.range 65).all (fun L=>decide (L*78913/262144<20)&&(AE[L*78913/262144]?==some ((10^(L*78913/262144):Nat):Int))&&decide (2^L≤10^(L*78913/262144+1))&&(decide (L*78913/262144=0)||decide (10^(L*78913/262144-1)≤2^(L-1))))=true:=by decide+kernel
theorem Ay(h:n<18446744073709551616):jm n≤64:=by
 have ha:∀m,nE m≤32:=fun m=>by
  have h1:=jj m;have h2:=jj (m/256);have h1003:=jj (m/65536);have h3:=jj (m/16777216);unfold nE;repeat' split
  all_goals omega
 have h1:=ha n;have h2:=ha (n/4294967296)
 unfold jm;split<;>omega
theorem Ya(n:Nat)(h1:1≤n)(h2:n<18446744073709551616):∃(t:Nat) (p:Nat),jm n*78913/262144=t∧AE[t]?=some (p:Int)∧t<20∧nd n=t+(if p≤n then 1 else 0):=by
 obtain⟨_,l1,l2⟩:=JN h2 h1
 have hl:=Ay h2
 have hc:=List.all_eq_true.1 K2 (jm n) (List.mem_range.2 (by omega))
 simp only[aC,Bool.or_eq_true,decide_eq_true_eq,beq_iff_eq]at hc
 obtain⟨⟨⟨c1,c2⟩,c1003⟩,c3⟩:=hc
 generalize jm n*78913/262144=t at c1 c2 c1003 c3⊢
 refine⟨t,10^t,rfl,c2,c1,?_⟩
 split
 ·rename_i hp;exact wL t 20 n (.inr hp) (by omega) (by omega)
 ·rename_i hp;rcases c3 with h0|c3
  ·subst h0;exact absurd h1 hp
  ·have ht:t≠0:=by rintro rfl;exact hp h1
   have:=wL (t-1) 20 n (.inr (by omega)) (by rw[Nat.sub_add_cancel (by omega)];omega) (by omega);show Y7 20 n=_;rw[this];omega
theorem mw(n:Nat)(h:n<18446744073709551616):1≤nd n∧nd n≤20∧n<10^nd n:=by
 by_cases h0:n=0
 ·subst h0;exact⟨by decide,by decide,by decide⟩
 obtain⟨_,l1,l2⟩:=JN h (show 1≤n by omega)
 have hl:=Ay h
 have hc:=List.all_eq_true.1 K2 (jm n) (List.mem_range.2 (by omega))
 simp only[aC,Bool.or_eq_true,decide_eq_true_eq,beq_iff_eq]at hc
 obtain⟨⟨⟨c1,c2⟩,c1003⟩,c3⟩:=hc
 obtain⟨t,p,e1,e2,e1003,e3⟩:=Ya n (by omega) h
 rw[e1]at c1 c2 c1003 c3
 rw[c2]at e2
 have e2:=Int.ofNat.inj (ag e2)
 subst e2
 by_cases hp:10^t≤n
 ·rw[ae hp]at e3;rw[e3];exact⟨by omega,by omega,by rw[Nat.pow_succ];rw[Nat.pow_succ]at c1003;omega⟩
 ·rw[ab hp]at e3;rw[e3];have ht:t≠0:=by rintro rfl;exact hp (by omega)
  exact⟨by omega,by omega,by rw[cT];omega⟩
def cD7(len sz:Nat)(x i:V):Option V:=(dh (.iaA len sz (.c x) (.c i)) [] .e .e).val
theorem Db(len sz:Nat)(x i:X)(M:Mem)(t:T):(dh (.iaA len sz x i) F M t).val=cD7 len sz (x.ev t) (i.ev t):=Eq.trans rfl (Eq.refl _)
theorem JF(len sz b o n:Nat)(k:IntKind)(h:n<len):cD7 len sz (.p b o) (.i k (n:Int))=some (.p b (o+n*sz)):=by
 show(yr sz b o len (n:Int)).val=_
 show(Bool.rec (motive:=fun _=>QR) .f (uX b (Nat.add o (Nat.mul n sz))) (Nat.blt n len)).val=_
 rw[bb,eT,ae (by simpa using h)]
 unfold uX
 rw[b9];rfl
theorem pc(a b:Nat)(hb:0<b)(ha:a<4294967296):bX .quo (.i .u32 (a:Int)) (.i .u32 (b:Int))=some (.i .u32 ((a/b:Nat):Int)):=by
 have hle:a/b≤a:=Nat.div_le_self a b
 show(n8 .u32 (a:Int) (b:Int)).val=_
 unfold n8
 rw[du,ah (show¬((b:Int)=0) by omega),cond_false,fe,jg,←Int.ofNat_tdiv,dF _ (by omega)];rfl
theorem pd(a b:Nat)(hb:0<b):bX .rem (.i .u32 (a:Int)) (.i .u32 (b:Int))=some (.i .u32 ((a%b:Nat):Int)):=by
 show(px .u32 (a:Int) (b:Int)).val=_
 unfold px
 rw[du,ah (show¬((b:Int)=0) by omega),cond_false,fe,←Int.ofNat_tmod];rfl
theorem dv5(Φ:Nat→Option CF)(h:Φ 150=some an5)(uy:Φ 162=some (.orc (aJ uy)))(ux:Φ 161=some (.orc (aJ ux)))(uz:Φ 163=some (.orc (aJ uz)))
 (ok:cO F M c) (ht:bn F L=true) (hp:(4,IntKind.u64,AE)∈L) (n:Nat) (h1:1≤n) (h2:n<18446744073709551616):Calls Φ F 150 [.i .u64 (n:Int)] M c fun r _ _=>r= .i .i64 (nd n:Int):=by
 obtain⟨t,p,e1,e2,e1003,e1004⟩:=Ya n h1 h2
 have hl:jm n<100:=by have:=Ay h2;omega
 have hld:=Zh (M:=M) ht ok.ap hp e2
 have hia:=JF 20 1 4 0 t .i64 (by omega)
 rw[show 0+t*1=t by omega]at hia
 refine ax h ?_
 by_cases hpn:p≤n
 ·have d:decide ((p:Int)≤(n:Int))=true:=af (by omega);rw[ae hpn]at e1004;have ha:bX .add (.i .i64 (t:Int)) (.i .i64 1)=some (.i .i64 ((t+1:Nat):Int)):=by rw[aN _ _ (by omega) (by omega)];simp
  simp only[WX,cf6,uy,ux,uz,Jy h2,Jx hl,Jz,e1,hia,hld,Db,d,ha,e1004]
 ·have d:decide ((p:Int)≤(n:Int))=false:=ah (by omega);rw[ab hpn]at e1004;have ha:bX .add (.i .i64 (t:Int)) (.i .i64 0)=some (.i .i64 ((t+0:Nat):Int)):=by rw[aN _ _ (by omega) (by omega)];simp
  simp only[WX,cf6,uy,ux,uz,Jy h2,Jx hl,Jz,e1,hia,hld,Db,d,ha,e1004]
abbrev Zb(u:List (Option V))(x0 x1 x7 x8:V):T:=(.n (.n (.n (.n (ia u 15) (some x7) (ia u 23)) (uO u 3) (fu u 19 11 27)) (some x1) (aq u 17 9 25 5 21 13 29)) (some x0) (.n (.n (.n (ia u 16) (some x8) (ia u 24)) (uO u 4) (fu u 20 12 28)) (uO u 2) (aq u 18 10 26 6 22 14 30)))
def bj1:CC:=(.reg [(aa a1 (.bx 114 2 z0)),(qq a2 (.mv xF))])
def bj2:CC:=(.reg [(qq a3 (.iaA 2 1 z1 (x6 0))),(qq a4 (.ld1 z3)),(qq a5 (.bi .lss z4 (x6 0))),(qq a6 (.mv z5)),(aH a7 (.iaA 2 1 z1 (x6 0)) a6),(aH a8 (.ld1 z7) a6),(aH a9 (.iaA 2 1 z1 (x6 1)) a6),(aH dp (.ld1 z9) a6),(aH dk (.bi .gtr z8 dx) a6),(qq dy (.pk z6 xT dC)),(qq a2 (.mv dX))])
def c95:CF:= .mk 4 [.t a2] (.seq bj1 (.seq bj2 .ret))
theorem e95(v0:V):aU 4 [v0]=(.n iy (some v0) iy):=rfl
def B95:=ai @e95 (ai (wu bj1.eq_1) (wu bj2.eq_1))
def PH:CC:=(.reg [(qq a4 (.mv (x6 0)))])
def PI:CC:=(.reg [(qq a6 (.mv z0)),(qq a7 (.ln .slice z6)),(qq a8 (.mv (x6 0)))])
def PJ:CC:=(.reg [(qq a9 (.bi .lss z8 z7))])
def PK:CC:=(.reg [(qq dp (.mv z8)),(qq a5 (.mv dx))])
def PL:CC:=(.reg [(qq dk (.mv z1)),(qq dy (.mv z0)),(qq dN (.mv z5)),(qq dL (.iaS 2 dX dG)),(qq dS (.ldn 2 eu)),(ee dY (.cv dC [dM]))])
def PM:CC:=(.reg [(qq eE (.mv z5)),(qq a4 (.mv eD))])
def PN:CC:=(.cond eF (.seq PM .ret) .skip)
def PO:CC:=(.reg [(qq dT (.bi .add z8 (x6 1))),(qq a8 (.mv fm))])
def PP:CC:=(.seq (.cond z9 .skip (.exit 0)) (.seq (.block 1 (.seq PK (.seq PL PN))) PO))
def H8:CC:=(.reg [(qq a4 (.mv (x6 (-1))))])
def H9:CC:=(.seq (.seq PI (.block 0 (.loop (.seq PJ PP)))) (.seq H8 .ret))
def Em:CF:= .mk 5 [.t a4] (.seq PH H9)
theorem dh2(v0 v1:V):aU 5 [v0,v1]=(.n (.n iy (some v1) iy) (some v0) lj):=rfl
def Oe:=ai @dh2 (ai (wu PH.eq_1) (ai (wu PI.eq_1) (ai (wu PJ.eq_1) (ai (wu PK.eq_1) (ai (wu PL.eq_1) (ai (wu PM.eq_1) (ai (wu PN.eq_1) (ai (wu PO.eq_1) (ai (wu PP.eq_1) (ai (wu H8.eq_1) (wu H9.eq_1)))))))))))
def bi9:CC:=(.reg [(qq a4 (.mv xF))])
def bj0:CC:=(.reg [(qq a5 (.mv z0)),(qq a6 (.mv z1)),(ee a7 (.call 121 [z5,z6])),(qq a8 (.bi .geq z7 (x6 0))),(qq a4 (.mv z8))])
def c94:CF:= .mk 4 [.t a4] (.seq bi9 (.seq bj0 .ret))
theorem e94(v0 v1:V):aU 4 [v0,v1]=(.n (.n nF (some v1) nF) (some v0) iy):=rfl
def B94:=ai @e94 (ai (wu bi9.eq_1) (wu bj0.eq_1))
def aY9:CC:=(.reg [(qq a3 (.mv z0)),(ee a4 (.call 94 [z3,(.c (.f 95 [] []))])),(qq a5 (.un .not z4)),(qq a2 (.mv z5))])
def aZ0:CC:=(.seq (.reg [(qq a2 (.mv xF))]) (.seq aY9 .ret))
def c55:CF:= .mk 3 [.t a2] aZ0
theorem e55(v0:V):aU 3 [v0]=(.n nF (some v0) nF):=rfl
def B55:=ai @e55 (ai (wu aY9.eq_1) (wu aZ0.eq_1))
def nn(l:List (Int×Int)):List (List V):=l.map fun p=>[.i .i64 p.1,.i .i64 p.2]
def uH(p:Int×Int):Bool:=decide (p.1<0)||decide (p.2<p.1)
theorem r95(Φ:Nat→Option CF)(h:Φ 95=some c95)(ok:cO F M c)(x y:Int):
 Calls Φ F 95 [.g [.i .i64 x,.i .i64 y]] M c fun r M' c'=>r= .b (uH (x,y))∧Gr c M c' M':=by
 refine ax h ?_
 have gX:=(Gr.refl ok).set c (au 114 [.i .i64 x,.i .i64 y]) (ak _) (aD _) (aA _)
 have hc0:(M.set c (au 114 [.i .i64 x,.i .i64 y])).get c=some (au 114 [.i .i64 x,.i .i64 y]):=am _ _ _
 have l0:=aj (F:=F) hc0 0
 have l1:=aj (F:=F) hc0 1
 have i0:=JF 2 1 c 0 0 .i64 (by decide)
 have i1:=JF 2 1 c 0 1 .i64 (by decide)
 rw[show 0+0*1=0 from rfl,Int.ofNat_zero]at i0
 rw[show 0+1*1=1 from rfl,Int.ofNat_one]at i1
 by_cases hx:x<0
 ·have d0:decide (x<0)=true:=af hx;simp only[WX,Nat.reduceAdd,B95,Db,i0,l0,d0];exact⟨by unfold uH;rw[d0];rfl,gX⟩
 ·have d0:decide (x<0)=false:=ah hx;simp only[WX,Nat.reduceAdd,B95,Db,i0,i1,l0,l1,d0];exact⟨by unfold uH;rw[d0];rfl,gX⟩
theorem dv1(Φ:Nat→Option CF)(h:Φ 121=some Em)(h95:Φ 95=some c95){l:List (Int×Int)}(ok:cO F M c)(hs:bG F M c 2 v (nn l))(hl:l.length≤1000000):
 Calls Φ F 121 [v,.f 95 [] []] M c fun r M' c'=>(∃z:Int,r= .i .i64 z∧(decide (0≤z)=l.any uH))∧Gr c M c' M':=by
 refine ax h ?_
 have hln:l6 v=some (.i .i64 (l.length:Int)):=by have:=hs.len;rwa [nn,List.length_map]at this
 simp only[WX,Oe,hln]
 obtain⟨I,hI⟩:∃I:Nat→St→Prop,∀n s',I n s'↔(∃(i c1:Nat) (M1:Mem) (u:List (Option V)),n=l.length-i∧i≤l.length∧s'= .mk ((Zb u v (.f 95 [] []) (.i .i64 (l.length:Int)) (.i .i64 (i:Int)))) [] M1 c1∧Gr c M c1 M1∧(l.take i).any uH=false):=⟨fun n s'=>_,fun _ _=>Iff.rfl⟩
 refine bD I ?_ l.length _ ((hI _ _).2 ⟨0,c,M,(G2 (X4 (X1 (G2 (cj (X4 (X2 []))))))),rfl,aE _,rfl,Gr.refl ok,rfl⟩)
 intro n s' hIs
 obtain⟨i,c1,M1,u,rfl,hi,rfl,g1,hno⟩:=(hI _ _).1 hIs
 clear hIs
 have cW:=g1.ok ok
 have q8:bX .add (.i .i64 (i:Int)) (.i .i64 1)=some (.i .i64 ((i+1:Nat):Int)):=by rw[aN _ _ (by omega) (by omega)];simp
 by_cases hlt:i<l.length
 ·have d1:decide ((i:Int)<(l.length:Int))=true:=af (by omega);obtain⟨pb,po,hpb,hia,hld⟩:=(hs.grow g1).at i (by rw[nn,List.length_map];exact hlt);have hia:=hia .i64;have htk:=cq hlt;have hge:(nn l)[i]'(by rw[nn,List.length_map];exact hlt)=[.i .i64 l[i].1,.i .i64 l[i].2]:=List.getElem_map ..;rw[hge]at hld;have hld:=hld.load (by simp);generalize l[i]=p at hld htk;have hld:loadN F M1 pb po 2=some [.i .i64 p.1,.i .i64 p.2]:=hld;simp only[WX,Oe,d1,hia,hld];refine aw ((r95 Φ h95 cW p.1 p.2).mono ?_);rintro r M2 c2 ⟨rfl,g2⟩;have hany:(l.take (i+1)).any uH=uH p:=by rw[htk,List.any_append,hno];simp
  have hcat:=List.take_append_drop (i+1) l;cases hp:uH (p.1,p.2)with
  |true=>
   simp only[WX,Oe];refine⟨⟨_,rfl,?_⟩,g1.trans g2⟩;rw[af (Int.natCast_nonneg i),←hcat,List.any_append,hany,show uH p=true from hp];rfl
  |false=>
   simp only[WX,Oe,q8];exact⟨l.length-(i+1),by omega,(hI _ _).2 ⟨i+1,c2,M2,(G2 (X4 (X1 (G2 (cj (X4 (X2 []))))))),rfl,hlt,rfl,g1.trans g2,hany.trans hp⟩⟩
 ·obtain rfl:i=l.length:=by omega
  have d1:decide ((l.length:Int)<(l.length:Int))=false:=ah (by omega);rw[List.take_length]at hno;simp only[WX,Oe,d1];exact⟨⟨_,rfl,by rw[hno];rfl⟩,g1⟩
theorem r94(Φ:Nat→Option CF)(h:Φ 94=some c94)(h121:Φ 121=some Em)(h95:Φ 95=some c95){l:List (Int×Int)}(ok:cO F M c)(hs:bG F M c 2 v (nn l))(hl:l.length≤1000000):
 Calls Φ F 94 [v,.f 95 [] []] M c fun r M' c'=>r= .b (l.any uH)∧Gr c M c' M':=by
 refine ax h ?_
 simp only[WX,B94]
 refine aw ((dv1 Φ h121 h95 ok hs hl).mono ?_)
 rintro r M1 c1 ⟨⟨z,rfl,hz⟩,g1⟩
 simp only[WX,hz]
 exact g1
def sA(p:Int×Int):Bool:=decide (0≤p.1∧p.1≤p.2)
theorem ag7(l:List (Int×Int)):(!l.any uH)=l.all sA:=by
 induction l with
 |nil=>rfl
 |cons p l ih=>
  rw[List.any_cons,List.all_cons,←ih,Bool.not_or]
  congr 1
  unfold uH sA;rw[Bool.not_or,←decide_not,←decide_not,Bool.decide_and]
  congr 1<;>(congr 1;apply propext;omega)
theorem r55(Φ:Nat→Option CF)(h:Φ 55=some c55)(h94:Φ 94=some c94)(h121:Φ 121=some Em)(h95:Φ 95=some c95){l:List (Int×Int)}(ok:cO F M c)(hs:bG F M c 2 v (nn l))(hl:l.length≤1000000):
 Calls Φ F 55 [v] M c fun r M' c'=>r= .b (l.all sA)∧Gr c M c' M':=by
 refine ax h ?_
 simp only[WX,B55]
 refine aw ((r94 Φ h94 h121 h95 ok hs hl).mono ?_)
 rintro r M1 c1 ⟨rfl,g1⟩
 simp only[WX,ag7]
 exact g1
abbrev bp2(u:List (Option V))(x0 x2 x3 x4 x5:V):T:=(.n (.n (.n (.n (aq u 63 31 95 15 79 47 111) (uO u 7) (aq u 71 39 103 23 87 55 119)) (some x3) (.n (aq u 67 35 99 19 83 51 115) (uO u 11) (aq u 75 43 107 27 91 59 123))) (uO u 1) (.n (.n (aq u 65 33 97 17 81 49 113) (uO u 9) (aq u 73 41 105 25 89 57 121)) (some x5) (.n (aq u 69 37 101 21 85 53 117) (uO u 13) (aq u 77 45 109 29 93 61 125)))) (some x0) (.n (.n (.n (aq u 64 32 96 16 80 48 112) (uO u 8) (aq u 72 40 104 24 88 56 120)) (some x4) (.n (aq u 68 36 100 20 84 52 116) (uO u 12) (aq u 76 44 108 28 92 60 124))) (some x2) (.n (.n (aq u 66 34 98 18 82 50 114) (uO u 10) (aq u 74 42 106 26 90 58 122)) (uO u 6) (.n (aq u 70 38 102 22 86 54 118) (uO u 14) (aq u 78 46 110 30 94 62 126)))))
abbrev bp3(u:List (Option V))(x0 x2 x7 x8 x9:V):T:=(.n (.n (.n (.n (aq u 63 31 95 15 79 47 111) (some x7) (aq u 71 39 103 23 87 55 119)) (uO u 3) (.n (aq u 67 35 99 19 83 51 115) (uO u 11) (aq u 75 43 107 27 91 59 123))) (uO u 1) (.n (.n (aq u 65 33 97 17 81 49 113) (some x9) (aq u 73 41 105 25 89 57 121)) (uO u 5) (.n (aq u 69 37 101 21 85 53 117) (uO u 13) (aq u 77 45 109 29 93 61 125)))) (some x0) (.n (.n (.n (aq u 64 32 96 16 80 48 112) (some x8) (aq u 72 40 104 24 88 56 120)) (uO u 4) (.n (aq u 68 36 100 20 84 52 116) (uO u 12) (aq u 76 44 108 28 92 60 124))) (some x2) (.n (.n (aq u 66 34 98 18 82 50 114) (uO u 10) (aq u 74 42 106 26 90 58 122)) (uO u 6) (.n (aq u 70 38 102 22 86 54 118) (uO u 14) (aq u 78 46 110 30 94 62 126)))))
abbrev cO6(u:List (Option V))(x0 x2 x7 x9 x10:V):T:=(.n (.n (.n (.n (aq u 63 31 95 15 79 47 111) (some x7) (aq u 71 39 103 23 87 55 119)) (uO u 3) (.n (aq u 67 35 99 19 83 51 115) (uO u 11) (aq u 75 43 107 27 91 59 123))) (uO u 1) (.n (.n (aq u 65 33 97 17 81 49 113) (some x9) (aq u 73 41 105 25 89 57 121)) (uO u 5) (.n (aq u 69 37 101 21 85 53 117) (uO u 13) (aq u 77 45 109 29 93 61 125)))) (some x0) (.n (.n (.n (aq u 64 32 96 16 80 48 112) (uO u 8) (aq u 72 40 104 24 88 56 120)) (uO u 4) (.n (aq u 68 36 100 20 84 52 116) (uO u 12) (aq u 76 44 108 28 92 60 124))) (some x2) (.n (.n (aq u 66 34 98 18 82 50 114) (some x10) (aq u 74 42 106 26 90 58 122)) (uO u 6) (.n (aq u 70 38 102 22 86 54 118) (uO u 14) (aq u 78 46 110 30 94 62 126)))))
abbrev cO7(u:List (Option V))(x0 x2 x7:V):T:=(.n (.n (.n (.n (aq u 63 31 95 15 79 47 111) (some x7) (aq u 71 39 103 23 87 55 119)) (uO u 3) (.n (aq u 67 35 99 19 83 51 115) (uO u 11) (aq u 75 43 107 27 91 59 123))) (uO u 1) (.n (.n (aq u 65 33 97 17 81 49 113) (uO u 9) (aq u 73 41 105 25 89 57 121)) (uO u 5) (.n (aq u 69 37 101 21 85 53 117) (uO u 13) (aq u 77 45 109 29 93 61 125)))) (some x0) (.n (.n (.n (aq u 64 32 96 16 80 48 112) (uO u 8) (aq u 72 40 104 24 88 56 120)) (uO u 4) (.n (aq u 68 36 100 20 84 52 116) (uO u 12) (aq u 76 44 108 28 92 60 124))) (some x2) (.n (.n (aq u 66 34 98 18 82 50 114) (uO u 10) (aq u 74 42 106 26 90 58 122)) (uO u 6) (.n (aq u 70 38 102 22 86 54 118) (uO u 14) (aq u 78 46 110 30 94 62 126)))))
def aM9:CC:=(.reg [(qq a5 (.mv z0)),(ee a6 (.call 60 [z5]))])
def aN0:CC:=(.reg [(qq a7 (.mv z0)),(qq a8 (.mv z0)),(qq a9 (.nck z8)),(qq dp (.fa 1 z9)),(qq dk (.ld1 dx)),(qq dy (.mv z1)),(aa dN (.bsl 5 1 1 [(.i .u8 0)] [(0,dX)])),(ee dL (.app 5 1 1 dC dG)),(qq dS (.nck z7)),(qq dY (.fa 1 dM)),(ez (.st 1 eF eu))])
def aN1:CC:=(.seq (.reg [(qq a4 (.mv (.c .a0)))]) .ret)
def aN2:CC:=(.seq (.reg [(qq a4 (.mv (.c .a0)))]) (.seq aM9 (.seq aN0 aN1)))
def c24:CF:= .mk 5 [.t a4] aN2
theorem e24(v0 v1:V):aU 5 [v0,v1]=(.n (.n iy (some v1) iy) (some v0) lj):=rfl
def B24:=ai @e24 (ai (wu aM9.eq_1) (ai (wu aN0.eq_1) (ai (wu aN1.eq_1) (wu aN2.eq_1))))
theorem ag9{y:V}{s:List UInt8}(hy:fC F M c y s):kZ F M c 5 1 1 v y=kZ F M c 5 1 1 v (sV s):=by
 unfold kZ
 rw[AU,ov Nat.one_pos hy,List.length_map,gK]
theorem lu.keep{bb:Nat}(h:lu M c0 c bb v l)(hc:c≤c')(hM:c0≤bb→bb<c→M'.get bb=M.get bb):lu M' c0 c' bb v l:=by
 rcases h with h|⟨h1,h2,n,h1003,h3,h1005⟩
 ·exact .inl h
 ·exact .inr ⟨h1,by omega,n,h1003,h3,by rw[hM h1 h2];exact h1005⟩
theorem r24(Φ:Nat→Option CF)(h:Φ 24=some c24)(h60:Φ 60=some En){bb:Nat}(ok:cO F M c)(hg:Gr c0 M0 c M)(hb:eB M c0 c b bb l)(x:UInt8)(hr:jJ (l.length+1) 1=true):
 Calls Φ F 24 [.p b 0,bV x] M c fun _ M' c'=>∃bb',eB M' c0 c' b bb' (l++[x])∧Gr c0 M0 c' M'∧c≤c'∧(∀y,y<c→y≠b→y≠bb→M'.get y=M.get y)∧(bb'=bb∨c≤bb'):=by
 obtain⟨k1,k2,k3,a,v,hM,ha,hbuf⟩:=hb
 refine ax h ?_
 simp only[WX,B24]
 refine aw ((r60 Φ h60 hM ha).mono ?_)
 rintro v1 M1 c1 ⟨rfl,rfl⟩
 have hg1:=hg.set b (au 66 [.p b 0,v]) k1 k2 (ak _)
 have g1:(M.set b (au 66 [.p b 0,v])).get b=some (au 66 [.p b 0,v]):=am _ _ _
 have l1:load1 F (M.set b (au 66 [.p b 0,v])) b 1=some v:=aj g1 1
 have hbuf1:lu (M.set b (au 66 [.p b 0,v])) c0 c1 bb v l:=hbuf.keep (ak _) fun _ _=>az _ _ (Ne.symm k3)
 have fb:flatten (bV x)=[bV x]:=rfl
 have ob:dD (bV x)=true:=rfl
 simp only[WX,B24,sq,iN,l1,fb,ob]
 have hM2:∀y,y≠b→(M.set b (au 66 [.p b 0,v])).get y=M.get y:=fun y hy=>az _ _ hy
 generalize M.set b (au 66 [.p b 0,v])=M2 at hg1 g1 l1 hbuf1 hM2⊢
 have hg2:=hg1.set c1 (cQ [.i .u8 0] 5 [bV x]) (by have:=hg.le;omega) (aD _) (aA _)
 have hy:fC F (M2.set c1 (cQ [.i .u8 0] 5 [bV x])) (c1+1) (.l c1 0 1 1) [x]:=qS (d:=[.i .u8 0]) (ty:=5) (am _ _ _) (by omega) (fun e he=>by obtain⟨x,_,rfl⟩:=List.mem_map.1 he;rfl) rfl
 rw[ag9 hy]
 have hbuf2:lu (M2.set c1 (cQ [.i .u8 0] 5 [bV x])) c0 (c1+1) bb v l:=hbuf1.keep (aA _) fun _ h=>az _ _ (by omega)
 refine aw ((WQ (F:=F) (s:=[x]) hbuf2 hg2 hr).mono ?_)
 rintro v3 M3 c1003 ⟨bb',hb3,hg3,hle,hfr,hbb⟩
 have g3:M3.get b=some (au 66 [.p b 0,v]):=by rw[hfr b (by omega) k3,az _ _ (by omega)];exact g1
 obtain⟨o1,o2,_⟩:=uR hb3
 have hst:=bS g3 1 [v3] (by simp) (by rw[d8,o1];rfl)
 simp only[WX,Nat.reduceAdd,B24,sq,iN,o2,hst]
 have hne:b≠bb':=by rcases hbb with h|h<;>omega
 refine⟨bb',⟨k1,by omega,hne,_,_,am _ _ _,.inr rfl,hb3.keep (ak _) fun _ _=>az _ _ (Ne.symm hne)⟩,hg3.set b _ k1 (by omega) (ak _),by omega,fun y hy hyb hyb2=>?_,by omega⟩
 rw[az _ _ hyb,hfr y (by omega) hyb2,az _ _ (by omega),hM2 y hyb]
def bj5:CC:=(.reg [(qq a3 (.mv xT)),(qq a4 (.mv xF))])
def d60:=wu bj5.eq_1
def bj6:CC:=(.reg [(qq a5 (.mv (x6 0)))])
def d61:=wu bj6.eq_1
def bj7:CC:=(.reg [(qq dk (.mv z5)),(qq dy (.mv z0)),(qq dN (.ln .str dX)),(qq dL (.bi .lss dC dG))])
def d62:=wu bj7.eq_1
def bj8:CC:=(.reg [(qq eE (.mv z0)),(qq dT (.mv z5)),(qq eG (.ixS eD fm)),(qq a6 (.mv fS))])
def d63:=wu bj8.eq_1
def bj9:CC:=(.reg [(qq fF (.mv z6)),(qq eR (.bi .geq fD (.c (.i .u8 128))))])
def d64:=wu bj9.eq_1
def bk0:CC:=(.reg [(qq a3 (.mv xF))])
def d65:=wu bk0.eq_1
def bk1:CC:=(.cond gv (.seq bk0 (.exit 0)) .skip)
def d66:=wu bk1.eq_1
def bk2:CC:=(.reg [(qq fv (.mv z4)),(qq fl (.mv gb)),(aH dU (.mv z6) fl),(aH eV (.bi .leq (.c (.i .u8 97)) gM) fl),(aH eb (.mv gO) fl),(av fG (.mv z6) eb),(av gi (.bi .leq gy (.c (.i .u8 122))) eb),(aH gg (.pk gw iz xF) fl),(qq gQ (.pk gH xT iA)),(qq a4 (.mv iE))])
def d67:=wu bk2.eq_1
def bk3:CC:=(.reg [(qq dS (.mv z5)),(qq dY (.bi .add dM (x6 1))),(qq a5 (.mv eF))])
def d68:=wu bk3.eq_1
def Wa:CC:=(.seq (.block 1 (.seq bj8 (.seq (.seq bj9 bk1) bk2))) bk3)
def c75:=wu Wa.eq_1
def Wb:CC:=(.seq (.seq bj7 (.cond eu .skip (.exit 0))) Wa)
def c77:=wu Wb.eq_1
def Wc:CC:=(.reg [(qq j4 (.mv z3))])
def c78:=wu Wc.eq_1
def Wd:CC:=(.reg [(qq gj (.mv z4)),(qq iG (.un .not jL))])
def c99:=wu Wd.eq_1
def We:CC:=(.reg [(qq fT (.mv z0)),(qq a2 (.mv kC))])
def ca0:=wu We.eq_1
def Wg:CC:=(.cond kz (.seq We .ret) .skip)
def ca2:=wu Wg.eq_1
def Wh:CC:=(.reg [(aa a7 (.al 66 [.p0,.l0]))])
def ca4:=wu Wh.eq_1
def Wi:CC:=(.reg [(qq a8 (.mv (x6 0)))])
def ca5:=wu Wi.eq_1
def Wj:CC:=(.reg [(qq j5 (.mv z0)),(qq kv (.ln .str kD)),(ee jq (.call 93 [z7,ll]))])
def ca6:=wu Wj.eq_1
def Wk:CC:=(.reg [(qq a9 (.mv (x6 0)))])
def ca7:=wu Wk.eq_1
def Wl:CC:=(.reg [(qq gR (.mv z9)),(qq j6 (.mv z0)),(qq jr (.ln .str lh)),(qq kF (.bi .lss kW lm))])
def xQ:=wu Wl.eq_1
def Wm:CC:=(.seq Wl (.cond lq .skip (.exit 2)))
def xR:=wu Wm.eq_1
def Wn:CC:=(.reg [(qq ky (.mv z0)),(qq js (.mv z9)),(qq kX (.ixS ny nG)),(qq dp (.mv oD))])
def G6:=wu Wn.eq_1
def Wo:CC:=(.reg [(qq kY (.mv dx)),(qq kB (.bi .leq (.c (.i .u8 97)) nA)),(qq iB (.mv oE)),(av nC (.mv dx) iB),(av kG (.bi .leq oF (.c (.i .u8 122))) iB),(qq kH (.pk nH pl xF))])
def G7:=wu Wo.eq_1
def Wq:CC:=(.reg [(qq j8 (.mv dx)),(qq nK (.bi .sub pm (.c (.i .u8 32)))),(qq dp (.mv pU))])
def G8:=wu Wq.eq_1
def Wr:CC:=(.reg [(qq nL (.mv z8)),(qq kI (.mv z9)),(qq lx (.bi .lss qO pn))])
def G9:=wu Wr.eq_1
def Ws:CC:=(.reg [(qq lT (.mv z0)),(qq qa (.mv z8)),(qq oI (.mv z9)),(qq qb (.slS qU (some sB) (some sw))),(ee pq (.call 23 [z7,ug]))])
def a07:=wu Ws.eq_1
def Wt:CC:=(.seq Wr (.cond qT Ws .skip))
def Ga:=wu Wt.eq_1
def E9:CC:=(.reg [(qq pj (.mv dx)),(ee qc (.call 24 [z7,tC]))])
def ca8:=wu E9.eq_1
def Ea:CC:=(.reg [(qq qd (.mv z9)),(qq tG (.bi .add uM (x6 1))),(qq a8 (.mv vn))])
def ca9:=wu Ea.eq_1
def Wu:CC:=(.cond pS (.seq Wq (.seq Wt (.seq E9 Ea))) .skip)
def Gb:=wu Wu.eq_1
def Eb:CC:=(.reg [(qq jM (.mv z9)),(qq j7 (.bi .add lr (x6 1))),(qq a9 (.mv mW))])
def cb0:=wu Eb.eq_1
def Wv:CC:=(.seq Wm (.seq (.block 3 (.seq Wn (.seq Wo Wu))) Eb))
def xS:=wu Wv.eq_1
def Ww:CC:=(.reg [(qq tH (.mv z8)),(qq qQ (.mv z0)),(qq um (.ln .str xY)),(qq uo (.bi .lss xX ya))])
def Gc:=wu Ww.eq_1
def Wx:CC:=(.reg [(qq qX (.mv z0)),(qq vE (.mv z8)),(qq y6 (.slS yc (some Bz) none)),(ee y7 (.call 23 [z7,zL]))])
def a08:=wu Wx.eq_1
def Ec:CC:=(.seq Ww (.cond yb Wx .skip))
def Gd:=wu Ec.eq_1
def A3:CC:=(.reg [(ee yl (.call 28 [z7])),(qq a2 (.mv BC))])
def cb2:=wu A3.eq_1
def Wy:CC:=(.seq (.seq Wk (.block 2 (.loop Wv))) (.seq Ec (.seq A3 .ret)))
def cb4:=wu Wy.eq_1
def Wz:CC:=(.seq (.seq Wd Wg) (.seq Wh (.seq Wi (.seq Wj Wy))))
def cb5:=wu Wz.eq_1
def WA:CC:=(.seq Wc (.cond jh Wz .skip))
def cb6:=wu WA.eq_1
def A4:CC:=(.reg [(qq y8 (.mv z0)),(ee zT (.call 105 [(.c (.f 123 [] [])),BD])),(qq a2 (.mv Dp))])
def cb7:=wu A4.eq_1
def WB:CC:=(.seq (.seq bj6 (.block 0 (.loop Wb))) (.seq WA (.seq A4 .ret)))
def cb8:=wu WB.eq_1
def WC:CC:=(.seq (.reg [(qq a2 (.mv (.c (.s 0 0))))]) (.seq bj5 WB))
def cb9:=wu WC.eq_1
def c97:CF:= .mk 7 [.t a2] WC
theorem e97(v0:V):aU 7 [v0]=(.n sc (some v0) sc):=rfl
def O1:=ai @e97 (ai @d60 (ai @d61 (ai @d62 (ai @d63 (ai @d64 (ai @d65 (ai @d66 (ai @d67 (ai @d68 (ai @c75 (ai @c77 (ai @c78 (ai @c99 (ai @ca0 (ai @ca2 (ai @ca4 (ai @ca5 (ai @ca6 (ai @ca7 (ai @xQ (ai @xR (ai @G6 (ai @G7 (ai @G8 (ai @G9 (ai @a07 (ai @Ga (ai @ca8 (ai @ca9 (ai @Gb (ai @cb0 (ai @xS (ai @Gc (ai @a08 (ai @Gd (ai @cb2 (ai @cb4 (ai @cb5 (ai @cb6 (ai @cb7 (ai @cb8 (@cb9))))))))))))))))))))))))))))))))))))))))))
def loU(b:UInt8):Bool:=decide (97≤b.toNat)&&decide (b.toNat≤122)
def vk(b:UInt8):UInt8:=if loU b=true then b-32 else b
theorem bP6{x:UInt8}(h:loU x=true):V.i .u8 ((x.toNat-32:Nat):Int)=bV (vk x):=by
 have h':=h
 unfold loU at h'
 rw[aC,decide_eq_true_eq,decide_eq_true_eq]at h'
 unfold vk
 rw[ae h,bV,UInt8.toNat_sub_of_le _ _ (by rw[UInt8.le_iff_toNat_le];show 32≤_;omega)];rfl
theorem bq1{x:UInt8}(h:loU x=false):vk x=x:=by unfold vk;rw[h];rfl
theorem ze:∀{l:List UInt8},l.any loU=false→l.map vk=l
 |[],_=>rfl
 |x::l,h=>by
  rw[List.any_cons,Bool.or_eq_false_iff]at h;rw[List.map_cons,bq1 h.1,ze h.2]
theorem xK{l:List α}{p:Nat}(hp:p≤i)(h:i<l.length):(l.take (i+1)).drop p=(l.take i).drop p++[l[i]]:=by
 rw[cq h,List.drop_append_of_le_length (by rw[List.length_take];omega)]
theorem r97(Φ:Nat→Option CF)(h:Φ 97=some c97)(h93:Φ 93=some c93)(h60:Φ 60=some En)(h23:Φ 23=some O9)(h24:Φ 24=some c24)(h28:Φ 28=some WW)(h120:Φ 120=some vP)(ok:cO F M c)(l:List UInt8)(hl:l.length≤1000000)(ha:∀x∈l,x.toNat<128):
 Calls Φ F 97 [sV l] M c fun r M' c'=>r=sV (l.map vk)∧Gr c M c' M':=by
 refine ax h ?_
 have hge:=ok.ge
 simp only[WX,O1]
 obtain⟨I,hI⟩:∃I:Nat→St→Prop,∀n s',I n s'↔(∃(i:Nat) (u:List (Option V)),n=l.length-i∧i≤l.length∧s'= .mk ((bp2 u (sV l) (.s 0 0) (.b true) (.b ((l.take i).any loU)) (.i .i64 (i:Int)))) [] M c):=⟨fun n s'=>_,fun _ _=>Iff.rfl⟩
 refine bD I ?_ l.length _ ((hI _ _).2 ⟨0,(G1 (X1 (G4 (bH (cw (cj (X8 (X1 [])))))))),rfl,aE _,rfl⟩)
 intro n s' hIs
 obtain⟨i,u,rfl,hi,rfl⟩:=(hI _ _).1 hIs
 clear hIs
 have q8:bX .add (.i .i64 (i:Int)) (.i .i64 1)=some (.i .i64 ((i+1:Nat):Int)):=by rw[aN _ _ (by omega) (by omega)];simp
 by_cases hlt:i<l.length
 ·have d1:decide ((i:Int)<(l.length:Int))=true:=af (by omega);have x1:=XQ l .i64 i hlt;have hx:=ha _ (List.getElem_mem hlt);have hany:(l.take (i+1)).any loU=((l.take i).any loU||loU l[i]):=by rw[cq hlt,List.any_append];simp
  have fin:∀(b:Bool) u,b=(l.take (i+1)).any loU→ ∃m<l.length-i,I m (.mk ((bp2 u (sV l) (.s 0 0) (.b true) (.b b) (.i .i64 ((i+1:Nat):Int)))) [] M c):=fun b u hb=>⟨l.length-(i+1),by omega,(hI _ _).2 ⟨i+1,u,rfl,hlt,by rw[hb]⟩⟩;rw[bV]at x1;have d2:decide ((128:Int)≤(l[i].toNat:Int))=false:=ah (by omega);cases hb:(l.take i).any loU with
  |true=>
   simp only[WX,O1,d1,x1,d2,q8];exact fin true (G1 (X1 (G4 (bH (cw (cj (X8 (X1 [])))))))) (by rw[hany,hb];rfl)
  |false=>
   by_cases h1:97≤l[i].toNat
   ·have d3:decide ((97:Int)≤(l[i].toNat:Int))=true:=af (by omega);simp only[WX,O1,d1,x1,d2,d3,q8];exact fin _ (G1 (X1 (G4 (bH (cw (cj (X8 (X1 [])))))))) (by rw[hany,hb];unfold loU;rw[af h1,Bool.false_or,Bool.true_and];congr 1;apply propext;omega)
   ·have d3:decide ((97:Int)≤(l[i].toNat:Int))=false:=ah (by omega);simp only[WX,O1,d1,x1,d2,d3,q8];exact fin _ (G1 (X1 (G4 (bH (cw (cj (X8 (X1 [])))))))) (by rw[hany,hb];unfold loU;rw[ah h1];rfl)
 obtain rfl:i=l.length:=by omega
 have d1:decide ((l.length:Int)<(l.length:Int))=false:=ah (by omega)
 rw[List.take_length]
 cases hb:l.any loU with
 |false=>
  simp only[WX,O1,d1];exact⟨by rw[ze hb],Gr.refl ok⟩
 |true=>
  simp only[WX,O1,d1];have g0:=(Gr.refl ok).set c (au 66 [.p0,.l0]) (ak _) (aD _) (aA _);refine aw ((r93 Φ h93 h60 h120 (g0.ok ok) g0 (ak _) (aD _) (am _ _ _) l.length (by omega)).mono ?_);rintro r M1 c1 ⟨bb,hb1,g1,le1,_⟩;simp only[WX,O1];obtain⟨I2,hI2⟩:∃I:Nat→St→Prop,∀n s',I n s'↔(∃(i pos c1 bb:Nat) (M1:Mem) (u:List (Option V)),n=l.length-i∧i≤l.length∧pos≤i∧s'= .mk ((bp3 u (sV l) (.s 0 0) (.p c 0) (.i .i64 (pos:Int)) (.i .i64 (i:Int)))) [] M1 c1∧Gr c M c1 M1∧eB M1 c c1 c bb ((l.take pos).map vk)∧(l.take i).map vk=(l.take pos).map vk++(l.take i).drop pos):=⟨fun n s'=>_,fun _ _=>Iff.rfl⟩
  refine bD I2 ?_ l.length _ ((hI2 _ _).2 ⟨0,0,c1,bb,M1,(G1 (X1 (G1 (X4 (G2 (G1 (bH (cw (cj (X4 (X1 []))))))))))),rfl,aE _,ak _,rfl,g1,hb1,rfl⟩);intro n s' hIs;clear hI;obtain⟨i,pos,c1,bb,M1,u,rfl,hi,hpi,rfl,g1,hb1,hmap⟩:=(hI2 _ _).1 hIs;clear hIs;have cW:=g1.ok ok;have q8:bX .add (.i .i64 (i:Int)) (.i .i64 1)=some (.i .i64 ((i+1:Nat):Int)):=by rw[aN _ _ (by omega) (by omega)];simp
  by_cases hlt:i<l.length
  ·have d1:decide ((i:Int)<(l.length:Int))=true:=af (by omega);have x1:=XQ l .i64 i hlt;have hx:=ha _ (List.getElem_mem hlt);have htk:=cq hlt;have htd:=xK hpi hlt;generalize l[i]=x at x1 hx htk htd;rw[bV]at x1;have hmap':(l.take (i+1)).map vk=(l.take pos).map vk++(l.take i).drop pos++[vk x]:=by rw[htk,List.map_append,hmap];rfl
   cases hlo:loU x with
   |false=>
    have fin:∀u,∃m<l.length-i,I2 m (.mk ((bp3 u (sV l) (.s 0 0) (.p c 0) (.i .i64 (pos:Int)) (.i .i64 ((i+1:Nat):Int)))) [] M1 c1):=fun u=>⟨l.length-(i+1),by omega,(hI2 _ _).2 ⟨i+1,pos,c1,bb,M1,u,rfl,hlt,by omega,rfl,g1,hb1,by rw[hmap',bq1 hlo,htd,cB]⟩⟩;unfold loU at hlo;by_cases h1:97≤x.toNat
    ·have d3:decide ((97:Int)≤(x.toNat:Int))=true:=af (by omega);rw[af h1,Bool.true_and,decide_eq_false_iff_not]at hlo;have d4:decide ((x.toNat:Int)≤122)=false:=ah (by omega);simp only[WX,O1,d1,x1,d3,d4,q8];exact fin (G1 (X1 (G1 (X4 (G2 (G1 (bH (cw (cj (X4 (X1 [])))))))))))
    ·have d3:decide ((97:Int)≤(x.toNat:Int))=false:=ah (by omega);simp only[WX,O1,d1,x1,d3,q8];exact fin (G1 (X1 (G1 (X4 (G2 (G1 (bH (cw (cj (X4 (X1 [])))))))))))
   |true=>
    have hlo':=hlo;unfold loU at hlo';rw[aC,decide_eq_true_eq,decide_eq_true_eq]at hlo';have d3:decide ((97:Int)≤(x.toNat:Int))=true:=af (by omega);have d4:decide ((x.toNat:Int)≤122)=true:=af (by omega);have s1:bX .sub (.i .u8 (x.toNat:Int)) (.i .u8 32)=some (bV (vk x)):=by rw[sJ,Bu,←bP6 hlo];congr 2;omega
    have hlen:((l.take pos).map vk).length=pos:=by rw[List.length_map,List.length_take];omega
    have hlen2:((l.take i).drop pos).length=i-pos:=by rw[eL,List.length_take];omega
    have last:∀(u:List (Option V)) M2 c2 b2,Gr c M c2 M2→eB M2 c c2 c b2 ((l.take pos).map vk++(l.take i).drop pos)→Wp (E9.seq Ea) (K Φ none 97 F) (.mk ((cO6 u (sV l) (.s 0 0) (.p c 0) (.i .i64 (i:Int)) (bV (vk x)))) [] M2 c2) (ic 3 (lR Eb (K Φ none 97 F) (oq I2 (l.length-i) (ic 2 (lR (Ec.seq (A3.seq .ret)) (K Φ none 97 F) (lR (A4.seq .ret) (K Φ none 97 F) (dA F [.t (.r .h)] fun r M' c'=>r=sV (l.map vk)∧Gr c M c' M'))))))):=by
     intro u M2 c2 b2 g2 hb2;simp only[WX,O1];refine aw ((r24 Φ h24 h60 (g2.ok ok) g2 hb2 (vk x) (iu (by rw[aG,hlen,hlen2];omega))).mono ?_);rintro r M3 c1003 ⟨b1003,hb3,g3,_,_,_⟩;simp only[WX,O1,q8];exact⟨l.length-(i+1),by omega,(hI2 _ _).2 ⟨i+1,i+1,c1003,b1003,M3,(G1 (X1 (G1 (X4 (G2 (G1 (bH (cw (cj (X4 (X1 []))))))))))),rfl,hlt,ak _,rfl,g3,by rw[hmap'];exact hb3,by rw[List.drop_eq_nil_of_le (by rw[List.length_take];omega),cu]⟩⟩
    by_cases hp:pos<i
    ·have d5:decide ((pos:Int)<(i:Int))=true:=af (by omega);have sl:=cN7 l .i64 .i64 pos i hpi hi;simp only[WX,xQ,xR,G6,G7,G8,G9,a07,Ga,Gb,xS,d1,x1,d3,d4,s1,d5,sl];refine aw ((r23 Φ h23 h60 cW g1 hb1 ((l.take i).drop pos) (iu (by rw[hlen,hlen2];omega))).mono ?_);rintro r M2 c2 ⟨b2,hb2,g2,_,_,_⟩;simp only[WX];rw[←bP];exact last (G1 (X1 (G1 (X4 (G1 (X1 (G2 (bH (cw (cj (X4 []))))))))))) M2 c2 b2 g2 hb2
    ·have d5:decide ((pos:Int)<(i:Int))=false:=ah (by omega);simp only[WX,xQ,xR,G6,G7,G8,G9,Ga,Gb,xS,d1,x1,d3,d4,s1,d5];rw[←bP];exact last (G1 (X1 (G1 (X4 (G1 (X1 (G2 (bH (cw (cj (X4 []))))))))))) M1 c1 bb g1 (by rw[List.drop_eq_nil_of_le (by rw[List.length_take];omega),cu];exact hb1)
  ·obtain rfl:i=l.length:=by omega
   have d1:decide ((l.length:Int)<(l.length:Int))=false:=ah (by omega);rw[List.take_length]at hmap;have hlen:((l.take pos).map vk).length=pos:=by rw[List.length_map,List.length_take];omega
   have last:∀(u:List (Option V)) M2 c2 b2,Gr c M c2 M2→eB M2 c c2 c b2 (l.map vk)→Wp (A3.seq .ret) (K Φ none 97 F) (.mk ((cO7 u (sV l) (.s 0 0) (.p c 0))) [] M2 c2) (lR (A4.seq .ret) (K Φ none 97 F) (dA F [.t (.r .h)] fun r M' c'=>r=sV (l.map vk)∧Gr c M c' M')):=by
    intro u M2 c2 b2 g2 hb2;simp only[WX,O1];refine aw ((r28 Φ h28 (g2.ok ok) g2 hb2 (by rw[List.length_map];omega)).mono ?_);rintro r M3 c1003 ⟨rfl,g3,_,_⟩;simp only[WX];exact g3
   by_cases hp:pos<l.length
   ·have d5:decide ((pos:Int)<(l.length:Int))=true:=af (by omega);have sl:=Z0 l .i64 pos (by omega);simp only[WX,xQ,xR,xS,Gc,a08,Gd,d1,d5,sl];refine aw ((r23 Φ h23 h60 cW g1 hb1 (l.drop pos) (iu (by rw[hlen,eL];omega))).mono ?_);rintro r M2 c2 ⟨b2,hb2,g2,_,_,_⟩;simp only[WX];rw[←hmap]at hb2;rw[←bP];exact last (G1 (X1 (G1 (X4 (G1 (bH (cw (cj (X4 (X2 (X1 []))))))))))) M2 c2 b2 g2 hb2
   ·have d5:decide ((pos:Int)<(l.length:Int))=false:=ah (by omega);simp only[WX,xQ,xR,xS,Gc,Gd,d1,d5];rw[List.drop_eq_nil_of_le (by omega),cu]at hmap;rw[←hmap]at hb1;rw[←bP];exact last (G1 (X1 (G1 (X4 (G1 (bH (cw (cj (X4 (X2 (X1 []))))))))))) M1 c1 bb g1 hb1
def cn0:CC:=(.reg [(qq a2 (.mv (.c .l0))),(qq a3 (.mv xF))])
def cn1:CC:=(.reg [(qq a8 (.mv z0)),(qq a5 (.mv z8))])
def cn2:CC:=(.reg [(qq a9 (.mv z5)),(qq dp (.ln .str z9)),(qq dk (.bi .gtr dx (x6 1)))])
def cn3:CC:=(.reg [(qq dS (.mv z5)),(qq dY (.slS dM none (some (x6 2)))),(ee eE (.call 72 [eF,(x6 16),(x6 8)])),(qq dL (.mv eD)),(qq dT (.ex 0 eu)),(qq eG (.ex 1 eu)),(qq a6 (.mv fm)),(qq a7 (.mv fS))])
def cn4:CC:=(.reg [(qq fF (.mv z4)),(qq eR (.mv z6)),(qq fv (.ci .u8 gv)),(aa fl (.bsl 5 1 1 [(.i .u8 0)] [(0,gb)])),(ee dU (.app 5 1 1 fD gH)),(qq a4 (.mv gM))])
def cn5:CC:=(.reg [(qq dy (.mv z5)),(qq dN (.slS dX (some (x6 2)) none)),(qq a5 (.mv dG))])
def cn6:CC:=(.seq (.seq cn2 (.cond dC .skip (.exit 0))) (.seq (.block 1 (.seq cn3 cn4)) cn5))
def cn7:CC:=(.reg [(qq eV (.mv z4)),(qq eb (.mv z4)),(ee fG (.call 26 [gw])),(qq gi (.mv z0)),(qq gg (.bi .eql gy iz)),(qq a2 (.mv gO)),(qq a3 (.mv iA))])
def cn8:CC:=(.seq (.seq cn1 (.block 0 (.loop cn6))) (.seq cn7 .ret))
def bD1:CC:=(.seq (.reg [(qq a4 (.mv (.c .l0)))]) cn8)
def c44:CF:= .mk 5 [.t a2,.t a3] (.seq cn0 bD1)
def cq6:CC:=(.reg [(qq a6 (.mv (.c (.i .u64 0)))),(qq a7 (.mv (.c .a0)))])
def cq7:CC:=(.reg [(qq dk (.mv z0)),(qq dy (.mv z1)),(qq dN (.mv z2)),(ee dL (.call 104 [dC,dX,dG])),(qq dp (.mv eu)),(qq dS (.ex 0 dx)),(qq dY (.ex 1 dx)),(qq a8 (.mv dM)),(qq a9 (.mv eF))])
def cq8:CC:=(.reg [(qq eE (.mv z9)),(qq dT (.eq true .iface true eD (.c .a0)))])
def cq9:CC:=(.reg [(qq eG (.mv z8)),(qq fF (.mv z0)),(qq eR (.mv z1)),(qq fv (.mv z2)),(qq fl (.mv z9)),(ee dU (.call 103 [(.c (.s 9 2147778296661251613008)),fD,gv,gb,gH])),(qq a6 (.mv fS)),(qq a7 (.mv gM))])
def cr0:CC:=(.seq cq8 (.cond fm (.seq cq9 .ret) .skip))
def cr1:CC:=(.reg [(qq eV (.mv z8)),(qq a6 (.mv gO)),(qq a7 (.mv (.c .a0)))])
def c72:CF:= .mk 5 [.t a6,.t a7] (.seq cq6 (.seq cq7 (.seq cr0 (.seq cr1 .ret))))
def hv(b:UInt8):Option Nat:=if 48≤b.toNat∧b.toNat≤57 then some (b.toNat-48)else if 97≤(b|||32).toNat∧(b|||32).toNat≤102 then some ((b|||32).toNat-87)else none
theorem ag0{bytes:Nat}{y:V}{ns:List (List V)}(h:cA M c0 c b ty sz v es)(ok:cO F M c)(h0:c0≤c)(hsz:0<sz)(hy:bG F M c sz y ns)(h1:bj ns.flatten=true)(hr:jJ (es.length+ns.length) bytes=true):
 tF (kZ F M c ty sz bytes v y) fun v' M' c'=>∃b',cA M' c0 c' b' ty sz v' (es++ns)∧cO F M' c'∧c≤c'∧(∀x,x<c0→M'.get x=M.get x):=by
 obtain⟨b1,hA1,hb1⟩:∃b1,cA M c0 c b1 ty sz v es∧((c0≤b1∧b1<c∧ ∃x,M.get b1=some x)∨c≤b1):=by
  rcases h with⟨a0,⟨a1,a2⟩|⟨a1,a2,a3,a4⟩⟩
  ·exact⟨c,⟨a0,.inl ⟨a1,a2⟩⟩,.inr (ak _)⟩
  ·exact⟨b,⟨a0,.inr ⟨a1,a2,a3,a4⟩⟩,.inl ⟨a1,a2,_,a4⟩⟩
 refine(eH (bytes:=bytes) hA1 ⟨h0,fun _ _=>rfl,ok.hiM⟩ hsz hy h1 hr).mono ?_
 rintro v' M' c' ⟨b',hA',g',hle,hf,hb'⟩
 have gx:Dt (fun x=>x=b1) c M c' M':=⟨hle,fun x a b=>hf x a b,g'.new⟩
 refine⟨b',hA',gx.ok ok fun x a e=>?_,hle,fun x hx=>g'.old x hx⟩
 rcases hb1 with⟨_,_,hm⟩|a2
 ·rw[e];exact hm
 ·omega
theorem cA.keep(h:cA M c0 c b ty sz v es)(hc:c≤c')(hM:∀x,c0≤x→x<c→M'.get x=M.get x):cA M' c0 c' b ty sz v es:=by
 rcases h with⟨h0,h|⟨h1,h2,rfl,h1003⟩⟩
 ·exact⟨h0,.inl h⟩
 ·exact⟨h0,.inr ⟨h1,by omega,rfl,by rw[hM b h1 h2];exact h1003⟩⟩
theorem DK(h:cA M c0 c b ty sz v es):dD v=true∧flatten v=[v]∧bj [v]=true:=by
 rcases h with⟨_,⟨_,rfl⟩|⟨_,_,rfl,_⟩⟩<;>exact⟨rfl,rfl,rfl⟩
abbrev cO5(u:List (Option V))(x0 x3 x4:V):T:=(.n (.n (.n (fu u 15 7 23) (some x3) (fu u 19 11 27)) (uO u 1) (aq u 17 9 25 5 21 13 29)) (some x0) (.n (.n (fu u 16 8 24) (some x4) (fu u 20 12 28)) (uO u 2) (aq u 18 10 26 6 22 14 30)))
def b56:CC:=(.reg [(qq a5 (.mv z0)),(qq a6 (.ln .slice z5)),(qq a7 (.bi .eql z6 (x6 0)))])
def b57:CC:=(.seq (.reg [(qq a2 (.mv (.c (.s 1 46))))]) .ret)
def b58:CC:=(.reg [(qq a4 (.mv (x6 0)))])
def b59:CC:=(.reg [(qq a8 (.mv z4)),(qq a9 (.mv z0)),(qq dp (.ln .slice z9)),(qq dk (.bi .lss z8 dx))])
def b60:CC:=(.dreg 16 [(0,0,(qq dL (.mv z3))),(1,0,(qq dS (.mv z0))),(2,0,(qq dY (.mv z4))),(3,6,(qq eE (.iaS 1 dM eF))),(4,14,(qq dT (.ld1 eD))),(5,30,(qq eG (.bi .shr fm (.c (.i .u64 4))))),(6,62,(qq fF (.ixS (.c (.s 16 Ef)) fS))),(7,0,(qq eR (.mv z0))),(8,0,(qq fv (.mv z4))),(9,384,(qq fl (.iaS 1 gv gb))),(10,896,(qq dU (.ld1 gH))),(11,1920,(qq eV (.bi .and gM (.c (.i .u8 15))))),(12,3968,(qq eb (.ixS (.c (.s 16 Ef)) gO))),(13,8190,(aa fG (.bsl 5 2 1 [(.i .u8 0)] [(0,fD),(1,gw)]))),(14,16383,(ee gi (.app 5 1 1 eu gy))),(15,32767,(qq a3 (.mv iz)))])
def b61:CC:=(.reg [(qq dy (.mv z4)),(qq dN (.bi .add dX (x6 1))),(qq a4 (.mv dG))])
def b62:CC:=(.seq (.seq b59 (.cond dC .skip (.exit 0))) (.seq (.block 1 b60) b61))
def b63:CC:=(.reg [(qq gg (.mv z3)),(qq gQ (.bs iA)),(qq a2 (.mv iE))])
def b64:CC:=(.seq (.seq b58 (.block 0 (.loop b62))) (.seq b63 .ret))
def V9:CC:=(.seq (.reg [(qq a3 (.mv (.c .l0)))]) b64)
def Va:CC:=(.seq (.seq b56 (.cond z7 b57 .skip)) V9)
def Vb:CC:=(.seq (.reg [(qq a2 (.mv (.c (.s 0 0))))]) Va)
def LM:CF:= .mk 5 [.t a2] Vb
theorem e66(v0:V):aU 5 [v0]=(.n lj (some v0) lj):=rfl
def B66:=ai @e66 (ai (wu b56.eq_1) (ai (wu b57.eq_1) (ai (wu b58.eq_1) (ai (wu b59.eq_1) (ai (wu b60.eq_1) (ai (wu b61.eq_1) (ai (wu b62.eq_1) (ai (wu b63.eq_1) (ai (wu b64.eq_1) (ai (wu V9.eq_1) (ai (wu Va.eq_1) (wu Vb.eq_1))))))))))))
def cr2:CC:=(.reg [(qq a4 (.mv (.c (.s 0 0)))),(qq a5 (.mv xF))])
def cr3:CC:=(.reg [(qq a6 (.mv z0)),(qq a7 (.mv z1)),(ee a8 (.call 107 [z6,z7])),(qq a9 (.un .not z8))])
def cr4:CC:=(.reg [(qq dp (.mv z0)),(qq a4 (.mv dx)),(qq a5 (.mv xF))])
def cr5:CC:=(.seq cr3 (.cond z9 (.seq cr4 .ret) .skip))
def cr6:CC:=(.reg [(qq dk (.mv z0)),(qq dy (.mv z1)),(qq dN (.ln .str dX)),(qq dL (.slS dC (some dG) none)),(qq a4 (.mv eu)),(qq a5 (.mv xT))])
def c74:CF:= .mk 4 [.t a4,.t a5] (.seq cr2 (.seq cr5 (.seq cr6 .ret)))
def cn9:CC:=(.reg [(qq a4 (.mv (.c (.s 0 0)))),(qq a5 (.mv xF))])
def co0:CC:=(.reg [(qq a6 (.mv z0)),(qq a7 (.mv z1)),(ee a8 (.call 74 [z6,z7])),(qq a9 (.ex 0 z8)),(qq dp (.ex 1 z8)),(qq a4 (.mv z9)),(qq a5 (.mv dx))])
def c46:CF:= .mk 4 [.t a4,.t a5] (.seq cn9 (.seq co0 .ret))
theorem JA(n:Nat)(h:n<16):Av (.s 16 Ef) (.i .u8 (n:Int))=some (bV (gm n)):=by
 have e54:V.s 16 Ef=sV ww:=rfl
 have hlen:ww.length=16:=rfl
 rw[e54,XQ ww .u8 n (by omega)]
 have:∀n,n<16→ww[n]?=some (gm n):=by decide
 have h2:=this n h
 rw[List.getElem?_eq_getElem (by omega)]at h2
 rw[ag h2]
theorem r66(Φ:Nat→Option CF)(h:Φ 66=some LM)(ok:cO F M c)(hs:fC F M c v l)(hl:l.length≤100000):
 Calls Φ F 66 [v] M c fun r M' c'=>r=sV (fh l)∧Gr c M c' M':=by
 refine ax h ?_
 have hln:=hs.len
 by_cases h0:l=[]
 ·subst h0;rw[bo]at hln;simp only[WX,B66,hln,Int.ofNat_zero];exact⟨rfl,Gr.refl ok⟩
 ·have hpos:l.length≠0:=fun e=>h0 (List.length_eq_zero_iff.1 e);have d0:decide ((l.length:Int)=0)=false:=ah (by omega);simp only[WX,B66,hln,d0];obtain⟨I,hI⟩:∃I:Nat→St→Prop,∀n s',I n s'↔(∃(i c1 b1:Nat) (acc:V) (M1:Mem) (u:List (Option V)),n=l.length-i∧i≤l.length∧s'= .mk ((cO5 u v acc (.i .i64 (i:Int)))) [] M1 c1∧Gr c M c1 M1∧cA M1 c c1 b1 5 1 acc ((uB (l.take i)).map fun x=>[bV x])):=⟨fun n s'=>_,fun _ _=>Iff.rfl⟩
  refine bD I ?_ l.length _ ((hI _ _).2 ⟨0,c,0,.l0,M,(G1 (X2 (G2 (cj (X8 (X2 [])))))),rfl,aE _,rfl,Gr.refl ok,cA.nil⟩);intro n s' hIs;obtain⟨i,c1,b1,acc,M1,u,rfl,hi,rfl,g1,hA⟩:=(hI _ _).1 hIs;clear hIs;have cW:=g1.ok ok;have g1l:=g1.le;by_cases hlt:i<l.length
  ·have d1:decide ((i:Int)<(l.length:Int))=true:=af (by omega);have q8:bX .add (.i .i64 (i:Int)) (.i .i64 1)=some (.i .i64 ((i+1:Nat):Int)):=by rw[aN _ _ (by omega) (by omega)];simp
   obtain⟨pb,po,hpb,hia,hld⟩:=hs.get i hlt;have hia:=hia .i64;have hld1:=(g1.load1 (F:=F) hpb po).trans hld;have htk:=cq hlt;have hlen:(l.take i).length=i:=by rw[List.length_take];omega
   generalize l[i]=x at hld hld1 htk;have hx:=UInt8.toNat_lt x;have a1:=Ba x;have a2:=xN x;have x1:=JA (x.toNat/16) (by omega);have x2:=JA (x.toNat%16) (by omega);have lk:(look F M1 (c1+13)).isNone=true:=by rw[cW.look (by omega)];rfl
   have fb:∀x,flatten (bV x)=[bV x]:=fun _=>rfl;have ob:∀x,dD (bV x)=true:=fun _=>rfl;have rf:cG (c1+13) [(10,pb),(4,pb)]=true:=by rw[cg _ _ _ _ (by omega),cg _ _ _ _ (by omega),ek]
   simp only[WX,Nat.reducePow,Nat.reduceDiv,Nat.reduceMod,Nat.reduceBEq,Nat.reduceAdd,B66,hln,d1,hia,hld1,a1,a2,x1,x2,lk,rf,Ge,wV,Lc,fb,ob];have grY:=(g1.up (c2:=c1+16) (by omega)).set (c2:=c1+16) (c1+13) (cQ [V.i .u8 0] 5 [bV (gm (x.toNat/16)),bV (gm (x.toNat%16))]) (by omega) (by omega) (ak _);have hy:bG F (M1.set (c1+13) (cQ [V.i .u8 0] 5 [bV (gm (x.toNat/16)),bV (gm (x.toNat%16))])) (c1+16) 1 (.l (c1+13) 0 2 2) ([gm (x.toNat/16),gm (x.toNat%16)].map fun x=>[bV x]):=qS (d:=[V.i .u8 0]) (ty:=5) (by rw[am];rfl) (by omega) (fun e he=>by obtain⟨x,_,rfl⟩:=List.mem_map.1 he;rfl) rfl;refine iq ((eH (bytes:=1) (hA.up (show c1≤c1+16 by omega) (fun hx=>az _ _ (by omega))) grY Nat.one_pos hy rfl (db (by rw[List.length_map,List.length_map,kc,hlen];simp only[aP,bo];omega) (by rw[List.length_map,List.length_map,kc,hlen];simp only[aP,bo];omega))).mono ?_);rintro v' M2 c2 ⟨b2,hA2,gr2,hle2,_,_⟩;refine⟨(gr2.ok ok).free,?_⟩;simp only[WX,B66,q8];refine⟨l.length-(i+1),by omega,(hI _ _).2 ⟨i+1,c2,b2,v',M2,(G1 (X2 (G2 (cj (X8 (X2 [])))))),rfl,by omega,rfl,gr2,?_⟩⟩;rw[htk];have:uB (l.take i++[x])=uB (l.take i)++[gm (x.toNat/16),gm (x.toNat%16)]:=by unfold uB;rw[List.flatMap_append];rfl
   rw[this,List.map_append];exact hA2
  ·obtain rfl:i=l.length:=by omega
   have d1:decide ((l.length:Int)<(l.length:Int))=false:=ah (by omega);rw[List.take_length]at hA;have hbs:=ri (F:=F) (show fC F M1 c1 acc (uB l)from hA.sl);simp only[WX,B66,hln,d1,hbs];exact⟨by unfold fh;rw[ab h0],g1⟩
abbrev bp4(u:List (Option V))(x0 x3 x9 x10 x11:V):T:=(.n (.n (.n (aq u 31 15 47 7 39 23 55) (some x3) (.n (fu u 35 19 51) (some x11) (fu u 43 27 59))) (uO u 1) (.n (.n (fu u 33 17 49) (some x9) (fu u 41 25 57)) (uO u 5) (aq u 37 21 53 13 45 29 61))) (some x0) (.n (.n (aq u 32 16 48 8 40 24 56) (uO u 4) (aq u 36 20 52 12 44 28 60)) (uO u 2) (.n (.n (fu u 34 18 50) (some x10) (fu u 42 26 58)) (uO u 6) (aq u 38 22 54 14 46 30 62))))
abbrev cO8(u:List (Option V))(x0 x3 x5 x9 x10 x11:V):T:=(.n (.n (.n (aq u 31 15 47 7 39 23 55) (some x3) (.n (fu u 35 19 51) (some x11) (fu u 43 27 59))) (uO u 1) (.n (.n (fu u 33 17 49) (some x9) (fu u 41 25 57)) (some x5) (aq u 37 21 53 13 45 29 61))) (some x0) (.n (.n (aq u 32 16 48 8 40 24 56) (uO u 4) (aq u 36 20 52 12 44 28 60)) (uO u 2) (.n (.n (fu u 34 18 50) (some x10) (fu u 42 26 58)) (uO u 6) (aq u 38 22 54 14 46 30 62))))
def aZ3:CC:=(.reg [(qq a6 (.mv z0)),(qq a7 (.ln .slice z6)),(qq a8 (.bi .eql z7 (x6 0)))])
def d01:=wu aZ3.eq_1
def aZ4:CC:=(.seq (.reg [(qq a2 (.mv (.c (.s 1 37))))]) .ret)
def d02:=wu aZ4.eq_1
def aZ5:CC:=(.reg [(aa a3 (.al 66 [.p0,.l0]))])
def d03:=wu aZ5.eq_1
def aZ6:CC:=(.reg [(qq a9 (.mv z0)),(qq dp (.ln .slice z9)),(qq dk (.mv (x6 0)))])
def d04:=wu aZ6.eq_1
def aZ7:CC:=(.reg [(qq dy (.bi .lss dC dx))])
def L6:=wu aZ7.eq_1
def aZ8:CC:=(.reg [(qq dN (.iaS 1 z9 dC)),(qq dL (.ld1 dG)),(qq a5 (.mv eu))])
def L7:=wu aZ8.eq_1
def aZ9:CC:=(.reg [(qq dS (.mv z5)),(qq dY (.bi .gtr dM (.c (.i .u8 32)))),(qq eE (.mv eF)),(av dT (.mv z5) eE),(av eG (.bi .lss fm (.c (.i .u8 127))) eE),(qq fF (.pk eD fS xF)),(qq eR (.mv fD)),(av fv (.mv z5) eR),(av fl (.bi .neq gb (.c (.i .u8 37))) eR),(qq dU (.pk gv gH xF))])
def L8:=wu aZ9.eq_1
def b00:CC:=(.reg [(qq eV (.mv z5)),(ee eb (.call 24 [z3,gO]))])
def d05:=wu b00.eq_1
def UW:CC:=(.reg [(qq fG (.mv z5)),(aa gi (.bsl 5 1 1 [(.i .u8 0)] [(0,gy)])),(ee gg (.call 26 [iz])),(ee gQ (.call 97 [iA])),(qq j4 (.bi .add (.c (.s 1 37)) iE)),(ee gj (.call 23 [z3,jh]))])
def d06:=wu UW.eq_1
def UR:CC:=(.seq aZ9 (.cond gM b00 UW))
def Bq:=wu UR.eq_1
def E6:CC:=(.reg [(qq iG (.bi .add dC (x6 1))),(qq dk (.mv kz))])
def c01:=wu E6.eq_1
def US:CC:=(.seq (.cond dX .skip (.exit 0)) (.seq (.block 1 (.seq aZ8 UR)) E6))
def Br:=wu US.eq_1
def E7:CC:=(.reg [(ee fT (.call 28 [z3])),(qq a2 (.mv kC))])
def c02:=wu E7.eq_1
def UT:CC:=(.seq (.seq aZ6 (.block 0 (.loop (.seq aZ7 US)))) (.seq E7 .ret))
def c03:=wu UT.eq_1
def UU:CC:=(.seq (.seq aZ3 (.cond z8 aZ4 .skip)) (.seq aZ5 UT))
def c04:=wu UU.eq_1
def UV:CC:=(.seq (.reg [(qq a2 (.mv (.c (.s 0 0))))]) UU)
def c05:=wu UV.eq_1
def c57:CF:= .mk 6 [.t a2] UV
theorem e57(v0:V):aU 6 [v0]=(.n mM (some v0) mM):=rfl
def B57:=ai @e57 (ai @d01 (ai @d02 (ai @d03 (ai @d04 (ai @L6 (ai @L7 (ai @L8 (ai @d05 (ai @d06 (ai @Bq (ai @c01 (ai @Br (ai @c02 (ai @c03 (ai @c04 (@c05))))))))))))))))
def lG(n:Nat):UInt8:=if n<10 then UInt8.ofNat (48+n)else UInt8.ofNat (55+n)
def jE(b:UInt8):List UInt8:=if 33≤b.toNat∧b.toNat≤126∧b.toNat≠37 then[b]else[37,lG (b.toNat/16),lG (b.toNat%16)]
def kV(l:List UInt8):List UInt8:=if l=[]then[37]else l.flatMap jE
theorem Zj(n:Nat)(h:n<16):vk (gm n)=lG n:=by
 have:∀n,n<16→vk (gm n)=lG n:=by decide
 exact this n h
theorem JD(n:Nat)(h:n<16):(gm n).toNat<128:=by
 have:∀n,n<16→(gm n).toNat<128:=by decide
 exact this n h
theorem uT(b:UInt8):(jE b).length≤3:=by unfold jE;split<;>simp
theorem rA(l:List UInt8):(l.flatMap jE).length≤3*l.length:=by
 induction l with
 |nil=>simp
 |cons b l ih=>rw[List.flatMap_cons,aG,aP];have:=uT b;omega
theorem r57(Φ:Nat→Option CF)(h:Φ 57=some c57)(h97:Φ 97=some c97)(h93:Φ 93=some c93)(h60:Φ 60=some En)(h23:Φ 23=some O9)(h24:Φ 24=some c24)(h28:Φ 28=some WW)(h120:Φ 120=some vP)(h26:Φ 26=some WV)(ok:cO F M c)(hs:fC F M c v l)(hl:l.length≤400000):
 Calls Φ F 57 [v] M c fun r M' c'=>r=sV (kV l)∧Gr c M c' M':=by
 refine ax h ?_
 have hln:=hs.len
 by_cases h0:l=[]
 ·subst h0;rw[bo]at hln;simp only[WX,B57,hln,Int.ofNat_zero];exact⟨rfl,Gr.refl ok⟩
 ·have hpos:l.length≠0:=fun e=>h0 (List.length_eq_zero_iff.1 e);have d0:decide ((l.length:Int)=0)=false:=ah (by omega);simp only[WX,B57,hln,d0];have g0:=(Gr.refl ok).set c (au 66 [.p0,.l0]) (ak _) (aD _) (aA _);obtain⟨I,hI⟩:∃I:Nat→St→Prop,∀n s',I n s'↔(∃(i c1 bb:Nat) (M1:Mem) (u:List (Option V)),n=l.length-i∧i≤l.length∧s'= .mk ((bp4 u v (.p c 0) v (.i .i64 (l.length:Int)) (.i .i64 (i:Int)))) [] M1 c1∧Gr c M c1 M1∧eB M1 c c1 c bb ((l.take i).flatMap jE)):=⟨fun n s'=>_,fun _ _=>Iff.rfl⟩
  refine bD I ?_ l.length _ ((hI _ _).2 ⟨0,c+1,c+1,_,(G1 (X2 (G1 (X4 (X1 (G2 (G1 (cw (cj (X2 (X1 []))))))))))),rfl,aE _,rfl,g0,⟨ak _,aD _,by omega,.p0,.l0,am _ _ _,.inl rfl,.inl ⟨by rw[List.take_zero];rfl,rfl⟩⟩⟩);intro n s' hIs;obtain⟨i,c1,bb,M1,u,rfl,hi,rfl,g1,hb⟩:=(hI _ _).1 hIs;clear hIs;have cW:=g1.ok ok;have q8:bX .add (.i .i64 (i:Int)) (.i .i64 1)=some (.i .i64 ((i+1:Nat):Int)):=by rw[aN _ _ (by omega) (by omega)];simp
  by_cases hlt:i<l.length
  ·have d1:decide ((i:Int)<(l.length:Int))=true:=af (by omega);obtain⟨pb,po,hpb,hia,hld⟩:=hs.get i hlt;have hia:=hia .i64;have hld1:=(g1.load1 (F:=F) hpb po).trans hld;have htk:=cq hlt;have htl:(l.take i).length=i:=by rw[List.length_take];omega
   have hel:=rA (l.take i);rw[htl]at hel;generalize l[i]=x at hld hld1 htk;have hfm:(l.take (i+1)).flatMap jE=(l.take i).flatMap jE++jE x:=by rw[htk,List.flatMap_append];simp
   have hx:=UInt8.toNat_lt x;have next:∀(u:List (Option V)) M2 c2 b2,Gr c M c2 M2→eB M2 c c2 c b2 ((l.take i).flatMap jE++jE x)→ ∃m<l.length-i,I m (.mk ((bp4 u v (.p c 0) v (.i .i64 (l.length:Int)) (.i .i64 ((i+1:Nat):Int)))) [] M2 c2):=fun u M2 c2 b2 g2 hb2=>⟨l.length-(i+1),by omega,(hI _ _).2 ⟨i+1,c2,b2,M2,u,rfl,hlt,rfl,g2,by rw[hfm];exact hb2⟩⟩
   by_cases hp:33≤x.toNat∧x.toNat≤126∧x.toNat≠37
   ·have e1:decide ((32:Int)<(x.toNat:Int))=true:=af (by omega);have e2:decide ((x.toNat:Int)<127)=true:=af (by omega);have e1003:decide ((x.toNat:Int)≠37)=true:=af (by omega);simp only[WX,B57,d1,hia,hld1,e1,e2,e1003];refine aw ((r24 Φ h24 h60 cW g1 hb x (iu (by omega))).mono ?_);rintro r M2 c2 ⟨b2,hb2,g2,_,_,_⟩;simp only[WX,B57,q8];exact next (G1 (X2 (G1 (X4 (X1 (G2 (G1 (cw (cj (X2 (X1 []))))))))))) M2 c2 b2 g2 (by rw[show jE x=[x]from ae hp];exact hb2)
   ·have he:jE x=[37,lG (x.toNat/16),lG (x.toNat%16)]:=ab hp
    have FIN:∀u,Wp UW (K Φ none 57 F) (.mk ((cO8 u v (.p c 0) (.i .u8 (x.toNat:Int)) v (.i .i64 (l.length:Int)) (.i .i64 (i:Int)))) [] M1 c1) (ic 1 (lR E6 (K Φ none 57 F) (oq I (l.length-i) (ic 0 (lR (E7.seq .ret) (K Φ none 57 F) (dA F [.t (.r .h)] fun r M' c'=>r=sV (kV l)∧Gr c M c' M')))))):=by
     intro u;have fb:∀z,flatten (V.i .u8 z)=[V.i .u8 z]:=fun _=>rfl;have ob:∀z,dD (V.i .u8 z)=true:=fun _=>rfl;simp only[WX,B57,fb,ob];have gX:=(Gr.refl cW).set c1 (cQ [.i .u8 0] 5 [.i .u8 (x.toNat:Int)]) (ak _) (aD _) (aA _);have hy:fC F (M1.set c1 (cQ [.i .u8 0] 5 [.i .u8 (x.toNat:Int)])) (c1+1) (.l c1 0 1 1) [x]:=qS (d:=[.i .u8 0]) (ty:=5) (am _ _ _) (by omega) (fun e he=>by obtain⟨x,_,rfl⟩:=List.mem_map.1 he;rfl) rfl;refine aw ((r26 Φ h26 h23 h28 h60 (gX.ok cW) hy (by simp)).mono ?_);rintro r M2 c2 ⟨rfl,g2⟩;have hht:fh [x]=[gm (x.toNat/16),gm (x.toNat%16)]:=rfl;rw[hht];have ok2:=g2.ok (gX.ok cW);simp only[WX]
     refine aw ((r97 Φ h97 h93 h60 h23 h24 h28 h120 ok2 [gm (x.toNat/16),gm (x.toNat%16)] (by simp) (fun y hy=>by
      simp only[bv,List.mem_nil_iff,or_false]at hy;rcases hy with rfl|rfl
      ·exact JD _ (by omega)
      ·exact JD _ (by omega))).mono ?_)
     rintro r M3 c1003 ⟨rfl,g3⟩;have hup:[gm (x.toNat/16),gm (x.toNat%16)].map vk=[lG (x.toNat/16),lG (x.toNat%16)]:=by
      rw[List.map_cons,List.map_cons,List.map_nil,Zj _ (by omega),Zj _ (by omega)]
     rw[hup];have hcat:bX .add (.s 1 37) (sV [lG (x.toNat/16),lG (x.toNat%16)])=some (sV (jE x)):=by
      rw[he];exact cL [37] [lG (x.toNat/16),lG (x.toNat%16)] (by simp)
     have g13:=(gX.trans g2).trans g3;simp only[WX,hcat];refine aw ((r23 Φ h23 h60 (g3.ok ok2) (g1.trans g13) (hb.up g13.le fun y hy=>g13.old y hy) (jE x) (iu (by have:=uT x;omega))).mono ?_);rintro r M4 c3 ⟨b3,hb4,g4,_,_,_⟩;simp only[WX,B57,q8];exact next (G1 (X2 (G1 (X4 (X1 (G2 (G1 (cw (cj (X2 (X1 []))))))))))) M4 c3 b3 g4 hb4
    have hld1:load1 F M1 pb po=some (.i .u8 (x.toNat:Int)):=hld1;by_cases q1:33≤x.toNat
    ·have e1:decide ((32:Int)<(x.toNat:Int))=true:=af (by omega);by_cases q2:x.toNat≤126
     ·have e2:decide ((x.toNat:Int)<127)=true:=af (by omega);have e1003:decide ((x.toNat:Int)≠37)=false:=ah (by omega);simp only[WX,L6,L7,L8,Bq,Br,d1,hia,hld1,e1,e2,e1003];exact FIN (G1 (X2 (G1 (X1 (G1 (X2 (X1 (G2 (G1 (cw (cj (X2 (X1 [])))))))))))))
     ·have e2:decide ((x.toNat:Int)<127)=false:=ah (by omega);simp only[WX,L6,L7,L8,Bq,Br,d1,hia,hld1,e1,e2];exact FIN (G1 (X2 (G1 (X1 (G1 (X2 (X1 (G2 (G1 (cw (cj (X2 (X1 [])))))))))))))
    ·have e1:decide ((32:Int)<(x.toNat:Int))=false:=ah (by omega);simp only[WX,L6,L7,L8,Bq,Br,d1,hia,hld1,e1];exact FIN (G1 (X2 (G1 (X1 (G1 (X2 (X1 (G2 (G1 (cw (cj (X2 (X1 [])))))))))))))
  ·obtain rfl:i=l.length:=by omega
   have d1:decide ((l.length:Int)<(l.length:Int))=false:=ah (by omega);have hel:=rA l;rw[List.take_length]at hb;simp only[WX,B57,d1];refine aw ((r28 Φ h28 cW g1 hb (by omega)).mono ?_);rintro r M2 c2 ⟨rfl,g2,_,_⟩;simp only[WX];exact⟨by unfold kV;rw[ab h0],g2⟩
theorem xU(l:List UInt8):(kV l).length≤3*l.length+1:=by
 unfold kV
 split
 ·simp
 ·have:=rA l;omega
structure WoP(Φ:Nat→Option CF):Prop where
 h26:Φ 26=some WV
 h23:Φ 23=some O9
 h28:Φ 28=some WW
 h60:Φ 60=some En
 h57:Φ 57=some c57
 h97:Φ 97=some c97
 h93:Φ 93=some c93
 h24:Φ 24=some c24
 h120:Φ 120=some vP
theorem dv9(p:WoP Φ)(ok:cO F M c)(hs:fC F M c v l)(hl:l.length≤400000):
 Calls Φ F 57 [v] M c fun r M' c'=>r=sV (kV l)∧Gr c M c' M':=r57 Φ p.h57 p.h97 p.h93 p.h60 p.h23 p.h24 p.h28 p.h120 p.h26 ok hs hl
def Y2(mx:Bool)(v w:V):Option V:=match F6 mx v w with|some v=>some v|none=>none
theorem bq5(mx:Bool)(x y:X)(M:Mem)(t:T):(dh (.mn mx x [y]) F M t).val=Y2 mx (x.ev t) (y.ev t):=by
 show(qr (minAll mx t (x.ev t) [y])).val=_
 show(qr (match F6 mx (x.ev t) (y.ev t)with|some v=>some v|none=>none)).val=_
 unfold Y2
 cases F6 mx (x.ev t) (y.ev t)<;>rfl
theorem uW(a b:Nat):Y2 false (.i .i64 (a:Int)) (.i .i64 (b:Int))=some (.i .i64 ((min a b:Nat):Int)):=by
 unfold Y2
 have:F6 false (.i .i64 (a:Int)) (.i .i64 (b:Int))=some (.i .i64 ((min a b:Nat):Int)):=by
  show(fI (bif MG (b:Int) (a:Int)then(b:Int)else(a:Int)) fun n=>some (V.i .i64 n))=_;rw[show MG (b:Int) (a:Int)=decide (b<a) by show Nat.blt b a=_;rw[eT]];by_cases h:b<a
  ·rw[af h,cond_true,Jr,Nat.min_eq_right (by omega)]
  ·rw[ah h,cond_false,Jr,Nat.min_eq_left (by omega)]
 rw[this]
def cm3:CC:=(.reg [(aa a3 (.bx 9 1 z1)),(qq a4 (.mv (.c .f0))),(qq a5 (.mv (.c .f0)))])
def cm4:CC:=(.reg [(qq a7 (.mv z0)),(aa a6 (.al 9 [(.s 0 0)])),(ez (.st 1 z6 z7))])
def cm5:CC:=(.reg [(qq a8 (.mkf 69 [] [z6,z3])),(qq a4 (.mv z8))])
def cm6:CC:=(.reg [(qq a9 (.mv z4)),(qq dp (.mkf 70 [] [z6])),(qq a4 (.mv z9)),(qq a5 (.mv dx))])
def c41:CF:= .mk 4 [.t a4,.t a5] (.seq cm3 (.seq cm4 (.seq cm5 (.seq cm6 .ret))))
def cp1:CC:=(.reg [(qq a3 (.mv (.c (.s 0 0))))])
def cp2:CC:=(.reg [(qq a5 (.ld1 z0)),(qq a6 (.ld1 z1)),(ee a7 (.call 51 [z5,z6])),(qq a4 (.mv z7)),(qq a8 (.ex 0 z4)),(qq a9 (.ex 1 z4)),(qq dp (.ex 2 z4)),(qq a3 (.mv z8)),(ez (.st 1 z0 z9))])
def cp3:CC:=(.reg [(qq dk (.mv z3)),(qq a2 (.mv dC))])
def cp4:CC:=(.seq (.reg [(qq a2 (.mv (.c (.s 0 0))))]) (.seq cp1 (.seq cp2 (.seq cp3 .ret))))
def c69:CF:= .mk 4 [.t a2] cp4
def cq4:CC:=(.reg [(qq a2 (.ld1 z0)),(qq a1 (.mv z2))])
def cq5:CC:=(.seq (.reg [(qq a1 (.mv (.c (.s 0 0))))]) (.seq cq4 .ret))
def c70:CF:= .mk 2 [.t a1] cq5
def cm7:CC:=(.reg [(qq a6 (.mv z0)),(ee a7 (.call 71 [z6])),(qq a5 (.mv z7)),(qq a8 (.ex 0 z5)),(qq a9 (.ex 1 z5)),(qq a3 (.mv z8)),(qq a4 (.mv z9))])
def cm8:CC:=(.reg [(qq dp (.mv z3)),(qq a2 (.mv dx))])
def cm9:CC:=(.seq (.reg [(qq a2 (.mv (x6 0)))]) (.seq cm7 (.seq cm8 .ret)))
def c43:CF:= .mk 4 [.t a2] cm9
def aW1:CC:=(.reg [(aa a0 (.al 91 [(.s 0 0),(.s 0 0),(.s 0 0),(.s 0 0),(.s 0 0),(.s 0 0),(.s 0 0),(.s 0 0)]))])
def aW2:CC:=(.reg [(qq a1 (.bld [(.s 0 0),(.s 0 0),(.s 0 0),(.s 0 0),(.s 0 0),(.s 0 0),(.s 0 0),(.s 0 0)] [(0,1,(.c (.s 0 0))),(1,1,(.c (.s 4 1801677168))),(2,1,(.c (.s 6 126875187113842))),(3,1,(.c (.s 6 127978942194032))),(4,1,(.c (.s 4 1954047348))),(5,1,(.c (.s 6 111542170120046))),(6,1,(.c (.s 4 1701734764))),(7,1,(.c (.s 5 448612364899)))])),(ez (.st 8 z0 z1))])
def c42:CF:= .mk 2 [.cn a0 8] (.seq aW1 (.seq aW2 .ret))
theorem e42:aU 2 []=nF:=rfl
def B42:=ai @e42 (ai (wu aW1.eq_1) (wu aW2.eq_1))
theorem nU(l:List UInt8):flatten (sV l)=[sV l]:=rfl
theorem gq(l:List UInt8):dD (sV l)=true:=rfl
def kwL:List (List UInt8):=[[],[112,105,99,107],[114,111,117,110,100,115],[112,97,99,107,101,116],[116,101,120,116],[110,111,109,111,114,101],[108,105,110,101],[99,114,97,115,104]]
def h42:List V→Option V
 |[]=>some (.g (kwL.map sV))
 |_=>none
theorem t42(Φ:Nat→Option CF)(h:Φ 42=some c42)(ct:Nat):To Φ 42 [] ct (.g (kwL.map sV)):=by
 refine dw h ?_
 simp only[WX,Nat.reduceAdd,Nat.reduceLeDiff,B42]
 try rfl
abbrev Zc(u:List (Option V))(x0 x3 x4:V):T:=(.n (.n (.n (aq u 31 15 47 7 39 23 55) (some x3) (aq u 35 19 51 11 43 27 59)) (uO u 1) (.n (aq u 33 17 49 9 41 25 57) (uO u 5) (aq u 37 21 53 13 45 29 61))) (some x0) (.n (.n (aq u 32 16 48 8 40 24 56) (some x4) (aq u 36 20 52 12 44 28 60)) (uO u 2) (.n (aq u 34 18 50 10 42 26 58) (uO u 6) (aq u 38 22 54 14 46 30 62))))
def b67:CC:=(.reg [(qq a5 (.mv z0)),(qq a6 (.ln .slice z5)),(qq a7 (.bi .eql z6 (x6 0)))])
def d07:=wu b67.eq_1
def b68:CC:=(.seq (.reg [(qq a2 (.mv (.c (.s 1 37))))]) .ret)
def d08:=wu b68.eq_1
def b69:CC:=(.reg [(qq a4 (.mv (x6 0)))])
def d09:=wu b69.eq_1
def b70:CC:=(.reg [(qq a8 (.mv z4)),(qq a9 (.mv z0)),(qq dp (.ln .slice z9)),(qq dk (.bi .lss z8 dx))])
def L9:=wu b70.eq_1
def b71:CC:=(.reg [(qq dL (.mv z0)),(qq dS (.mv z4)),(qq dY (.iaS 1 eu dM)),(qq eE (.ld1 eF)),(qq dT (.bi .geq eD (.c (.i .u8 33)))),(qq eG (.mv fm)),(av fF (.mv z0) eG),(av eR (.mv z4) eG),(av fv (.iaS 1 fD gv) eG),(av fl (.ld1 gb) eG),(av dU (.bi .leq gH (.c (.i .u8 126))) eG),(qq eV (.pk fS gM xF)),(qq eb (.mv gO)),(av fG (.mv z0) eb),(av gi (.mv z4) eb),(av gg (.iaS 1 gy iz) eb),(av gQ (.ld1 iA) eb),(av j4 (.bi .neq iE (.c (.i .u8 37))) eb),(qq gj (.pk gw jh xF))])
def La:=wu b71.eq_1
def b72:CC:=(.reg [(qq iG (.mv z3)),(qq fT (.mv z0)),(qq j5 (.mv z4)),(qq kv (.iaS 1 kC kD)),(qq jq (.ld1 ll)),(aa gR (.bsl 5 1 1 [(.i .u8 0)] [(0,kr)])),(ee j6 (.app 5 1 1 kz kW)),(qq a3 (.mv lh))])
def d10:=wu b72.eq_1
def am1:Nat:=93405612720827812017303888595717861680
def Vh:CC:=(.dreg 16 [(0,0,(qq jr (.mv z3))),(1,0,(qq kF (.mv z0))),(2,0,(qq jM (.mv z4))),(3,6,(qq j7 (.iaS 1 lq lr))),(4,14,(qq ky (.ld1 mW))),(5,30,(qq js (.bi .shr ny (.c (.i .u64 4))))),(6,62,(qq kX (.ixS (.c (.s 16 am1)) nG))),(7,0,(qq kY (.mv z0))),(8,0,(qq kB (.mv z4))),(9,384,(qq iB (.iaS 1 nA oE))),(10,896,(qq nC (.ld1 nH))),(11,1920,(qq kG (.bi .and oF (.c (.i .u8 15))))),(12,3968,(qq kH (.ixS (.c (.s 16 am1)) pl))),(13,8190,(aa j8 (.bsl 5 3 1 [(.i .u8 0)] [(0,(.c (.i .u8 37))),(1,oD),(2,pS)]))),(14,16383,(ee nK (.app 5 1 1 lm pm))),(15,32767,(qq a3 (.mv pU)))])
def d11:=wu Vh.eq_1
def b73:CC:=(.seq b71 (.cond jL b72 Vh))
def Lb:=wu b73.eq_1
def Vi:CC:=(.reg [(qq dy (.mv z4)),(qq dN (.bi .add dX (x6 1))),(qq a4 (.mv dG))])
def d12:=wu Vi.eq_1
def Vc:CC:=(.seq (.seq b70 (.cond dC .skip (.exit 0))) (.seq (.block 1 b73) Vi))
def Bs:=wu Vc.eq_1
def E8:CC:=(.reg [(qq nL (.mv z3)),(qq kI (.bs qO)),(qq a2 (.mv pn))])
def c07:=wu E8.eq_1
def Vd:CC:=(.seq (.seq b69 (.block 0 (.loop Vc))) (.seq E8 .ret))
def c08:=wu Vd.eq_1
def Ve:CC:=(.seq (.reg [(qq a3 (.mv (.c .l0)))]) Vd)
def c09:=wu Ve.eq_1
def Vf:CC:=(.seq (.seq b67 (.cond z7 b68 .skip)) Ve)
def c47:=wu Vf.eq_1
def Vg:CC:=(.seq (.reg [(qq a2 (.mv (.c (.s 0 0))))]) Vf)
def c49:=wu Vg.eq_1
def c68:CF:= .mk 6 [.t a2] Vg
theorem e68(v0:V):aU 6 [v0]=(.n mM (some v0) mM):=rfl
def B68:=ai @e68 (ai @d07 (ai @d08 (ai @d09 (ai @L9 (ai @La (ai @d10 (ai @d11 (ai @Lb (ai @d12 (ai @Bs (ai @c07 (ai @c08 (ai @c09 (ai @c47 (@c49)))))))))))))))
def JB:List UInt8:=[48,49,50,51,52,53,54,55,56,57,65,66,67,68,69,70]
theorem JC(n:Nat)(h:n<16):Av (.s 16 am1) (.i .u8 (n:Int))=some (bV (lG n)):=by
 have e4:V.s 16 am1=sV JB:=rfl
 have hlen:JB.length=16:=rfl
 rw[e4,XQ JB .u8 n (by omega)]
 have:∀n,n<16→JB[n]?=some (lG n):=by decide
 have h2:=this n h
 rw[List.getElem?_eq_getElem (by omega)]at h2
 rw[ag h2]
theorem r68(Φ:Nat→Option CF)(h:Φ 68=some c68)(ok:cO F M c)(hs:fC F M c v l)(hl:l.length≤400000):
 Calls Φ F 68 [v] M c fun r M' c'=>r=sV (kV l)∧Gr c M c' M':=by
 refine ax h ?_
 have hln:=hs.len
 by_cases h0:l=[]
 ·subst h0;rw[bo]at hln;simp only[WX,B68,hln,Int.ofNat_zero];exact⟨rfl,Gr.refl ok⟩
 ·have hpos:l.length≠0:=fun e=>h0 (List.length_eq_zero_iff.1 e);have d0:decide ((l.length:Int)=0)=false:=ah (by omega);simp only[WX,B68,hln,d0];obtain⟨I,hI⟩:∃I:Nat→St→Prop,∀n s',I n s'↔(∃(i c1 b1:Nat) (acc:V) (M1:Mem) (u:List (Option V)),n=l.length-i∧i≤l.length∧s'= .mk ((Zc u v acc (.i .i64 (i:Int)))) [] M1 c1∧Gr c M c1 M1∧cA M1 c c1 b1 5 1 acc (((l.take i).flatMap jE).map fun x=>[bV x])):=⟨fun n s'=>_,fun _ _=>Iff.rfl⟩
  refine bD I ?_ l.length _ ((hI _ _).2 ⟨0,c,0,.l0,M,(G1 (X2 (G2 (cw (cj (X8 (X2 []))))))),rfl,aE _,rfl,Gr.refl ok,cA.nil⟩);intro n s' hIs;obtain⟨i,c1,b1,acc,M1,u,rfl,hi,rfl,g1,hA⟩:=(hI _ _).1 hIs;clear hIs;have cW:=g1.ok ok;have g1l:=g1.le;have q8:bX .add (.i .i64 (i:Int)) (.i .i64 1)=some (.i .i64 ((i+1:Nat):Int)):=by rw[aN _ _ (by omega) (by omega)];simp
  by_cases hlt:i<l.length
  ·have d1:decide ((i:Int)<(l.length:Int))=true:=af (by omega);obtain⟨pb,po,hpb,hia,hld⟩:=hs.get i hlt;have hia:=hia .i64;have hld1:=(g1.load1 (F:=F) hpb po).trans hld;have htk:=cq hlt;have hlen:(l.take i).length=i:=by rw[List.length_take];omega
   have hel:=rA (l.take i);rw[hlen]at hel;generalize l[i]=x at hld hld1 htk;have hfm:(l.take (i+1)).flatMap jE=(l.take i).flatMap jE++jE x:=by rw[htk,List.flatMap_append];simp
   have hx:=UInt8.toNat_lt x;have hld1:load1 F M1 pb po=some (.i .u8 (x.toNat:Int)):=hld1;have next:∀(u:List (Option V)) v' M2 c2 b2,Gr c M c2 M2→cA M2 c c2 b2 5 1 v' (((l.take i).flatMap jE++jE x).map fun x=>[bV x])→ ∃m<l.length-i,I m (.mk ((Zc u v v' (.i .i64 ((i+1:Nat):Int)))) [] M2 c2):=fun u v' M2 c2 b2 g2 hb2=>⟨l.length-(i+1),by omega,(hI _ _).2 ⟨i+1,c2,b2,v',M2,u,rfl,hlt,rfl,g2,by rw[hfm];exact hb2⟩⟩
   by_cases hp:33≤x.toNat∧x.toNat≤126∧x.toNat≠37
   ·have e1:decide ((33:Int)≤(x.toNat:Int))=true:=af (by omega);have e2:decide ((x.toNat:Int)≤126)=true:=af (by omega);have e1003:decide ((x.toNat:Int)≠37)=true:=af (by omega);have fb:∀z,flatten (V.i .u8 z)=[V.i .u8 z]:=fun _=>rfl;have ob:∀z,dD (V.i .u8 z)=true:=fun _=>rfl;simp only[WX,B68,hln,d1,hia,hld1,e1,e2,e1003,fb,ob];have grY:=g1.set c1 (cQ [.i .u8 0] 5 [.i .u8 (x.toNat:Int)]) g1.le (aD _) (aA _);have hy:bG F (M1.set c1 (cQ [.i .u8 0] 5 [.i .u8 (x.toNat:Int)])) (c1+1) 1 (.l c1 0 1 1) ([x].map fun x=>[bV x]):=qS (d:=[.i .u8 0]) (ty:=5) (am _ _ _) (by omega) (fun e he=>by obtain⟨x,_,rfl⟩:=List.mem_map.1 he;rfl) rfl;refine aw ((eH (bytes:=1) (hA.up (show c1≤c1+1 by omega) (fun hx=>az _ _ (by omega))) grY Nat.one_pos hy rfl (db (by rw[List.length_map,List.length_map,List.length_singleton];omega) (by rw[List.length_map,List.length_map,List.length_singleton];omega))).mono ?_);rintro v' M2 c2 ⟨b2,hA2,gr2,hle2,_,_⟩;simp only[WX,B68,q8];exact next (G1 (X2 (G2 (cw (cj (X8 (X2 []))))))) v' M2 c2 b2 gr2 (by rw[show jE x=[x]from ae hp,List.map_append];exact hA2)
   ·have he:jE x=[37,lG (x.toNat/16),lG (x.toNat%16)]:=ab hp;have x1:=JC (x.toNat/16) (by omega);have x2:=JC (x.toNat%16) (by omega);have x3:=Ba x;have x4:=xN x;have lk:(look F M1 (c1+13)).isNone=true:=by rw[cW.look (by omega)];rfl
    have fb:∀x,flatten (bV x)=[bV x]:=fun _=>rfl;have ob:∀x,dD (bV x)=true:=fun _=>rfl;have rf:cG (c1+13) [(10,pb),(4,pb)]=true:=by rw[cg _ _ _ _ (by omega),cg _ _ _ _ (by omega),ek]
    have FIN:∀u,Wp Vh (K Φ none 68 F) (.mk ((Zc u v acc (.i .i64 (i:Int)))) [] M1 c1) (ic 1 (lR Vi (K Φ none 68 F) (oq I (l.length-i) (ic 0 (lR (E8.seq .ret) (K Φ none 68 F) (dA F [.t (.r .h)] fun r M' c'=>r=sV (kV l)∧Gr c M c' M')))))):=by
     intro u;simp only[WX,Nat.reducePow,Nat.reduceDiv,Nat.reduceMod,Nat.reduceBEq,Nat.reduceAdd,B68,hia,hld1,x1,x2,x3,x4,lk,rf,Ge,wV,Lc,fb,ob];have grY:=(g1.up (c2:=c1+16) (by omega)).set (c2:=c1+16) (c1+13) (cQ [V.i .u8 0] 5 [V.i .u8 37,bV (lG (x.toNat/16)),bV (lG (x.toNat%16))]) (by omega) (by omega) (ak _);have hy:bG F (M1.set (c1+13) (cQ [V.i .u8 0] 5 [V.i .u8 37,bV (lG (x.toNat/16)),bV (lG (x.toNat%16))])) (c1+16) 1 (.l (c1+13) 0 3 3) ((jE x).map fun x=>[bV x]):=qS (d:=[V.i .u8 0]) (ty:=5) (by rw[am,he];rfl) (by omega) (fun e he=>by obtain⟨x,_,rfl⟩:=List.mem_map.1 he;rfl) (by rw[he];rfl);refine iq ((eH (bytes:=1) (hA.up (show c1≤c1+16 by omega) (fun hx=>az _ _ (by omega))) grY Nat.one_pos hy (by rw[he];rfl) (db (by rw[List.length_map,List.length_map];have:=uT x;omega) (by rw[List.length_map,List.length_map];have:=uT x;omega))).mono ?_);rintro v' M2 c2 ⟨b2,hA2,gr2,hle2,_,_⟩;refine⟨(gr2.ok ok).free,?_⟩;simp only[WX,B68,q8];exact next (G1 (X2 (G2 (cw (cj (X8 (X2 []))))))) v' M2 c2 b2 gr2 (by rw[List.map_append];exact hA2)
    by_cases q1:33≤x.toNat
    ·have e1:decide ((33:Int)≤(x.toNat:Int))=true:=af (by omega);by_cases q2:x.toNat≤126
     ·have e2:decide ((x.toNat:Int)≤126)=true:=af (by omega);have e1003:decide ((x.toNat:Int)≠37)=false:=ah (by omega);simp only[WX,L9,La,Lb,Bs,hln,d1,hia,hld1,e1,e2,e1003];exact FIN (G1 (X2 (G2 (cw (cj (X8 (X2 [])))))))
     ·have e2:decide ((x.toNat:Int)≤126)=false:=ah (by omega);simp only[WX,L9,La,Lb,Bs,hln,d1,hia,hld1,e1,e2];exact FIN (G1 (X2 (G2 (cw (cj (X8 (X2 [])))))))
    ·have e1:decide ((33:Int)≤(x.toNat:Int))=false:=ah (by omega);simp only[WX,L9,La,Lb,Bs,hln,d1,hia,hld1,e1];exact FIN (G1 (X2 (G2 (cw (cj (X8 (X2 [])))))))
  ·obtain rfl:i=l.length:=by omega
   have d1:decide ((l.length:Int)<(l.length:Int))=false:=ah (by omega);rw[List.take_length]at hA;have hbs:=ri (F:=F) (show fC F M1 c1 acc (l.flatMap jE)from hA.sl);simp only[WX,B68,hln,d1,hbs];exact⟨by unfold kV;rw[ab h0],g1⟩
abbrev cO9(u:List (Option V))(x0 x1 x2 x10:V):T:=(.n (.n (aq u 15 7 23 3 19 11 27) (some x1) (aq u 17 9 25 5 21 13 29)) (some x0) (.n (aq u 16 8 24 4 20 12 28) (some x2) (.n (.n (ia u 18) (some x10) (ia u 26)) (uO u 6) (fu u 22 14 30))))
abbrev cP0(u:List (Option V))(x0 x3:V):T:=(.n (.n (.n (fu u 15 7 23) (some x3) (fu u 19 11 27)) (uO u 1) (aq u 17 9 25 5 21 13 29)) (some x0) (.n (aq u 16 8 24 4 20 12 28) (uO u 2) (aq u 18 10 26 6 22 14 30)))
def b03:CC:=(.reg [(qq a3 (.mv z0)),(qq a4 (.bi .lss z3 (.c (.i .i32 32)))),(qq a5 (.mv z4)),(aH a6 (.mv z0) a5),(aH a7 (.bi .gtr z6 (.c (.i .i32 126))) a5),(qq a8 (.pk z5 xT z7)),(qq a2 (.mv z8))])
def b04:CC:=(.seq (.reg [(qq a2 (.mv xF))]) (.seq b03 .ret))
def c59:CF:= .mk 4 [.t a2] b04
theorem e59(v0:V):aU 4 [v0]=(.n iy (some v0) iy):=rfl
def B59:=ai @e59 (ai (wu b03.eq_1) (wu b04.eq_1))
def PZ:CC:=(.reg [(qq a6 (.mv (x6 0)))])
def Q0:CC:=(.reg [(qq a9 (.mv z0)),(aa dp (.rgs z9))])
def Q1:CC:=(.reg [(ee dk (.nxs dx)),(qq dy (.ex 0 dC))])
def Q2:CC:=(.reg [(qq dN (.ex 1 dC)),(qq dL (.ex 2 dC)),(qq a7 (.mv dG)),(qq a8 (.mv eu))])
def Q3:CC:=(.reg [(qq dS (.mv z1)),(qq dY (.mv z8)),(ee eE (.cv dM [eF])),(qq dT (.mv z2)),(qq eG (.eq false .bool false eD fm))])
def Q4:CC:=(.reg [(qq fF (.mv z7)),(qq a6 (.mv fD))])
def Q5:CC:=(.cond fS (.seq Q4 .ret) .skip)
def Q6:CC:=(.seq (.cond dX .skip (.exit 0)) (.block 1 (.seq Q2 (.seq Q3 Q5))))
def Q7:CC:=(.reg [(qq a6 (.mv (x6 (-1))))])
def Ho:CC:=(.seq (.seq Q0 (.block 0 (.loop (.seq Q1 Q6)))) (.seq Q7 .ret))
def LJ:CF:= .mk 5 [.t a6] (.seq PZ Ho)
theorem dh4(v0 v1 v2:V):aU 5 [v0,v1,v2]=(.n (.n iy (some v1) iy) (some v0) (.n iy (some v2) iy)):=rfl
def Dq:=ai @dh4 (ai (wu PZ.eq_1) (ai (wu Q0.eq_1) (ai (wu Q1.eq_1) (ai (wu Q2.eq_1) (ai (wu Q3.eq_1) (ai (wu Q4.eq_1) (ai (wu Q5.eq_1) (ai (wu Q6.eq_1) (ai (wu Q7.eq_1) (wu Ho.eq_1))))))))))
def bk4:CC:=(.reg [(qq a4 (.mv (x6 0)))])
def bk5:CC:=(.reg [(qq a5 (.mv z0)),(qq a6 (.mv z1)),(ee a7 (.call 124 [z5,z6,xT])),(qq a4 (.mv z7))])
def c98:CF:= .mk 4 [.t a4] (.seq bk4 (.seq bk5 .ret))
theorem e98(v0 v1:V):aU 4 [v0,v1]=(.n (.n nF (some v1) nF) (some v0) iy):=rfl
def B98:=ai @e98 (ai (wu bk4.eq_1) (wu bk5.eq_1))
def b01:CC:=(.reg [(qq a4 (.mv xF))])
def b02:CC:=(.reg [(qq a5 (.mv z0)),(qq a6 (.mv z1)),(ee a7 (.call 98 [z5,z6])),(qq a8 (.bi .geq z7 (x6 0))),(qq a4 (.mv z8))])
def c58:CF:= .mk 4 [.t a4] (.seq b01 (.seq b02 .ret))
theorem e58(v0 v1:V):aU 4 [v0,v1]=(.n (.n nF (some v1) nF) (some v0) iy):=rfl
def B58:=ai @e58 (ai (wu b01.eq_1) (wu b02.eq_1))
def b09:CC:=(.reg [(qq a3 (.mv (x6 0)))])
def b11:CC:=(.reg [(qq a4 (.mv z3)),(qq a5 (.mv z0)),(qq a6 (.ln .str z5)),(qq a7 (.bi .lss z4 z6))])
def b12:CC:=(.reg [(qq dp (.mv z0)),(qq dk (.mv z3)),(qq dy (.ixS dx dC)),(qq dN (.bi .lss dX (.c (.i .u8 32)))),(qq dL (.mv dG)),(aH dS (.mv z0) dL),(aH dY (.mv z3) dL),(aH eE (.ixS dM eF) dL),(aH dT (.bi .gtr eD (.c (.i .u8 126))) dL),(qq eG (.pk eu xT fm))])
def b13:CC:=(.seq (.reg [(qq a2 (.mv xF))]) .ret)
def b14:CC:=(.seq b12 (.cond fS b13 .skip))
def b15:CC:=(.reg [(qq a8 (.mv z3)),(qq a9 (.bi .add z8 (x6 1))),(qq a3 (.mv z9))])
def b16:CC:=(.seq (.seq b11 (.cond z7 .skip (.exit 0))) (.seq (.block 1 b14) b15))
def b17:CC:=(.seq (.reg [(qq a2 (.mv xT))]) .ret)
def b18:CC:=(.seq (.reg [(qq a2 (.mv xF))]) (.seq (.seq b09 (.block 0 (.loop b16))) b17))
def LL:CF:= .mk 5 [.t a2] b18
theorem e61(v0:V):aU 5 [v0]=(.n lj (some v0) lj):=rfl
def B61:=ai @e61 (ai (wu b09.eq_1) (ai (wu b11.eq_1) (ai (wu b12.eq_1) (ai (wu b13.eq_1) (ai (wu b14.eq_1) (ai (wu b15.eq_1) (ai (wu b16.eq_1) (ai (wu b17.eq_1) (wu b18.eq_1)))))))))
def jX(b:UInt8):Bool:=decide (b.toNat<32)||decide (126<b.toNat)
theorem r59(Φ:Nat→Option CF)(h:Φ 59=some c59)(r:Nat):Calls Φ F 59 [.i .i32 (r:Int)] M c fun v M' c'=>v= .b (decide (r<32)||decide (126<r))∧M'=M∧c'=c:=by
 refine ax h ?_
 by_cases h1:r<32
 ·have d1:decide ((r:Int)<32)=true:=af (by omega);simp only[WX,B59,d1];rw[af h1];rfl
 ·have d1:decide ((r:Int)<32)=false:=ah (by omega);simp only[WX,B59,d1];rw[ah h1,Bool.false_or]
  congr 2;apply propext;omega
theorem dv3(Φ:Nat→Option CF)(h:Φ 124=some LJ)(h59:Φ 59=some c59)(ok:cO F M c)(l:List UInt8)(hl:l.length≤1000000):
 Calls Φ F 124 [sV l,.f 59 [] [],.b true] M c fun r M' c'=>(∃z:Int,r= .i .i64 z∧decide (0≤z)=l.any jX)∧Gr c M c' M':=by
 refine ax h ?_
 simp only[WX,Dq,af8,bN8]
 obtain⟨I,hI⟩:∃I:Nat→St→Prop,∀n s',I n s'↔(∃(i:Nat) (M1:Mem) (u:List (Option V)),n=l.length-i∧i≤l.length∧s'= .mk ((cO9 u (sV l) (.f 59 [] []) (.b true) (.p c 0))) [] M1 (c+1)∧Gr c M (c+1) M1∧M1.get c=some (siB l i)∧(l.take i).any jX=false):=⟨fun n s'=>_,fun _ _=>Iff.rfl⟩
 refine bD I ?_ l.length _ ((hI _ _).2 ⟨0,_,(G2 (G1 (X4 (X2 (X1 (G1 (cj (X4 [])))))))),rfl,aE _,rfl,(Gr.refl ok).set c _ (ak _) (aD _) (aA _),am _ _ _,rfl⟩)
 intro n s' hIs
 obtain⟨i,M1,u,rfl,hi,rfl,g1,hM1,hno⟩:=(hI _ _).1 hIs
 clear hIs
 by_cases hlt:i<l.length
 ·have htk:=cq hlt;have hany:(l.take (i+1)).any jX=jX l[i]:=by rw[htk,List.any_append,hno];simp
  have hcat:=List.take_append_drop (i+1) l
  have hyes:jX l[i]=true→decide ((0:Int)≤(i:Int))=l.any jX:=fun hb=>by
   rw[af (Int.natCast_nonneg i),←hcat,List.any_append,hany,hb];rfl
  have gN:∀p,Gr c M (c+1) (M1.set c (siB l p)):=fun p=>g1.set c _ (ak _) (aD _) (ak _);by_cases hx:l[i].toNat<128
  ·have hnx:=bL8 (c+1) hM1 hlt hx;simp only[WX,Dq,Bw,hnx];refine aw ((r59 Φ h59 l[i].toNat).mono ?_);rintro v M2 c2 ⟨rfl,rfl,rfl⟩;cases hb:jX l[i]with
   |true=>
    have hb':(decide (l[i].toNat<32)||decide (126<l[i].toNat))=true:=hb;rw[hb'];simp only[WX,Dq];exact⟨⟨_,rfl,hyes hb⟩,gN (i+1)⟩
   |false=>
    have hb':(decide (l[i].toNat<32)||decide (126<l[i].toNat))=false:=hb;rw[hb'];simp only[WX,Dq];exact⟨l.length-(i+1),by omega,(hI _ _).2 ⟨i+1,_,(G2 (G1 (X4 (X2 (X1 (G1 (cj (X4 [])))))))),rfl,hlt,rfl,gN (i+1),am _ _ _,hany.trans hb⟩⟩
  ·obtain⟨r,p,hr,hnx⟩:=bL7 (c+1) hM1 hlt (by omega);simp only[WX,Dq,Bw,hnx];refine aw ((r59 Φ h59 r).mono ?_);rintro v M2 c2 ⟨rfl,rfl,rfl⟩;rw[af (show 126<r by omega),Bool.or_true];simp only[WX,Dq];exact⟨⟨_,rfl,hyes (by unfold jX;rw[af (show 126<l[i].toNat by omega),Bool.or_true])⟩,gN p⟩
 ·obtain rfl:i=l.length:=by omega
  have hnx:=av2 (c+1) hM1;rw[List.take_length]at hno;simp only[WX,Dq,Bw,hnx];exact⟨⟨_,rfl,by rw[hno];rfl⟩,g1⟩
theorem r98(Φ:Nat→Option CF)(h98:Φ 98=some c98)(h124:Φ 124=some LJ)(h59:Φ 59=some c59)(ok:cO F M c)(l:List UInt8)(hl:l.length≤1000000):
 Calls Φ F 98 [sV l,.f 59 [] []] M c fun r M' c'=>(∃z:Int,r= .i .i64 z∧decide (0≤z)=l.any jX)∧Gr c M c' M':=by
 refine ax h98 ?_
 simp only[WX,B98]
 refine aw ((dv3 Φ h124 h59 ok l hl).mono ?_)
 rintro r M1 c1 ⟨⟨z,rfl,hz⟩,g1⟩
 simp only[WX]
 exact⟨⟨z,rfl,hz⟩,g1⟩
theorem r58(Φ:Nat→Option CF)(h:Φ 58=some c58)(h98:Φ 98=some c98)(h124:Φ 124=some LJ)(h59:Φ 59=some c59)(ok:cO F M c)(l:List UInt8)(hl:l.length≤1000000):
 Calls Φ F 58 [sV l,.f 59 [] []] M c fun r M' c'=>r= .b (l.any jX)∧Gr c M c' M':=by
 refine ax h ?_
 simp only[WX,B58]
 refine aw ((r98 Φ h98 h124 h59 ok l hl).mono ?_)
 rintro r M1 c1 ⟨⟨z,rfl,hz⟩,g1⟩
 simp only[WX,hz]
 exact g1
theorem r61(Φ:Nat→Option CF)(h:Φ 61=some LL)(ok:cO F M c)(l:List UInt8)(hl:l.length≤1000000):
 Calls Φ F 61 [sV l] M c fun r M' c'=>r= .b (!l.any jX)∧Gr c M c' M':=by
 refine ax h ?_
 simp only[WX,B61]
 obtain⟨I,hI⟩:∃I:Nat→St→Prop,∀n s',I n s'↔(∃(i:Nat) (u:List (Option V)),n=l.length-i∧i≤l.length∧s'= .mk ((cP0 u (sV l) (.i .i64 (i:Int)))) [] M c∧(l.take i).any jX=false):=⟨fun n s'=>_,fun _ _=>Iff.rfl⟩
 refine bD I ?_ l.length _ ((hI _ _).2 ⟨0,(G1 (X2 (G1 (cj (X8 (X2 (X1 []))))))),rfl,aE _,rfl,rfl⟩)
 intro n s' hIs
 obtain⟨i,u,rfl,hi,rfl,hno⟩:=(hI _ _).1 hIs
 clear hIs
 have q8:bX .add (.i .i64 (i:Int)) (.i .i64 1)=some (.i .i64 ((i+1:Nat):Int)):=by rw[aN _ _ (by omega) (by omega)];simp
 by_cases hlt:i<l.length
 ·have d1:decide ((i:Int)<(l.length:Int))=true:=af (by omega);have x1:=XQ l .i64 i hlt;rw[bV]at x1;have htk:=cq hlt;have hany:(l.take (i+1)).any jX=jX l[i]:=by rw[htk,List.any_append,hno];simp
  have hcat:=List.take_append_drop (i+1) l
  have hyes:jX l[i]=true→(!l.any jX)=false:=fun hb=>by
   rw[←hcat,List.any_append,hany,hb];rfl
  by_cases h1:l[i].toNat<32
  ·have e1:decide ((l[i].toNat:Int)<32)=true:=af (by omega);simp only[WX,B61,d1,x1,e1];exact⟨by rw[hyes (by unfold jX;rw[af h1];rfl)],Gr.refl ok⟩
  ·have e1:decide ((l[i].toNat:Int)<32)=false:=ah (by omega);by_cases h2:126<l[i].toNat
   ·have e2:decide ((126:Int)<(l[i].toNat:Int))=true:=af (by omega);simp only[WX,B61,d1,x1,e1,e2];exact⟨by rw[hyes (by unfold jX;rw[af h2,Bool.or_true])],Gr.refl ok⟩
   ·have e2:decide ((126:Int)<(l[i].toNat:Int))=false:=ah (by omega);simp only[WX,B61,d1,x1,e1,e2,q8];exact⟨l.length-(i+1),by omega,(hI _ _).2 ⟨i+1,(G1 (X2 (G1 (cj (X8 (X2 (X1 []))))))),rfl,hlt,rfl,hany.trans (by unfold jX;rw[ah h1,ah h2];rfl)⟩⟩
 ·obtain rfl:i=l.length:=by omega
  have d1:decide ((l.length:Int)<(l.length:Int))=false:=ah (by omega);rw[List.take_length]at hno;simp only[WX,B61,d1];exact⟨by rw[hno];rfl,Gr.refl ok⟩
structure AC where
 k:Int
 a:Int
 tx:List UInt8
 dt:List UInt8
 ls:List (Int×Int×Int)
variable{y:AC}
def kw(k:Int):List UInt8:=kwL.getD k.toNat []
def eZ(x:Int×Int×Int):List UInt8:=bT x.1++58::(bT x.2.1++58::bT x.2.2)
def cF(y:AC):List (List UInt8):=if y.k=1∨y.k=2 then[bT y.a]else if y.k=3 then[fh y.dt]else if y.k=4 then[kV y.dt]else if y.k=6 then[y.tx]else if y.k=7 then y.ls.map eZ else[]
def cd(y:AC):List UInt8:=dE [32] (kw y.k::cF y)
def yq(x:Int×Int×Int):Bool:=sA (x.1,7)&&sA (x.2.1,4095)&&sA (x.2.2,65535)
def cW(y:AC):Bool:=
 if y.k=1 then sA (y.a,31)else if y.k=2 then decide (1≤y.a∧y.a≤64)else if y.k=3 then decide (y.dt.length≤64)else if y.k=4 then decide (y.dt.length≤4096)
 else if y.k=6 then decide (y.tx.length≤4096)&& !y.tx.any jX else if y.k=7 then decide (y.ls.length≤64)&&y.ls.all yq else true
def ed(y:AC):Bool:=(decide (y.k=1)||decide (y.k=2)||decide (y.a=0))&&(decide (y.k=6)||decide (y.tx=[]))&&(decide (y.k=3)||decide (y.k=4)||decide (y.dt=[]))&&(decide (y.k=7)||decide (y.ls=[]))
def nk(y:AC):Bool:=decide (1≤y.k∧y.k≤7)&&cW y&&ed y
theorem AC.ext'{x:AC}(h1:x.k=y.k)(h2:x.a=y.a)(h1003:x.tx=y.tx)(h3:x.dt=y.dt)(h1005:x.ls=y.ls):x=y:=by cases x;cases y;simp_all
end
end Go.Proofs.YtcnblipfcihcpaaGreatDoor.Ev
