/- What is proved here: pieces of the evaluator's soundness: if the evaluator comes to a value, the model's run comes to it, for every world and tape; no conditions beyond the hypotheses of each theorem. -/
import Derived.Test.YtkcelmimbmbfkaaGreatDoorEv6
set_option linter.unusedSimpArgs false
set_option linter.unusedVariables false
set_option linter.defProp false
set_option maxRecDepth 10000
set_option maxHeartbeats 16000000
namespace Go.Proofs.YtkcelmimbmbfkaaGreatDoor.Ev
open Go
noncomputable section
def am0:CC:=(.reg [(qq a4 (.mv (.c (.s 0 0))))])
def am1:CC:=(.reg [(qq cI (.mv z0)),(qq de (.ln .slice cD))])
def am2:CC:=(.reg [(qq db (.bi .eql cS (x6 0))),(qq cH (.mv dD))])
def am3:CC:=(.reg [(qq a4 (.mv (.c (.s 0 0))))])
def am4:CC:=(.reg [(qq dE (.bi .eql cS (x6 1))),(qq du (.mv dQ))])
def am5:CC:=(.reg [(qq dO (.mv z0)),(qq dY (.iaS 1 dM (x6 0))),(qq eg (.ld1 ey)),(qq a4 (.mv eV))])
def am6:CC:=(.seq am4 (.cond dj (.seq am5 .ret) .skip))
def am7:CC:=(.seq am2 (.cond cR (.seq am3 .ret) am6))
def am8:CC:=(.reg [(qq a5 (.mv (x6 0)))])
def O0:CC:=(.reg [(qq eQ (.mv z1)),(qq dP (.ln .str eW)),(qq eB (.bi .gtr fm (x6 0)))])
def O1:CC:=(.reg [(qq ec (.mv z1)),(qq dH (.ln .str fG)),(qq eR (.mv z0)),(qq eD (.ln .slice fJ)),(qq eJ (.bi .sub fK (x6 1))),(qq fk (.bi .quo (x6 9223372036854775807) fL)),(qq eE (.bi .geq fH g9))])
def O2:CC:=(.reg [(qq eY (.mki 9 (.c (.s 36 232023140547069528372253906381035003553488466437483087989658184371904395368843875349619)))),⟨none,.q (.bad),none⟩])
def O3:CC:=(.seq O1 (.cond gA O2 .skip))
def O4:CC:=(.reg [(qq gH (.mv z5)),(qq fo (.mv z1)),(qq gu (.ln .str iE)),(qq gh (.mv z0)),(qq iq (.ln .slice ji)),(qq j3 (.bi .sub jj (x6 1))),(qq iO (.bi .mul j1 jz)),(qq ib (.bi .add gD jk)),(qq a5 (.mv kf))])
def O5:CC:=(.cond eX (.seq O3 O4) .skip)
def O6:CC:=(.reg [(qq j4 (.mv z0)),(qq gJ (.ln .slice kq)),(qq jL (.mv (x6 0)))])
def O7:CC:=(.reg [(qq ja (.bi .lss kr kO))])
def O8:CC:=(.reg [(qq jA (.iaS 1 kq kr)),(qq jB (.ld1 lJ)),(qq a7 (.mv lM))])
def O9:CC:=(.reg [(qq kl (.mv z7)),(qq kg (.ln .str mE)),(qq km (.mv z5)),(qq jb (.bi .sub (x6 9223372036854775807) lN)),(qq ga (.bi .gtr mR n6))])
def Oa:CC:=(.reg [(qq mU (.mki 9 (.c (.s 36 232023140547069528372253906381035003553488466437483087989658184371904395368843875349619)))),⟨none,.q (.bad),none⟩])
def Ob:CC:=(.seq O9 (.cond mS Oa .skip))
def Oc:CC:=(.reg [(qq ko (.mv z5)),(qq jC (.mv z7)),(qq ig (.ln .str pq)),(qq lK (.bi .add oH oL)),(qq a5 (.mv qc))])
def Od:CC:=(.reg [(qq nh (.bi .add kr (x6 1))),(qq jL (.mv pv))])
def Oe:CC:=(.seq (.cond l5 .skip (.exit 1)) (.seq (.block 2 (.seq O8 (.seq Ob Oc))) Od))
def Of:CC:=(.reg [(aa a8 (.al 104 [.p0,.l0]))])
def Og:CC:=(.reg [(qq ky (.mv z5)),(ee l6 (.call 46 [z8,oM]))])
def Oh:CC:=(.reg [(qq lL (.mv z0)),(qq oO (.iaS 1 qf (x6 0))),(qq n7 (.ld1 rv)),(ee l7 (.call 44 [z8,rx]))])
def Oi:CC:=(.reg [(qq oJ (.mv z0)),(qq ni (.slL 1 ry (some (x6 1)) none none)),(qq oP (.ln .slice rz)),(qq oK (.mv (x6 0)))])
def Oj:CC:=(.reg [(qq nj (.bi .lss sE ww))])
def Ok:CC:=(.cond u6 .skip (.exit 3))
def Ol:CC:=(.reg [(qq oQ (.iaS 1 rz sE)),(qq lP (.ld1 uu)),(qq cg (.mv uv))])
def Om:CC:=(.reg [(qq nk (.mv z1)),(ee sI (.call 44 [z8,u7]))])
def On:CC:=(.reg [(qq sJ (.mv cj)),(ee rF (.call 44 [z8,wy]))])
def Oo:CC:=(.reg [(qq uE (.bi .add sE (x6 1))),(qq oK (.mv wV))])
def Oq:CC:=(.seq Ok (.seq (.block 4 (.seq Ol (.seq Om On))) Oo))
def Ot:CC:=(.reg [(ee wC (.call 45 [z8])),(qq a4 (.mv A2))])
def Ou:CC:=(.seq (.seq Oi (.block 3 (.loop (.seq Oj Oq)))) (.seq Ot .ret))
def Ov:CC:=(.seq (.seq O6 (.block 1 (.loop (.seq O7 Oe)))) (.seq Of (.seq Og (.seq Oh Ou))))
def Ow:CC:=(.seq (.seq am1 (.block 0 am7)) (.seq am8 (.seq (.seq O0 O5) Ov)))
def c16:CF:= .mk 7 [.t a4] (.seq am0 Ow)
theorem e16(v0 v1:V):aS 7 [v0,v1]=(.n (.n mr (some v1) mr) (some v0) tk):=rfl
def LA:=ai @e16 (ai (wu am0.eq_1) (ai (wu am1.eq_1) (ai (wu am2.eq_1) (ai (wu am3.eq_1) (ai (wu am4.eq_1) (ai (wu am5.eq_1) (ai (wu am6.eq_1) (ai (wu am7.eq_1) (ai (wu am8.eq_1) (ai (wu O0.eq_1) (ai (wu O1.eq_1) (ai (wu O2.eq_1) (ai (wu O3.eq_1) (ai (wu O4.eq_1) (ai (wu O5.eq_1) (ai (wu O6.eq_1) (ai (wu O7.eq_1) (ai (wu O8.eq_1) (ai (wu O9.eq_1) (ai (wu Oa.eq_1) (ai (wu Ob.eq_1) (ai (wu Oc.eq_1) (ai (wu Od.eq_1) (ai (wu Oe.eq_1) (ai (wu Of.eq_1) (ai (wu Og.eq_1) (ai (wu Oh.eq_1) (ai (wu Oi.eq_1) (ai (wu Oj.eq_1) (ai (wu Ok.eq_1) (ai (wu Ol.eq_1) (ai (wu Om.eq_1) (ai (wu On.eq_1) (ai (wu Oo.eq_1) (ai (wu Oq.eq_1) (ai (wu Ot.eq_1) (ai (wu Ou.eq_1) (ai (wu Ov.eq_1) (wu Ow.eq_1)))))))))))))))))))))))))))))))))))))))
def d6(l:List (List UInt8)):List (List V):=l.map fun w=>[sV w]
theorem my{F:RO}{M:Mem}{c:Nat}{v:V}{l:List (List UInt8)}(hs:cU F M c 1 v (d6 l))(i:Nat)(hi:i<l.length):
 ∃b o,b<c∧(∀k,dS 1 v (.i k (i:Int))=some (.p b o))∧load1 F M b o=some (sV l[i]):=
 cU.one hs i (by simpa [d6]using hi) (by simp[d6])
theorem rk{F:RO}{M:Mem}{c:Nat}{v:V}{l:List (List UInt8)}(hs:cU F M c 1 v (d6 l)):Dv v=some (.i .i64 (l.length:Int)):=by
 have:=hs.len;rwa [d6,List.length_map]at this
def n8:List (List UInt8)→Nat
 |[]=>0
 |w::r=>w.length+1+n8 r
theorem wi:∀(l:List (List UInt8)) (k:Nat),n8 (l.take k)≤n8 l
 |[],k=>by rw[List.take_nil];exact ah _
 |w::r,0=>aM _
 |w::r,k+1=>by rw[List.take_succ_cons,n8,n8];have:=wi r k;omega
theorem iD:∀(a b:List (List UInt8)),n8 (a++b)=n8 a+n8 b
 |[],b=>by rw[List.nil_append,n8];omega
 |w::r,b=>by rw[List.cons_append,n8,n8,iD r b];omega
theorem IB:∀(a:List (List UInt8)),a.length≤n8 a
 |[]=>ah _
 |w::r=>by rw[bk,n8];have:=IB r;omega
theorem zQ{l:List (List UInt8)}{i:Nat}(h:i<l.length):l[i].length≤n8 l:=by
 induction l generalizing i with
 |nil=>cases h
 |cons w r ih=>
  cases i with
  |zero=>rw[List.getElem_cons_zero,n8];omega
  |succ i=>rw[List.getElem_cons_succ,n8];have:=ih (i:=i) (by simpa using h);omega
def aT(s:List UInt8):List (List UInt8)→List UInt8
 |[]=>[]
 |w::r=>w++(r.map fun x=>s++x).flatten
theorem K0(s w:List UInt8)(r:List (List UInt8))(x:List UInt8):aT s (w::(r++[x]))=aT s (w::r)++s++x:=by
 simp[aT,List.map_append,List.flatten_append]
theorem Vh(s:List UInt8):∀(w:List UInt8) (r:List (List UInt8)),(aT s (w::r)).length≤n8 (w::r)+s.length*r.length:=by
 intro w r
 induction r generalizing w with
 |nil=>simp[aT,n8]
 |cons x r ih=>
  have:=ih x;simp only[aT,n8,List.map_cons,List.flatten_cons,bE,bk]at this⊢;rw[Nat.mul_add];omega
theorem ot(s:List UInt8)(l:List (List UInt8)):(aT s l).length≤n8 l+s.length*l.length:=by
 cases l with
 |nil=>simp[aT]
 |cons w r=>have:=Vh s w r;rw[bk,Nat.mul_add];omega
theorem xU(s:List UInt8)(L:List (List UInt8))(i:Nat)(h:i+1<L.length):aT s (L.take (i+1+1))=aT s (L.take (i+1))++s++L[i+1]:=by
 cases L with
 |nil=>cases h
 |cons w r=>
  rw[List.take_succ_cons,List.take_succ_cons,List.getElem_cons_succ,List.take_succ_eq_append_getElem (by simpa using h),K0]
theorem HJ(a b:Int)(h1: -9223372036854775808≤a-b)(h2:a-b<9223372036854775808):bu .sub (.i .i64 a) (.i .i64 b)=some (.i .i64 (a-b)):=by
 rw[fX,gg h1 h2]
theorem Zn(a b:Nat)(hb:0<b)(ha:a<9223372036854775808):bu .quo (.i .i64 (a:Int)) (.i .i64 (b:Int))=some (.i .i64 ((a/b:Nat):Int)):=by
 have hle:a/b≤a:=Nat.div_le_self a b
 show(oT .i64 (a:Int) (b:Int)).val=_
 unfold oT
 rw[cV,ag (show¬((b:Int)=0) by omega),cond_false,eI,jh,←Int.ofNat_tdiv]
 generalize a/b=q at hle⊢
 rw[gg (by omega) (by omega)];rfl
theorem r16(Φ:Nat→Option CF)(h:Φ 16=some c16)(h46:Φ 46=some c46)(h44:Φ 44=some YF)(h45:Φ 45=some YG)(h81:Φ 81=some Ug)(h82:Φ 82=some c82){F:RO}{M:Mem}{c:Nat}{v:V}{l:List (List UInt8)}{s:List UInt8}(ok:eA F M c)(hs:cU F M c 1 v (d6 l))
 (hl:n8 l≤1000000) (hs1:1≤s.length) (hs2:s.length≤100):Calls Φ F 16 [v,sV s] M c fun r M' c'=>r=sV (aT s l)∧Gr c M c' M':=by
 refine ax h ?_
 have hn:=rk hs
 have hll:=IB l
 match l,hs,hn,hl,hll with
 |[],hs,hn,hl,hll=>
  rw[cF]at hn;simp only[WX,LA,hn,Int.ofNat_zero];exact⟨rfl,Gr.refl ok⟩
 |[w],hs,hn,hl,hll=>
  obtain⟨b1,o1,_,ia1,ld1⟩:=my hs 0 (by simp);have ia1:=ia1 .i64;rw[List.length_singleton]at hn;rw[Int.ofNat_zero]at ia1;rw[List.getElem_cons_zero]at ld1;simp only[WX,Int.reduceEq,LA,hn,Int.ofNat_one,ia1,ld1];exact⟨by simp[aT],Gr.refl ok⟩
 |w0::w1::r,hs,hn,hl,hll=>
  generalize hL:w0::w1::r=L at hs hn hl hll⊢;have hL2:2≤L.length:=by rw[←hL];simp
  have d0:decide ((L.length:Int)=0)=false:=ag (by omega);have d1:decide ((L.length:Int)=1)=false:=ag (by omega);have d2:decide ((0:Int)<(s.length:Int))=true:=af (by omega);have sb:bu .sub (.i .i64 (L.length:Int)) (.i .i64 1)=some (.i .i64 ((L.length-1:Nat):Int)):=by rw[HJ _ _ (by omega) (by omega)];congr 2;omega
  have qu:=Zn 9223372036854775807 (L.length-1) (by omega) (by omega);rw[show((9223372036854775807:Nat):Int)=9223372036854775807 from rfl]at qu;have hq:9223372036854≤9223372036854775807/(L.length-1):=by
   rw[Nat.le_div_iff_mul_le (by omega)];have:9223372036854*(L.length-1)≤9223372036854*1000000:=Nat.mul_le_mul_left _ (by omega);omega
  have d3:decide (((9223372036854775807/(L.length-1):Nat):Int)≤(s.length:Int))=false:=ag (by omega);have hmb:s.length*(L.length-1)≤100*1000000:=Nat.mul_le_mul hs2 (by omega);have mu:bu .mul (.i .i64 (s.length:Int)) (.i .i64 ((L.length-1:Nat):Int))=some (.i .i64 ((s.length*(L.length-1):Nat):Int)):=by
   have:((s.length:Int)*((L.length-1:Nat):Int))=((s.length*(L.length-1):Nat):Int):=by rw[Int.natCast_mul]
   rw[jq _ _ (by rw[this];omega) (by rw[this];omega),this]
  have ad:bu .add (.i .i64 0) (.i .i64 ((s.length*(L.length-1):Nat):Int))=some (.i .i64 ((s.length*(L.length-1):Nat):Int)):=by rw[bA _ _ (by omega) (by omega)];simp
  simp only[WX,LA,hn,d0,d1,d2,sb,qu,d3,mu,ad];obtain⟨I1,hI1⟩:∃I:Nat→St→Prop,∀n s',I n s'↔(∃(i a:Nat) (u:List (Option V)),n=L.length-i∧i≤L.length∧s'= .mk ((.n (.n (.n (.n (ay u 63 31 95 15 79 47 111) (uO u 7) (.n (.n (kp u 71) (some (v)) (kp u 103)) (uO u 23) (eH u 87 55 119))) (uO u 3) (.n (ay u 67 35 99 19 83 51 115) (uO u 11) (ay u 75 43 107 27 91 59 123))) (some (sV s)) (.n (.n (ay u 65 33 97 17 81 49 113) (uO u 9) (.n (.n (kp u 73) (some (.i .i64 (i:Int))) (kp u 105)) (uO u 25) (eH u 89 57 121))) (some (.i .i64 (a:Int))) (.n (ay u 69 37 101 21 85 53 117) (uO u 13) (ay u 77 45 109 29 93 61 125)))) (some (v)) (.n (.n (.n (ay u 64 32 96 16 80 48 112) (uO u 8) (.n (.n (kp u 72) (some (.i .i64 (L.length:Int))) (kp u 104)) (uO u 24) (eH u 88 56 120))) (uO u 4) (.n (ay u 68 36 100 20 84 52 116) (uO u 12) (ay u 76 44 108 28 92 60 124))) (uO u 2) (.n (.n (ay u 66 34 98 18 82 50 114) (uO u 10) (ay u 74 42 106 26 90 58 122)) (uO u 6) (.n (ay u 70 38 102 22 86 54 118) (uO u 14) (ay u 78 46 110 30 94 62 126)))))) [] M c∧a≤100000000+n8 (L.take i)):=⟨fun n s'=>_,fun _ _=>Iff.rfl⟩
  refine cX I1 ?_ L.length _ ((hI1 _ _).2 ⟨0,s.length*(L.length-1),[none,none,_,_,_,none,_,_,_,_,_,_,_,_,_,_,_,_,_,_,_,_,_,_,_,_,_,_,_,_,_,_,_,_,_,_,_,_,_,none,none,none,_,_,_,_,_,_,_,_,_,_,_,_,_,_,_,_,_,_,_,_,_,_,_,_,_,_,_,_,_,_,_,_,_,_,_,_,_,_,_,_,_,_,_,_,_,_,_,_,_,_,_,_,_,_,_,_,_,_,_,_,_,_,_,_,_,_,_,_,_,_,_,_,_,_,_,_,_,_,_,_,_,_,_,_,_],rfl,aM _,rfl,by omega⟩);intro n s' hIs;obtain⟨i,a,u,rfl,hi,rfl,ha⟩:=(hI1 _ _).1 hIs;clear hIs;have htk:=wi L i;by_cases hlt:i<L.length
  ·have e1:decide ((i:Int)<(L.length:Int))=true:=af (by omega);obtain⟨b1,o1,_,ia1,ld1⟩:=my hs i hlt;have hge:=zQ hlt;have sb2:bu .sub (.i .i64 9223372036854775807) (.i .i64 (a:Int))=some (.i .i64 (9223372036854775807-(a:Int))):=HJ _ _ (by omega) (by omega);have e2:decide ((9223372036854775807-(a:Int))<(L[i].length:Int))=false:=ag (by omega);have ad2:bu .add (.i .i64 (a:Int)) (.i .i64 (L[i].length:Int))=some (.i .i64 ((a+L[i].length:Nat):Int)):=by rw[bA _ _ (by omega) (by omega)];simp
   have q8:bu .add (.i .i64 (i:Int)) (.i .i64 1)=some (.i .i64 ((i+1:Nat):Int)):=by rw[bA _ _ (by omega) (by omega)];simp
   simp only[WX,LA,e1,ia1,ld1,sb2,e2,ad2,q8];refine⟨L.length-(i+1),by omega,(hI1 _ _).2 ⟨i+1,a+L[i].length,[none,none,_,_,_,none,_,_,_,_,_,_,_,_,_,_,_,_,_,_,_,_,_,_,_,_,_,_,_,_,_,_,_,_,_,_,_,_,_,none,none,none,_,_,_,_,_,_,_,_,_,_,_,_,_,_,_,_,_,_,_,_,_,_,_,_,_,_,_,_,_,_,_,_,_,_,_,_,_,_,_,_,_,_,_,_,_,_,_,_,_,_,_,_,_,_,_,_,_,_,_,_,_,_,_,_,_,_,_,_,_,_,_,_,_,_,_,_,_,_,_,_,_,_,_,_,_],rfl,by omega,rfl,?_⟩⟩;rw[List.take_succ_eq_append_getElem hlt,iD,n8,n8];omega
  ·have e1:decide ((i:Int)<(L.length:Int))=false:=ag (by omega);have gr0:Gr c M (c+1) (M.set c (aK 104 [.p0,.l0])):=(Gr.refl ok).set c _ (ah _) (bD _) (bU _);have ok0:=gr0.ok ok;simp only[WX,LA,e1];refine aB ((r46 Φ h46 h81 h82 ok0 gr0 (ah _) (bD _) (aw _ _ _) a (by omega)).mono ?_);rintro v1 M1 c1 ⟨bb,hb1,gr1,hle1,hfr1⟩;have ok1:=gr1.ok ok;have hs1':=hs.grow gr1;obtain⟨b1,o1,hb1c,ia1,ld1⟩:=my hs1' 0 (by omega);have ia1:=ia1 .i64;rw[Int.ofNat_zero]at ia1;simp only[WX,LA,ia1,ld1];have hg0:=zQ (l:=L) (i:=0) (by omega);refine aB ((r44 Φ h44 h81 ok1 gr1 hb1 L[0] (ui (by simp only[cF];omega))).mono ?_);rintro v2 M2 c2 ⟨bb2,hb2,gr2,hle2,_,_⟩;rw[List.nil_append]at hb2;have ok2:=gr2.ok ok;obtain⟨v3,⟨_,_,hsl,_⟩,hs3⟩:=E7 (lo:=1) (hi:=(d6 L).length) hs (by simp[d6];omega) (ah _);have hsl':zN 1 v (some (.i .i64 1)) none none=some v3:=congrArg QR.val (hsl rfl);have hs3':cU F M c 1 v3 (d6 (L.drop 1)):=by
    rw[List.take_length,d6,←List.map_drop]at hs3;exact hs3
   have hn3:=rk hs3';rw[cM]at hn3;simp only[WX,LA,hsl',hn3];obtain⟨I2,hI2⟩:∃I:Nat→St→Prop,∀n s',I n s'↔(∃(i:Nat) (M3:Mem) (c1003 bb3:Nat) (u:List (Option V)),n=L.length-1-i∧i≤L.length-1∧s'= .mk ((.n (.n (.n (.n (.n (.n (.n .e (some (v3)) .e) (uO u 31) (kp u 95)) (uO u 15) (eH u 79 47 111)) (uO u 7) (ay u 71 39 103 23 87 55 119)) (uO u 3) (.n (ay u 67 35 99 19 83 51 115) (uO u 11) (ay u 75 43 107 27 91 59 123))) (some (sV s)) (.n (.n (.n (.n (.n .e (some (.i .i64 (i:Int))) .e) (uO u 33) (kp u 97)) (uO u 17) (eH u 81 49 113)) (uO u 9) (ay u 73 41 105 25 89 57 121)) (uO u 5) (.n (ay u 69 37 101 21 85 53 117) (uO u 13) (ay u 77 45 109 29 93 61 125)))) (some (v)) (.n (.n (.n (.n (.n (.n .e (some (.i .i64 ((L.length-1:Nat):Int))) .e) (uO u 32) (kp u 96)) (uO u 16) (eH u 80 48 112)) (some (.p c 0)) (ay u 72 40 104 24 88 56 120)) (uO u 4) (.n (ay u 68 36 100 20 84 52 116) (uO u 12) (ay u 76 44 108 28 92 60 124))) (uO u 2) (.n (.n (ay u 66 34 98 18 82 50 114) (uO u 10) (ay u 74 42 106 26 90 58 122)) (uO u 6) (.n (ay u 70 38 102 22 86 54 118) (uO u 14) (ay u 78 46 110 30 94 62 126)))))) [] M3 c1003∧qh M3 c c1003 c bb3 (aT s (L.take (i+1)))∧Gr c M c1003 M3):=⟨fun n s'=>_,fun _ _=>Iff.rfl⟩
   refine cX I2 ?_ (L.length-1) _ ((hI2 _ _).2 ⟨0,M2,c2,bb2,[none,none,_,_,_,_,_,_,none,_,_,_,_,_,_,_,_,_,_,_,_,_,_,_,_,_,_,_,_,_,_,_,_,_,_,_,_,_,_,_,_,_,_,_,_,_,_,_,_,_,_,_,_,_,_,_,_,_,_,_,_,_,_,none,none,none,_,_,_,_,_,_,_,_,_,_,_,_,_,_,_,_,_,_,_,_,_,_,_,_,_,_,_,_,_,_,_,_,_,_,_,_,_,_,_,_,_,_,_,_,_,_,_,_,_,_,_,_,_,_,_,_,_,_,_,_,_],rfl,aM _,rfl,?_,gr2⟩)
   ·intro n s' hIs;obtain⟨i,M3,c1003,bb3,u,rfl,hi,rfl,hb3,gr3⟩:=(hI2 _ _).1 hIs;clear hIs;have hs4:=hs3'.grow gr3;have Ke:=gr3.ok ok;have hj:=ot s (L.take (i+1));have hj2:=wi L (i+1);have hj3:s.length*(L.take (i+1)).length≤100*1000000:=Nat.mul_le_mul hs2 (by rw[List.length_take];omega);by_cases hlt:i<L.length-1
    ·have e1:decide ((i:Int)<((L.length-1:Nat):Int))=true:=af (by omega);obtain⟨b1004,o1004,hb4,ia4,ld4⟩:=my hs4 i (by rw[cM];omega);have hge:(L.drop 1)[i]'(by rw[cM];omega)=L[i+1]:=by rw[List.getElem_drop];congr 1;omega
     rw[hge]at ld4;have hgl:=zQ (l:=L) (i:=i+1) (by omega);have q8:bu .add (.i .i64 (i:Int)) (.i .i64 1)=some (.i .i64 ((i+1:Nat):Int)):=by rw[bA _ _ (by omega) (by omega)];simp
     simp only[WX,LA,e1,ia4,ld4];refine aB ((r44 Φ h44 h81 Ke gr3 hb3 s (ui (by omega))).mono ?_);rintro v5 M5 c1005 ⟨bb5,hb5,gr5,hle5,_,_⟩;have Y2:=gr5.ok ok;simp only[WX,LA];refine aB ((r44 Φ h44 h81 Y2 gr5 hb5 L[i+1] (ui (by rw[bE];omega))).mono ?_);rintro v6 M6 c1006 ⟨bb6,hb6,gr6,hle6,_,_⟩;simp only[WX,LA,q8];refine⟨L.length-1-(i+1),by omega,(hI2 _ _).2 ⟨i+1,M6,c1006,bb6,[none,none,_,_,_,_,_,_,none,_,_,_,_,_,_,_,_,_,_,_,_,_,_,_,_,_,_,_,_,_,_,_,_,_,_,_,_,_,_,_,_,_,_,_,_,_,_,_,_,_,_,_,_,_,_,_,_,_,_,_,_,_,_,none,none,none,_,_,_,_,_,_,_,_,_,_,_,_,_,_,_,_,_,_,_,_,_,_,_,_,_,_,_,_,_,_,_,_,_,_,_,_,_,_,_,_,_,_,_,_,_,_,_,_,_,_,_,_,_,_,_,_,_,_,_,_,_],rfl,by omega,rfl,?_,gr6⟩⟩;rw[xU s L i (by omega)];exact hb6
    ·have e1:decide ((i:Int)<((L.length-1:Nat):Int))=false:=ag (by omega);simp only[WX,LA,e1];refine aB ((r45 Φ h45 Ke gr3 hb3 (by omega)).mono ?_);rintro v5 M5 c1005 ⟨rfl,gr5,_,_⟩;simp only[WX];refine⟨?_,gr5⟩;rw[List.take_of_length_le (by omega)]
   ·rw[show L.take (0+1)=[L[0]] by rw[List.take_succ_eq_append_getElem (show 0<L.length by omega)];rfl]
    simpa [aT]using hb2
def ay5:CC:=(.reg [(aa a2 (.al 94 [(.b false),(.b false),(.b false),(.b false)]))])
def ay6:CC:=(.reg [(qq a5 (.bi .eql z3 (x6 1))),(qq a4 (.mv z5))])
def ay7:CC:=(.reg [(qq a6 (.bld [(.b false),(.b false),(.b false),(.b false)] [(3,1,xT)])),(ez (.st 4 z2 z6))])
def ay8:CC:=(.reg [(qq a8 (.bi .eql z3 (x6 2))),(qq a7 (.mv z8))])
def ay9:CC:=(.reg [(qq a9 (.bld [(.b false),(.b false),(.b false),(.b false)] [(1,1,xT)])),(ez (.st 4 z2 z9))])
def az0:CC:=(.reg [(qq cI (.bi .eql z3 (x6 3))),(qq cg (.mv cD))])
def az1:CC:=(.reg [(qq de (.bld [(.b false),(.b false),(.b false),(.b false)] [(0,1,xT),(3,1,xT)])),(ez (.st 4 z2 cS))])
def az2:CC:=(.reg [(qq db (.bi .eql z3 (x6 4))),(qq cH (.mv dD))])
def az3:CC:=(.reg [(qq du (.bld [(.b false),(.b false),(.b false),(.b false)] [(0,1,xT),(1,1,xT)])),(ez (.st 4 z2 dj))])
def PP:CC:=(.reg [(qq dO (.bi .eql z3 (x6 5))),(qq dE (.mv dM))])
def PQ:CC:=(.reg [(qq dY (.bld [(.b false),(.b false),(.b false),(.b false)] [(0,1,xT),(1,1,xT),(2,1,xT)])),(ez (.st 4 z2 ey))])
def PS:CC:=(.reg [(qq eQ (.bi .eql z3 (x6 6))),(qq eg (.mv eW))])
def PT:CC:=(.reg [(qq dP (.bld [(.b false),(.b false),(.b false),(.b false)] [(0,1,xT),(1,1,xT),(3,1,xT)])),(ez (.st 4 z2 fm))])
def PU:CC:=(.cond eV (.seq PT .ret) .skip)
def PV:CC:=(.cond dQ (.seq PQ .ret) (.seq PS PU))
def PW:CC:=(.cond cR (.seq az3 .ret) (.seq PP PV))
def PX:CC:=(.cond cj (.seq az1 .ret) (.seq az2 PW))
def PY:CC:=(.cond z7 (.seq ay9 .ret) (.seq az0 PX))
def PZ:CC:=(.cond z4 (.seq ay7 .ret) (.seq ay8 PY))
def Q0:CC:=(.seq (.reg [(qq a3 (.mv z0))]) (.block 0 (.seq ay6 PZ)))
def Q1:CC:=(.reg [(qq eB (.bld [(.b false),(.b false),(.b false),(.b false)] [])),(ez (.st 4 z2 eX))])
def c40:CF:= .mk 5 [.cn a2 4] (.seq ay5 (.seq Q0 (.seq Q1 .ret)))
theorem e40(v0:V):aS 5 [v0]=(.n l8 (some v0) l8):=rfl
def B40:=ai @e40 (ai (wu ay5.eq_1) (ai (wu ay6.eq_1) (ai (wu ay7.eq_1) (ai (wu ay8.eq_1) (ai (wu ay9.eq_1) (ai (wu az0.eq_1) (ai (wu az1.eq_1) (ai (wu az2.eq_1) (ai (wu az3.eq_1) (ai (wu PP.eq_1) (ai (wu PQ.eq_1) (ai (wu PS.eq_1) (ai (wu PT.eq_1) (ai (wu PU.eq_1) (ai (wu PV.eq_1) (ai (wu PW.eq_1) (ai (wu PX.eq_1) (ai (wu PY.eq_1) (ai (wu PZ.eq_1) (ai (wu Q0.eq_1) (wu Q1.eq_1)))))))))))))))))))))
def aP0:CC:=(.reg [(qq a3 (.mv z0)),(qq a4 (.bi .geq z3 (x6 0))),(qq a5 (.mv z4)),(ak a6 (.mv z0) a5),(ak a7 (.bi .lss z6 (x6 16)) a5),(qq a8 (.pk z5 z7 xF)),(qq a2 (.mv z8))])
def aP1:CC:=(.seq (.reg [(qq a2 (.mv xF))]) (.seq aP0 .ret))
def c78:CF:= .mk 4 [.t a2] aP1
theorem e78(v0:V):aS 4 [v0]=(.n iC (some v0) iC):=rfl
def B78:=ai @e78 (ai (wu aP0.eq_1) (wu aP1.eq_1))
def aO8:CC:=(.reg [(qq a3 (.mv z0)),(qq a4 (.bi .eql z3 (x6 3))),(qq a5 (.mv z4)),(aL a6 (.mv z0) a5),(aL a7 (.bi .eql z6 (x6 6)) a5),(qq a8 (.pk z5 xT z7)),(qq a2 (.mv z8))])
def aO9:CC:=(.seq (.reg [(qq a2 (.mv xF))]) (.seq aO8 .ret))
def c77:CF:= .mk 4 [.t a2] aO9
theorem e77(v0:V):aS 4 [v0]=(.n iC (some v0) iC):=rfl
def B77:=ai @e77 (ai (wu aO8.eq_1) (wu aO9.eq_1))
def aH9:CC:=(.reg [(qq a2 (.mv xF)),(qq a3 (.mv xF)),(qq a4 (.mv xF)),(qq a5 (.mv xF))])
def aI0:CC:=(.reg [(qq a8 (.bi .eql z6 (x6 1))),(qq a7 (.mv z8))])
def aI1:CC:=(.reg [(qq a2 (.mv xF)),(qq a3 (.mv xF)),(qq a4 (.mv xF)),(qq a5 (.mv xT))])
def aI2:CC:=(.reg [(qq cg (.bi .eql z6 (x6 2))),(qq a9 (.mv cj))])
def aI3:CC:=(.reg [(qq a2 (.mv xF)),(qq a3 (.mv xT)),(qq a4 (.mv xF)),(qq a5 (.mv xF))])
def aI4:CC:=(.reg [(qq de (.bi .eql z6 (x6 3))),(qq cI (.mv cS))])
def aI5:CC:=(.reg [(qq a2 (.mv xT)),(qq a3 (.mv xF)),(qq a4 (.mv xF)),(qq a5 (.mv xT))])
def aI6:CC:=(.reg [(qq db (.bi .eql z6 (x6 4))),(qq cH (.mv dD))])
def aI7:CC:=(.reg [(qq a2 (.mv xT)),(qq a3 (.mv xT)),(qq a4 (.mv xF)),(qq a5 (.mv xF))])
def Qs:CC:=(.reg [(qq dE (.bi .eql z6 (x6 5))),(qq du (.mv dQ))])
def Qt:CC:=(.reg [(qq a2 (.mv xT)),(qq a3 (.mv xT)),(qq a4 (.mv xT)),(qq a5 (.mv xF))])
def Qu:CC:=(.reg [(qq dY (.bi .eql z6 (x6 6))),(qq dO (.mv ey))])
def Qv:CC:=(.reg [(qq a2 (.mv xT)),(qq a3 (.mv xT)),(qq a4 (.mv xF)),(qq a5 (.mv xT))])
def Qw:CC:=(.cond dM (.seq Qv .ret) .skip)
def Qx:CC:=(.cond dj (.seq Qt .ret) (.seq Qu Qw))
def Qy:CC:=(.cond cR (.seq aI7 .ret) (.seq Qs Qx))
def Qz:CC:=(.cond cD (.seq aI5 .ret) (.seq aI6 Qy))
def QA:CC:=(.cond z9 (.seq aI3 .ret) (.seq aI4 Qz))
def QB:CC:=(.cond z7 (.seq aI1 .ret) (.seq aI2 QA))
def QC:CC:=(.seq (.reg [(qq a6 (.mv z0))]) (.block 0 (.seq aI0 QB)))
def QD:CC:=(.reg [(qq a2 (.mv xF)),(qq a3 (.mv xF)),(qq a4 (.mv xF)),(qq a5 (.mv xF))])
def c59:CF:= .mk 5 [.t a2,.t a3,.t a4,.t a5] (.seq aH9 (.seq QC (.seq QD .ret)))
theorem e59(v0:V):aS 5 [v0]=(.n l8 (some v0) l8):=rfl
def B59:=ai @e59 (ai (wu aH9.eq_1) (ai (wu aI0.eq_1) (ai (wu aI1.eq_1) (ai (wu aI2.eq_1) (ai (wu aI3.eq_1) (ai (wu aI4.eq_1) (ai (wu aI5.eq_1) (ai (wu aI6.eq_1) (ai (wu aI7.eq_1) (ai (wu Qs.eq_1) (ai (wu Qt.eq_1) (ai (wu Qu.eq_1) (ai (wu Qv.eq_1) (ai (wu Qw.eq_1) (ai (wu Qx.eq_1) (ai (wu Qy.eq_1) (ai (wu Qz.eq_1) (ai (wu QA.eq_1) (ai (wu QB.eq_1) (ai (wu QC.eq_1) (wu QD.eq_1)))))))))))))))))))))
def aV9:CC:=(.reg [(qq a4 (.mv xF))])
def aW0:CC:=(.reg [(qq a5 (.mv z1)),(qq a6 (.bi .eql z5 (x6 0))),(qq a7 (.mv z6)),(aL a8 (.mv z0) a7),(aL a9 (.mv z8) a7),(ak cg (.mv z1) a9),(ak cI (.bi .gtr cj (x6 0)) a9),(aL de (.pk z9 cD xF) a7),(aL cH (.mv cS) a7),(ak db (.mv z1) cH),(ak du (.bi .lss dD (x6 16)) cH),(aL dE (.pk cR dj xF) a7),(qq dO (.pk z7 xT dQ)),(qq a4 (.mv dM))])
def c92:CF:= .mk 5 [.t a4] (.seq aV9 (.seq aW0 .ret))
theorem e92(v0 v1:V):aS 5 [v0,v1]=(.n (.n iC (some v1) iC) (some v0) l8):=rfl
def B92:=ai @e92 (ai (wu aV9.eq_1) (wu aW0.eq_1))
def aD(op:Int):Int:=if op=3∨op=23 then 1 else if op=24 then 2 else if op=5∨op=6∨op=25 then 3 else if op=7 then 4 else if 8≤op∧op≤17 then 5 else if 18≤op∧op≤22∨26≤op∧op≤28 then 6 else 0
def dI(f:Int):Bool:=decide (f=3∨f=4∨f=5∨f=6)
def aI(f:Int):Bool:=decide (f=2∨f=4∨f=5∨f=6)
def bI(f:Int):Bool:=decide (f=5)
def iI(f:Int):Bool:=decide (f=1∨f=3∨f=6)
def nS(b:Bool)(n:Int):Bool:=decide (n=0∨b=true∧0<n∧n<16)
theorem t40(Φ:Nat→Option CF)(h:Φ 40=some c40)(f:Int)(ct:Nat):To Φ 40 [.i .i64 f] ct (.g [.b (dI f),.b (aI f),.b (bI f),.b (iI f)]):=by
 refine bL h ?_
 simp only[WX,B40]
 repeat' (refine iM (by simp only[WX];rfl) (fun h=>?_) (fun h=>?_)<;>simp only[WX,Nat.reduceAdd,Nat.reduceLeDiff,B40,h])
 all_goals simp only[decide_eq_true_eq,decide_eq_false_iff_not]at *
 all_goals first|(subst f;rfl)|(simp[dI,aI,bI,iI, *])
theorem t78(Φ:Nat→Option CF)(h:Φ 78=some c78)(n:Int)(ct:Nat):To Φ 78 [.i .i64 n] ct (.b (decide (0≤n∧n<16))):=by
 refine bL h ?_
 simp only[WX,B78]
 repeat' (refine wT (by simp only[WX];rfl) (fun h=>?_) (fun h=>?_)<;>simp only[WX,h])
 all_goals simp_all
 all_goals omega
theorem t77(Φ:Nat→Option CF)(h:Φ 77=some c77)(n:Int)(ct:Nat):To Φ 77 [.i .i64 n] ct (.b (decide (n=3∨n=6))):=by
 refine bL h ?_
 simp only[WX,B77]
 repeat' (refine wT (by simp only[WX];rfl) (fun h=>?_) (fun h=>?_)<;>simp only[WX,h])
 all_goals simp_all
 all_goals omega
theorem t92(Φ:Nat→Option CF)(h:Φ 92=some c92)(b:Bool)(n:Int)(ct:Nat):To Φ 92 [.b b,.i .i64 n] ct (.b (nS b n)):=by
 refine bL h ?_
 simp only[WX,B92]
 repeat' (refine wT (by simp only[WX];rfl) (fun h=>?_) (fun h=>?_)<;>simp only[WX,h])
 all_goals simp_all [nS]
 all_goals omega
theorem t59(Φ:Nat→Option CF)(h:Φ 59=some c59)(f:Int)(ct:Nat):To Φ 59 [.i .i64 f] ct (.t [.b (dI f),.b (aI f),.b (bI f),.b (iI f)]):=by
 refine bL h ?_
 simp only[WX,B59]
 repeat' (refine iM (by simp only[WX];rfl) (fun h=>?_) (fun h=>?_)<;>simp only[WX,B59,h])
 all_goals simp only[decide_eq_true_eq,decide_eq_false_iff_not]at *
 all_goals first|(subst f;rfl)|(simp[dI,aI,bI,iI, *])
def aP2:CC:=(.reg [(aa a0 (.al 138 [(.s 0 0),(.s 0 0),(.s 0 0),(.s 0 0),(.s 0 0),(.s 0 0),(.s 0 0),(.s 0 0),(.s 0 0),(.s 0 0),(.s 0 0),(.s 0 0),(.s 0 0),(.s 0 0),(.s 0 0),(.s 0 0),(.s 0 0),(.s 0 0),(.s 0 0),(.s 0 0),(.s 0 0),(.s 0 0),(.s 0 0),(.s 0 0),(.s 0 0),(.s 0 0),(.s 0 0),(.s 0 0),(.s 0 0)]))])
def aP3:CC:=(.reg [(qq a1 (.bld [(.s 0 0),(.s 0 0),(.s 0 0),(.s 0 0),(.s 0 0),(.s 0 0),(.s 0 0),(.s 0 0),(.s 0 0),(.s 0 0),(.s 0 0),(.s 0 0),(.s 0 0),(.s 0 0),(.s 0 0),(.s 0 0),(.s 0 0),(.s 0 0),(.s 0 0),(.s 0 0),(.s 0 0),(.s 0 0),(.s 0 0),(.s 0 0),(.s 0 0),(.s 0 0),(.s 0 0),(.s 0 0),(.s 0 0)] [(0,1,(.c (.s 0 0))),(1,1,(.c (.s 3 7368558))),(2,1,(.c (.s 4 1886352499))),(3,1,(.c (.s 4 1819042147))),(4,1,(.c (.s 4 1801675106))),(5,1,(.c (.s 5 500152823651))),(6,1,(.c (.s 4 1751607656))),(7,1,(.c (.s 4 2037411683))),(8,1,(.c (.s 3 6579297))),(9,1,(.c (.s 3 6452595))),(10,1,(.c (.s 3 7107949))),(11,1,(.c (.s 3 7760228))),(12,1,(.c (.s 3 6582125))),(13,1,(.c (.s 3 6581857))),(14,1,(.c (.s 2 29295))),(15,1,(.c (.s 3 7499640))),(16,1,(.c (.s 3 7104627))),(17,1,(.c (.s 3 7497843))),(18,1,(.c (.s 4 1768186977))),(19,1,(.c (.s 4 1684107116))),(20,1,(.c (.s 5 435711603827))),(21,1,(.c (.s 5 422590902124))),(22,1,(.c (.s 6 108187851125875))),(23,1,(.c (.s 4 1886221674))),(24,1,(.c (.s 5 491512493418))),(25,1,(.c (.s 4 1802398060))),(26,1,(.c (.s 3 7431522))),(27,1,(.c (.s 3 6647394))),(28,1,(.c (.s 3 7629922)))])),(ez (.st 29 z0 z1))])
def c79:CF:= .mk 2 [.cn a0 29] (.seq aP2 (.seq aP3 .ret))
theorem e79:aS 2 []=mN:=rfl
def B79:=ai @e79 (ai (wu aP2.eq_1) (wu aP3.eq_1))
def h41:List V→Option V
 |[.i .i64 op]=>some (.i .i64 (aD op))
 |_=>none
theorem mf(op:Int):h41 [.i .i64 op]=some (.i .i64 (aD op)):=rfl
def h40:List V→Option V
 |[.i .i64 f]=>some (.g [.b (dI f),.b (aI f),.b (bI f),.b (iI f)])
 |_=>none
theorem zd(f:Int):h40 [.i .i64 f]=some (.g [.b (dI f),.b (aI f),.b (bI f),.b (iI f)]):=rfl
def V0:List V→Option V
 |[.i .i64 n]=>some (.b (decide (0≤n∧n<16)))
 |_=>none
theorem be1(n:Int):V0 [.i .i64 n]=some (.b (decide (0≤n∧n<16))):=rfl
def AK:List V→Option V
 |[.i .i64 n]=>some (.b (decide (n=3∨n=6)))
 |_=>none
theorem UZ(n:Int):AK [.i .i64 n]=some (.b (decide (n=3∨n=6))):=rfl
def fR:List V:=[(.s 0 0),(.s 3 7368558),(.s 4 1886352499),(.s 4 1819042147),(.s 4 1801675106),(.s 5 500152823651),(.s 4 1751607656),(.s 4 2037411683),(.s 3 6579297),(.s 3 6452595),(.s 3 7107949),(.s 3 7760228),(.s 3 6582125),(.s 3 6581857),(.s 2 29295),(.s 3 7499640),(.s 3 7104627),(.s 3 7497843),(.s 4 1768186977),(.s 4 1684107116),(.s 5 435711603827),(.s 5 422590902124),(.s 6 108187851125875),(.s 4 1886221674),(.s 5 491512493418),(.s 4 1802398060),(.s 3 7431522),(.s 3 6647394),(.s 3 7629922)]
theorem t79(Φ:Nat→Option CF)(h:Φ 79=some c79)(ct:Nat):To Φ 79 [] ct (.g fR):=by
 refine bL h ?_
 simp only[WX,Nat.reduceAdd,Nat.reduceLeDiff,B79]
 rfl
def aA3:CC:=(.reg [(qq a3 (.mv z0)),(qq a4 (.bi .lss z3 (x6 1))),(qq a5 (.mv z4)),(aL a6 (.mv z0) a5),(aL a7 (.bi .gtr z6 (x6 28)) a5),(qq a8 (.pk z5 xT z7))])
def aA4:CC:=(.seq (.reg [(qq a2 (.mv (.c (.s 0 0))))]) .ret)
def aA5:CC:=(.reg [(ee a9 (.call 79 [])),(qq cg (.mv z0)),(qq cI (.ixA1 29 1 z9 cj)),(qq a2 (.mv cD))])
def aA6:CC:=(.seq (.seq aA3 (.cond z8 aA4 .skip)) (.seq aA5 .ret))
def aA7:CC:=(.seq (.reg [(qq a2 (.mv (.c (.s 0 0))))]) aA6)
def c42:CF:= .mk 4 [.t a2] aA7
theorem e42(v0:V):aS 4 [v0]=(.n iC (some v0) iC):=rfl
def B42:=ai @e42 (ai (wu aA3.eq_1) (ai (wu aA4.eq_1) (ai (wu aA5.eq_1) (ai (wu aA6.eq_1) (wu aA7.eq_1)))))
def aK9:CC:=(.reg [(aa a1 (.bx 59 5 z0)),(qq a2 (.mv xF))])
def aL0:CC:=(.reg [(qq cg (.fa 0 z1)),(qq cI (.ld1 cj)),(ee de (.call 60 [cD])),(ee cH (.call 59 [cS])),(qq a9 (.mv cR)),(qq db (.ex 0 z9)),(qq du (.ex 1 z9)),(qq dE (.ex 2 z9)),(qq dO (.ex 3 z9)),(qq a3 (.mv dD)),(qq a4 (.mv dj)),(qq a5 (.mv dQ)),(qq a6 (.mv dM))])
def aL1:CC:=(.reg [(qq a7 (.mv (x6 (-32768)))),(qq a8 (.mv (x6 32767)))])
def aL2:CC:=(.reg [(qq dY (.fa 0 z1)),(qq eg (.ld1 ey)),(qq eQ (.bi .eql eV (x6 3))),(qq dP (.mv eW)),(aL eB (.fa 0 z1) dP),(aL ec (.ld1 eX) dP),(aL dH (.bi .eql fG (x6 6)) dP),(qq eR (.pk fm xT fH))])
def aL3:CC:=(.reg [(qq a7 (.mv (x6 0))),(qq a8 (.mv (x6 65535)))])
def aL4:CC:=(.seq aL2 (.cond fJ aL3 .skip))
def aL5:CC:=(.reg [(qq eD (.fa 0 z1)),(qq eJ (.ld1 fK)),(qq fk (.bi .geq fL (x6 1))),(qq eE (.mv g9)),(ak eY (.fa 0 z1) eE),(ak gH (.ld1 gC) eE),(ak fo (.bi .leq gD (x6 28)) eE),(qq gu (.pk gA iE xF)),(qq gh (.mv j1)),(ak iq (.mv z3) gh),(ak j3 (.fa 1 z1) gh),(ak iO (.ld1 jz) gh),(ed ib (.call 92 [jj,jk]) gh),(qq j4 (.pk ji kf xF)),(qq gJ (.mv kq)),(ak jL (.mv z4) gJ),(ak ja (.fa 2 z1) gJ),(ak jA (.ld1 l5) gJ),(ed jB (.call 92 [kr,lJ]) gJ),(qq kl (.pk kO lM xF)),(qq kg (.mv mE)),(ak km (.mv z5) kg),(ak jb (.fa 3 z1) kg),(ak ga (.ld1 n6) kg),(ed mU (.call 92 [lN,mS]) kg),(qq ko (.pk mR oG xF)),(qq jC (.mv oH)),(ak ig (.fa 4 z1) jC),(ak lK (.ld1 oL) jC),(ak nh (.bi .eql qc (x6 0)) jC),(ak ky (.mv pv) jC),(aL l6 (.mv z6) ky),(aL lL (.mv qd) ky),(ak oO (.fa 4 z1) lL),(ak n7 (.ld1 rv) lL),(ak l7 (.mv z7) lL),(ak oJ (.bi .geq rx rB) lL),(aL ni (.pk qf ry xF) ky),(aL oP (.mv rz) ky),(ak oK (.fa 4 z1) oP),(ak nj (.ld1 sE) oP),(ak oQ (.mv z8) oP),(ak lP (.bi .leq u6 uu) oP),(aL nk (.pk ww uv xF) ky),(ak sI (.pk oM xT u7) jC),(qq sJ (.pk pq uw xF)),(qq a2 (.mv wy))])
def aL6:CC:=(.seq aK9 (.seq aL0 (.seq aL1 (.seq aL4 (.seq aL5 .ret)))))
def c62:CF:= .mk 7 [.t a2] aL6
theorem e62(v0:V):aS 7 [v0]=(.n tk (some v0) tk):=rfl
def B62:=ai @e62 (ai (wu aK9.eq_1) (ai (wu aL0.eq_1) (ai (wu aL1.eq_1) (ai (wu aL2.eq_1) (ai (wu aL3.eq_1) (ai (wu aL4.eq_1) (ai (wu aL5.eq_1) (wu aL6.eq_1))))))))
def h79:List V→Option V
 |[]=>some (.g fR)
 |_=>none
theorem V1:h79 []=some (.g fR):=rfl
def h59:List V→Option V
 |[.i .i64 f]=>some (.t [.b (dI f),.b (aI f),.b (bI f),.b (iI f)])
 |_=>none
theorem ze(f:Int):h59 [.i .i64 f]=some (.t [.b (dI f),.b (aI f),.b (bI f),.b (iI f)]):=rfl
def V3:List V→Option V
 |[.b b,.i .i64 n]=>some (.b (nS b n))
 |_=>none
theorem be3(b:Bool)(n:Int):V3 [.b b,.i .i64 n]=some (.b (nS b n)):=rfl
def mL(op:Int):V:=if 1≤op∧op≤28 then(fR[op.toNat]?).getD (.s 0 0)else .s 0 0
theorem t42(Φ:Nat→Option CF)(h:Φ 42=some c42)(h79:Φ 79=some (.orc (aj h79)))(op:Int)(ct:Nat):To Φ 42 [.i .i64 op] ct (mL op):=by
 refine bL h ?_
 simp only[WX,B42]
 repeat' first|(refine iM (by simp only[WX];rfl) (fun h=>?_) (fun h=>?_)<;>simp only[WX,B42,h,h79,V1])|(refine wT (by simp only[WX];rfl) (fun h=>?_) (fun h=>?_)<;>simp only[WX,B42,h])
 all_goals simp only[decide_eq_true_eq,decide_eq_false_iff_not,Bool.not_false]at *
 ·unfold mL;rw[ab (by omega)]
 ·rw[ac (by omega),getD_some (d:= .s 0 0) (show op.toNat<fR.length by show op.toNat<29;omega)];simp only[WX];unfold mL;rw[ac (by omega)]
 ·unfold mL;rw[ab (by omega)]
def bQ(op d a b i:Int):Bool:=
 decide (1≤op)&&(decide (op≤28)&&(nS (dI (aD op)) d&&(nS (aI (aD op)) a&&(nS (bI (aD op)) b&&(decide (i=0)||(iI (aD op)&&(decide (op=3∨op=6)&&(decide (0≤i)&&decide (i≤65535))||decide (op≠3∧op≠6)&&(decide (-32768≤i)&&decide (i≤32767)))))))))
theorem nC(op:Int):aD op=0∨aD op=1∨aD op=2∨aD op=3∨aD op=4∨aD op=5∨aD op=6:=by
 unfold aD;repeat' split
 all_goals simp
def AJ:List V→Option V
 |[.i .i64 op]=>some (mL op)
 |_=>none
theorem UV(op:Int):AJ [.i .i64 op]=some (mL op):=rfl
theorem t62(Φ:Nat→Option CF)(h:Φ 62=some c62)(h60:Φ 60=some (.orc (aj h41)))(h59:Φ 59=some (.orc (aj h59)))(V3:Φ 92=some (.orc (aj V3)))(op d a b i:Int)(ct:Nat):
 To Φ 62 [.g [.i .i64 op,.i .i64 d,.i .i64 a,.i .i64 b,.i .i64 i]] ct (.b (bQ op d a b i)):=by
 refine bL h ?_
 simp only[WX,Nat.reduceAdd,B62,h60,mf,h59,ze]
 repeat' first|(refine iM (by simp only[WX];rfl) (fun h=>?_) (fun h=>?_)<;>simp only[WX,B62,h])|(refine wT (by simp only[WX];rfl) (fun h=>?_) (fun h=>?_)<;>simp only[WX,B62,h,V3,be3])
 all_goals (rw[V.b.injEq];unfold bQ;generalize nS (dI (aD op)) d=rd at *;generalize nS (aI (aD op)) a=ra at *;generalize nS (bI (aD op)) b=rb at *;generalize iI (aD op)=ii at *;rw[Bool.eq_iff_iff];simp only[decide_eq_true_eq,decide_eq_false_iff_not,Bool.not_true,Bool.not_false,aJ,Bool.or_eq_true]at *)
 all_goals first|omega|(simp[*];done)|(simp[*];omega)
def ax1:CC:=(.reg [(aa a1 (.bx 59 5 z0)),(qq a2 (.mv xF))])
def ax2:CC:=(.reg [(qq a8 (.fa 0 z1)),(qq a9 (.ld1 z8)),(ee cg (.call 41 [z9])),(ee cI (.call 40 [cj])),(aa a3 (.al 94 [(.b false),(.b false),(.b false),(.b false)])),(ez (.st 4 z3 cD))])
def ax3:CC:=(.reg [(qq de (.ldn 5 z1)),(aa a4 (.al 59 [(.i .i64 0),(.i .i64 0),(.i .i64 0),(.i .i64 0),(.i .i64 0)])),(ez (.st 5 z4 cS))])
def ax4:CC:=(.reg [(qq cH (.fa 0 z3)),(qq db (.ld1 cR))])
def ax5:CC:=(.reg [(qq du (.fa 1 z4)),(ez (.st 1 dj (x6 0)))])
def ax6:CC:=(.reg [(qq dE (.fa 1 z3)),(qq dO (.ld1 dQ))])
def ax7:CC:=(.reg [(qq dY (.fa 2 z4)),(ez (.st 1 ey (x6 0)))])
def ax8:CC:=(.seq ax6 (.cond dM ax7 .skip))
def ax9:CC:=(.reg [(qq eg (.fa 2 z3)),(qq eQ (.ld1 eV))])
def Px:CC:=(.reg [(qq dP (.fa 3 z4)),(ez (.st 1 fm (x6 0)))])
def Py:CC:=(.seq ax9 (.cond eW Px .skip))
def Pz:CC:=(.reg [(qq eB (.fa 3 z3)),(qq ec (.ld1 eX))])
def PA:CC:=(.reg [(qq dH (.fa 4 z4)),(ez (.st 1 fH (x6 0)))])
def PB:CC:=(.seq Pz (.cond fG PA .skip))
def PC:CC:=(.reg [(qq a5 (.mv (x6 (-32768)))),(qq a6 (.mv (x6 32767)))])
def PD:CC:=(.reg [(qq eR (.fa 0 z1)),(qq eD (.ld1 fJ)),(ee eJ (.call 77 [fK]))])
def PE:CC:=(.reg [(qq a5 (.mv (x6 0))),(qq a6 (.mv (x6 65535)))])
def PF:CC:=(.seq PD (.cond fL PE .skip))
def PG:CC:=(.reg [(qq a7 (.mv (.c (.f 78 [] []))))])
def PH:CC:=(.reg [(qq fk (.fa 0 z1)),(qq eE (.ld1 g9)),(ee eY (.call 42 [gA])),(qq gH (.bi .neq gC (.c (.s 0 0)))),(qq fo (.mv gD)),(ak gu (.ldn 5 z4) fo),(ak gh (.fa 0 z1) fo),(ak iq (.ld1 ji) fo),(ak j3 (.bld [(.i .i64 0),(.i .i64 0),(.i .i64 0),(.i .i64 0),(.i .i64 0)] [(0,1,jj)]) fo),(ak iO (.eq false (.agg [(0,.int),(1,.int),(2,.int),(3,.int),(4,.int)]) false j1 jz) fo),(qq ib (.pk iE jk xF)),(qq j4 (.mv kf)),(ak gJ (.mv z7) j4),(ak jL (.fa 1 z1) j4),(ak ja (.ld1 kr) j4),(ed jA (.cv kO [l5]) j4),(qq jB (.pk kq lJ xF)),(qq kl (.mv lM)),(ak kg (.mv z7) kl),(ak km (.fa 2 z1) kl),(ak jb (.ld1 lN) kl),(ed ga (.cv mR [n6]) kl),(qq mU (.pk mE mS xF)),(qq ko (.mv oG)),(ak jC (.mv z7) ko),(ak ig (.fa 3 z1) ko),(ak lK (.ld1 oL) ko),(ed nh (.cv pq [qc]) ko),(qq ky (.pk oH pv xF)),(qq l6 (.mv oM)),(ak lL (.fa 4 z1) l6),(ak oO (.ld1 qf) l6),(ak n7 (.mv z5) l6),(ak l7 (.bi .geq rv rx) l6),(qq oJ (.pk qd rB xF)),(qq ni (.mv ry)),(ak oP (.fa 4 z1) ni),(ak oK (.ld1 ww) ni),(ak nj (.mv z6) ni),(ak oQ (.bi .leq sE u6) ni),(qq lP (.pk rz uu xF)),(qq a2 (.mv uv))])
def PJ:CC:=(.seq PC (.seq PF (.seq PG (.seq PH .ret))))
def PK:CC:=(.seq (.seq ax4 (.cond dD ax5 .skip)) (.seq ax8 (.seq Py (.seq PB PJ))))
def c39:CF:= .mk 7 [.t a2] (.seq ax1 (.seq ax2 (.seq ax3 PK)))
theorem e39(v0:V):aS 7 [v0]=(.n tk (some v0) tk):=rfl
def B39:=ai @e39 (ai (wu ax1.eq_1) (ai (wu ax2.eq_1) (ai (wu ax3.eq_1) (ai (wu ax4.eq_1) (ai (wu ax5.eq_1) (ai (wu ax6.eq_1) (ai (wu ax7.eq_1) (ai (wu ax8.eq_1) (ai (wu ax9.eq_1) (ai (wu Px.eq_1) (ai (wu Py.eq_1) (ai (wu Pz.eq_1) (ai (wu PA.eq_1) (ai (wu PB.eq_1) (ai (wu PC.eq_1) (ai (wu PD.eq_1) (ai (wu PE.eq_1) (ai (wu PF.eq_1) (ai (wu PG.eq_1) (ai (wu PH.eq_1) (ai (wu PJ.eq_1) (wu PK.eq_1))))))))))))))))))))))
theorem Vu(op:Int):bu .neq (mL op) (.s 0 0)=some (.b (decide (1≤op∧op≤28))):=by
 unfold mL
 by_cases h:1≤op∧op≤28
 ·rw[ac h,af h];have key:∀n,n<29→1≤n→bu .neq ((fR[n]?).getD (.s 0 0)) (.s 0 0)=some (.b true):=by
   intro n hn h1;have:n=1∨n=2∨n=3∨n=4∨n=5∨n=6∨n=7∨n=8∨n=9∨n=10∨n=11∨n=12∨n=13∨n=14∨n=15∨n=16∨n=17∨n=18∨n=19∨n=20∨n=21∨n=22∨n=23∨n=24∨n=25∨n=26∨n=27∨n=28:=by omega
   rcases this with rfl|rfl|rfl|rfl|rfl|rfl|rfl|rfl|rfl|rfl|rfl|rfl|rfl|rfl|rfl|rfl|rfl|rfl|rfl|rfl|rfl|rfl|rfl|rfl|rfl|rfl|rfl|rfl<;>rfl
  exact key op.toNat (by omega) (by omega)
 ·rw[ab h,ag h];rfl
theorem t39(Φ:Nat→Option CF)(h:Φ 39=some c39)(h41:Φ 41=some (.orc (aj h41)))(h40:Φ 40=some (.orc (aj h40)))(AK:Φ 77=some (.orc (aj AK)))(V0:Φ 78=some (.orc (aj V0)))(AJ:Φ 42=some (.orc (aj AJ)))(op d a b i:Int)(ct:Nat):
 To Φ 39 [.g [.i .i64 op,.i .i64 d,.i .i64 a,.i .i64 b,.i .i64 i]] ct (.b (bQ op d a b i)):=by
 refine bL h ?_
 rcases nC op with hf|hf|hf|hf|hf|hf|hf
 all_goals
  simp only[WX,Nat.reduceBEq,Int.reduceEq,Nat.reduceAdd,Nat.reduceLeDiff,B39,h41,mf,h40,zd,AK,UZ,hf,dI,aI,bI,iI]
  repeat' first|(refine iM (by simp only[WX];rfl) (fun h=>?_) (fun h=>?_)<;>simp only[WX,B39,h,AJ,UV,Vu])|(refine wT (by simp only[WX];rfl) (fun h=>?_) (fun h=>?_)<;>simp only[WX,Nat.reduceAdd,Nat.reduceLeDiff,h,V0,be1])
 all_goals (rw[V.b.injEq,Bool.eq_iff_iff];simp only[decide_eq_true_eq,decide_eq_false_iff_not,Bool.not_true,aJ,Bool.and_eq_false_iff,aR,false_iff]at *;simp only[bQ,nS,hf,dI,aI,bI,iI,aJ,Bool.or_eq_true,decide_eq_true_eq,Int.reduceEq,or_true,or_false,true_and,or_self,false_and])
 all_goals omega
def aF5:CC:=(.reg [(aa a1 (.bx 59 5 z0)),(qq a2 (.mv (.c (.i .u32 0)))),(qq a3 (.mv (x6 0)))])
def aF6:CC:=(.reg [(qq a4 (.ldn 5 z1)),(ee a5 (.call 39 [z4])),(qq a6 (.un .not z5))])
def aF7:CC:=(.reg [(qq a2 (.mv (.c (.i .u32 0)))),(qq a3 (.mv (x6 2)))])
def aF8:CC:=(.seq aF6 (.cond z6 (.seq aF7 .ret) .skip))
def aF9:CC:=(.reg [(qq a7 (.fa 0 z1)),(qq a8 (.ld1 z7)),(qq a9 (.ci .u32 z8)),(qq cg (.fa 1 z1)),(qq cI (.ld1 cj)),(qq de (.ci .u32 cD)),(qq cH (.bi .shl cS (.c (.i .u64 12)))),(qq db (.bi .or z9 cR)),(qq du (.fa 2 z1)),(qq dE (.ld1 dj)),(qq dO (.ci .u32 dQ)),(qq dY (.bi .shl dM (.c (.i .u64 8)))),(qq eg (.bi .or dD ey)),(qq eQ (.fa 3 z1)),(qq dP (.ld1 eW)),(qq eB (.ci .u32 fm)),(qq ec (.bi .shl eX (.c (.i .u64 16)))),(qq dH (.bi .or eV fG)),(qq eR (.fa 4 z1)),(qq eD (.ld1 fJ)),(qq eJ (.ci .u16 fK)),(qq fk (.ci .u32 fL)),(qq eE (.bi .shl g9 (.c (.i .u64 16)))),(qq eY (.bi .or fH gA)),(qq a2 (.mv gC)),(qq a3 (.mv (x6 0)))])
def c55:CF:= .mk 5 [.t a2,.t a3] (.seq aF5 (.seq aF8 (.seq aF9 .ret)))
theorem e55(v0:V):aS 5 [v0]=(.n l8 (some v0) l8):=rfl
def B55:=ai @e55 (ai (wu aF5.eq_1) (ai (wu aF6.eq_1) (ai (wu aF7.eq_1) (ai (wu aF8.eq_1) (wu aF9.eq_1)))))
def h39:List V→Option V
 |[.g [.i .i64 op,.i .i64 d,.i .i64 a,.i .i64 b,.i .i64 i]]=>some (.b (bQ op d a b i))
 |_=>none
theorem rU(op d a b i:Int):h39 [.g [.i .i64 op,.i .i64 d,.i .i64 a,.i .i64 b,.i .i64 i]]=some (.b (bQ op d a b i)):=rfl
def cw(op d a b i:Int):Nat:=op.toNat+4096*d.toNat+256*a.toNat+65536*b.toNat+65536*(i%65536).toNat
theorem qN{n:Bool}{x:Int}(h:nS n x=true):0≤x∧x<16∧(x≠0→n=true):=by
 unfold nS at h
 simp only[decide_eq_true_eq]at h
 rcases h with h|⟨h1,h2,h1003⟩
 ·subst h;exact⟨by decide,by decide,fun h=>absurd rfl h⟩
 ·exact⟨by omega,h1003,fun _=>h1⟩
theorem gy{op d a b i:Int}(h:bQ op d a b i=true):1≤op∧op≤28∧0≤d∧d<16∧0≤a∧a<16∧0≤b∧b<16∧ -32768≤i∧i≤65535∧(b=0∨i=0):=by
 unfold bQ at h
 simp only[aJ,Bool.or_eq_true,decide_eq_true_eq]at h
 obtain⟨h1,h2,h1003,h1004,h1005,h1006⟩:=h
 have r1003:=qN h1003
 have r1004:=qN h1004
 have r1005:=qN h1005
 have hbi:b=0∨i=0:=by
  by_cases hb:b=0
  ·exact .inl hb
  ·right;have:=r1005.2.2 hb;unfold bI at this;simp only[decide_eq_true_eq]at this;rcases h1006 with h1006|⟨h1006,_⟩
   ·exact h1006
   ·unfold iI at h1006;simp only[decide_eq_true_eq]at h1006;omega
 have hi: -32768≤i∧i≤65535:=by
  rcases h1006 with h1006|⟨_,h1006⟩
  ·omega
  ·omega
 exact⟨h1,h2,r1003.1,r1003.2.1,r1004.1,r1004.2.1,r1005.1,r1005.2.1,hi.1,hi.2,hbi⟩
theorem VE(x y:Nat)(h:x<4096):x|||4096*y=x+4096*y:=by
 rw[Nat.or_comm,←Nat.two_pow_add_eq_or_of_lt (show x<2^12 from h) y,Nat.add_comm]
theorem vJ(x y:Nat)(h:x<65536):x|||65536*y=x+65536*y:=by
 rw[Nat.or_comm,←Nat.two_pow_add_eq_or_of_lt (show x<2^16 from h) y,Nat.add_comm]
theorem HZ(x y:Nat)(h:x<256):x|||256*y=x+256*y:=by
 rw[Nat.or_comm,←Nat.two_pow_add_eq_or_of_lt (show x<2^8 from h) y,Nat.add_comm]
theorem t55(Φ:Nat→Option CF)(h:Φ 55=some c55)(h39:Φ 39=some (.orc (aj h39)))(op d a b i:Int)(ct:Nat):
 To Φ 55 [.g [.i .i64 op,.i .i64 d,.i .i64 a,.i .i64 b,.i .i64 i]] ct (if bQ op d a b i=true then .t [.i .u32 (cw op d a b i:Nat),.i .i64 0]else .t [.i .u32 0,.i .i64 2]):=by
 refine bL h ?_
 cases hm:bQ op d a b i with
 |false=>simp only[WX,Nat.reduceAdd,Nat.reduceLeDiff,B55,h39,rU,hm]
 |true=>
  obtain⟨b1,b2,b1003,b1004,b1005,b1006,b1007,b1008,b21,b55,b1011⟩:=gy hm;obtain⟨o,rfl⟩:=Int.eq_ofNat_of_zero_le (show 0≤op by omega);obtain⟨d,rfl⟩:=Int.eq_ofNat_of_zero_le b1003;obtain⟨a,rfl⟩:=Int.eq_ofNat_of_zero_le b1005;obtain⟨b,rfl⟩:=Int.eq_ofNat_of_zero_le b1007;obtain⟨j,hj⟩:=Int.eq_ofNat_of_zero_le (show 0≤i%65536 by omega);have w20:IntKind.u16.wrap i=(j:Int):=by rw[Xl];exact hj
  have e1:=cJ o (by omega);have e2:=cJ d (by omega);have e1003:=cJ a (by omega);have e1004:=cJ b (by omega);have e1005:=cJ j (by omega);have s1:=L4 d (by omega);have s2:=wo a (by omega);have s3:=oE b (by omega);have s4:=oE j (by omega);have n1:(o|||4096*d)<2^32:=Nat.or_lt_two_pow (by omega) (by omega);have n2:(o|||4096*d|||256*a)<2^32:=Nat.or_lt_two_pow n1 (by omega);have n3:(o|||4096*d|||256*a|||65536*b)<2^32:=Nat.or_lt_two_pow n2 (by omega);have o1:=qa o (4096*d) (by omega) (by omega);have o2:=qa (o|||4096*d) (256*a) n1 (by omega);have o1003:=qa (o|||4096*d|||256*a) (65536*b) n2 (by omega);have o1004:=qa (o|||4096*d|||256*a|||65536*b) (65536*j) n3 (by omega);simp only[WX,Nat.reduceAdd,Nat.reduceLeDiff,B55,h39,rU,hm,w20,e1,e2,e1003,e1004,e1005,s1,s2,s3,s4,o1,o2,o1003,o1004];have key:(o|||4096*d|||256*a|||65536*b|||65536*j)=cw o d a b i:=by
   unfold cw;rw[Nat.or_assoc o,Nat.or_comm (4096*d),←Nat.or_assoc o,HZ o a (by omega),VE _ d (by omega)];rcases b1011 with h0|h0
   ·have:b=0:=by omega
    subst this;rw[Nat.mul_zero,Nat.or_zero,vJ _ j (by omega)];omega
   ·have:j=0:=by omega
    subst this;rw[Nat.mul_zero,Nat.or_zero,vJ _ b (by omega)];omega
  rw[key]
def ar8:CC:=(.reg [(aa a1 (.bx 59 5 z0)),(qq a2 (.mv (.c (.i .u32 0))))])
def ar9:CC:=(.reg [(qq a4 (.fa 0 z1)),(qq a5 (.ld1 z4)),(qq a6 (.ci .u32 z5)),(qq a7 (.fa 1 z1)),(qq a8 (.ld1 z7)),(qq a9 (.bi .mul (x6 16) z8)),(qq cg (.fa 2 z1)),(qq cI (.ld1 cj)),(qq de (.bi .add z9 cD)),(qq cH (.ci .u32 cS)),(qq db (.bi .mul cR (.c (.i .u32 256)))),(qq du (.bi .add z6 dD)),(qq a3 (.mv dj))])
def as1:CC:=(.reg [(qq dE (.fa 0 z1)),(qq dO (.ld1 dQ)),(ee dY (.call 60 [dM])),(qq eg (.bi .eql ey (x6 5)))])
def as2:CC:=(.reg [(qq eQ (.mv z3)),(qq dP (.fa 3 z1)),(qq eB (.ld1 fm)),(qq ec (.ci .u32 eX)),(qq dH (.bi .mul fG (.c (.i .u32 65536)))),(qq eR (.bi .add eW fH)),(qq a2 (.mv fJ))])
def as3:CC:=(.seq as1 (.cond eV (.seq as2 .ret) .skip))
def as4:CC:=(.reg [(qq eD (.mv z3)),(qq eJ (.fa 4 z1)),(qq fk (.ld1 fL)),(qq eE (.bi .and g9 (x6 65535))),(qq eY (.ci .u32 gA)),(qq gH (.bi .mul gC (.c (.i .u32 65536)))),(qq fo (.bi .add fK gD)),(qq a2 (.mv iE))])
def c25:CF:= .mk 6 [.t a2] (.seq ar8 (.seq ar9 (.seq as3 (.seq as4 .ret))))
theorem e25(v0:V):aS 6 [v0]=(.n mr (some v0) mr):=rfl
def B25:=ai @e25 (ai (wu ar8.eq_1) (ai (wu ar9.eq_1) (ai (wu as1.eq_1) (ai (wu as2.eq_1) (ai (wu as3.eq_1) (wu as4.eq_1))))))
theorem y5{op d a b i:Int}(h:bQ op d a b i=true):(aD op=5→i=0)∧(aD op≠5→b=0):=by
 unfold bQ at h
 simp only[aJ,Bool.or_eq_true,decide_eq_true_eq]at h
 obtain⟨h1,h2,h1003,h1004,h1005,h1006⟩:=h
 constructor
 ·intro hf;rcases h1006 with h1006|⟨h1006,_⟩
  ·exact h1006
  ·rw[hf]at h1006;cases h1006
 ·intro hf;have r1005:=qN h1005;by_cases hb:b=0
  ·exact hb
  ·have:=r1005.2.2 hb;unfold bI at this;simp only[decide_eq_true_eq]at this;exact absurd this hf
theorem t25(Φ:Nat→Option CF)(h:Φ 25=some c25)(h60:Φ 60=some (.orc (aj h41)))(op d a b i:Int)(hm:bQ op d a b i=true)(ct:Nat):
 To Φ 25 [.g [.i .i64 op,.i .i64 d,.i .i64 a,.i .i64 b,.i .i64 i]] ct (.i .u32 (cw op d a b i:Nat)):=by
 refine bL h ?_
 obtain⟨b1,b2,b1003,b1004,b1005,b1006,b1007,b1008,b21,b55,b1011⟩:=gy hm
 obtain⟨f1,f2⟩:=y5 hm
 obtain⟨o,rfl⟩:=Int.eq_ofNat_of_zero_le (show 0≤op by omega)
 obtain⟨d,rfl⟩:=Int.eq_ofNat_of_zero_le b1003
 obtain⟨a,rfl⟩:=Int.eq_ofNat_of_zero_le b1005
 obtain⟨b,rfl⟩:=Int.eq_ofNat_of_zero_le b1007
 obtain⟨j,hj⟩:=Int.eq_ofNat_of_zero_le (show 0≤i%65536 by omega)
 have a1:=zf i
 rw[hj]at a1
 have e1:=cJ o (by omega)
 have e1004:=cJ b (by omega)
 have e1005:=cJ j (by omega)
 have m1:bu .mul (.i .i64 16) (.i .i64 (d:Int))=some (.i .i64 (16*(d:Int))):=jq 16 d (by omega) (by omega)
 have m2:bu .add (.i .i64 (16*(d:Int))) (.i .i64 (a:Int))=some (.i .i64 ((16*d+a:Nat):Int)):=by rw[bA _ _ (by omega) (by omega)];congr 2
 have e1006:=cJ (16*d+a) (by omega)
 have m3:bu .mul (.i .u32 ((16*d+a:Nat):Int)) (.i .u32 256)=some (.i .u32 (((16*d+a)*256:Nat):Int)):=eP (16*d+a) 256 (by omega)
 have m4:bu .add (.i .u32 (o:Int)) (.i .u32 (((16*d+a)*256:Nat):Int))=some (.i .u32 ((o+(16*d+a)*256:Nat):Int)):=dg _ _ (by omega)
 have m5:bu .mul (.i .u32 (b:Int)) (.i .u32 65536)=some (.i .u32 ((b*65536:Nat):Int)):=eP b 65536 (by omega)
 have m6:bu .mul (.i .u32 (j:Int)) (.i .u32 65536)=some (.i .u32 ((j*65536:Nat):Int)):=eP j 65536 (by omega)
 have m7:bu .add (.i .u32 ((o+(16*d+a)*256:Nat):Int)) (.i .u32 ((b*65536:Nat):Int))=some (.i .u32 ((o+(16*d+a)*256+b*65536:Nat):Int)):=dg _ _ (by omega)
 have m8:bu .add (.i .u32 ((o+(16*d+a)*256:Nat):Int)) (.i .u32 ((j*65536:Nat):Int))=some (.i .u32 ((o+(16*d+a)*256+j*65536:Nat):Int)):=dg _ _ (by omega)
 simp only[WX,Nat.reduceAdd,B25,h60,mf,e1,m1,m2,e1006,m3,m4]
 refine iM (by simp only[WX];rfl) (fun h=>?_) (fun h=>?_)<;>simp only[WX,B25,h,e1004,e1005,m5,m6,m7,m8,a1]
 ·have hf:aD o=5:=aP h;have:=f1 hf;subst this
  congr 2
  unfold cw;omega
 ·have hf:aD o≠5:=of_decide_eq_false h;have:=f2 hf
  congr 2
  unfold cw;omega
def aN9:CC:=(.reg [(aa a2 (.al 59 [(.i .i64 0),(.i .i64 0),(.i .i64 0),(.i .i64 0),(.i .i64 0)])),(qq a3 (.mv (x6 0)))])
def aO0:CC:=(.reg [(qq a8 (.mv z0)),(qq a9 (.bi .and z8 (.c (.i .u32 255)))),(qq cg (.ci .i64 z9)),(qq cI (.bld [(.i .i64 0),(.i .i64 0),(.i .i64 0),(.i .i64 0),(.i .i64 0)] [(0,1,cj)])),(aa a4 (.al 59 [(.i .i64 0),(.i .i64 0),(.i .i64 0),(.i .i64 0),(.i .i64 0)])),(ez (.st 5 z4 cD))])
def aO1:CC:=(.reg [(qq de (.fa 0 z4)),(qq cH (.ld1 cS)),(ee db (.call 41 [cR])),(ee du (.call 40 [dD])),(aa a5 (.al 94 [(.b false),(.b false),(.b false),(.b false)])),(ez (.st 4 z5 dj))])
def aO2:CC:=(.reg [(qq dE (.fa 0 z5)),(qq dO (.ld1 dQ))])
def aO3:CC:=(.reg [(qq dY (.mv z0)),(qq eg (.bi .shr ey (.c (.i .u64 12)))),(qq eQ (.bi .and eV (.c (.i .u32 15)))),(qq dP (.ci .i64 eW)),(qq eB (.fa 1 z4)),(ez (.st 1 eX fm))])
def aO4:CC:=(.seq aO2 (.cond dM aO3 .skip))
def aO5:CC:=(.reg [(qq ec (.fa 1 z5)),(qq dH (.ld1 fG))])
def aO6:CC:=(.reg [(qq eR (.mv z0)),(qq eD (.bi .shr fJ (.c (.i .u64 8)))),(qq eJ (.bi .and fK (.c (.i .u32 15)))),(qq fk (.ci .i64 fL)),(qq eE (.fa 2 z4)),(ez (.st 1 gA g9))])
def aO7:CC:=(.seq aO5 (.cond fH aO6 .skip))
def RD:CC:=(.reg [(qq eY (.fa 2 z5)),(qq gH (.ld1 gC))])
def RE:CC:=(.reg [(qq fo (.mv z0)),(qq gu (.bi .shr iE (.c (.i .u64 16)))),(qq gh (.ci .i64 j1)),(qq iq (.fa 3 z4)),(ez (.st 1 jj ji))])
def RF:CC:=(.seq RD (.cond gD RE .skip))
def RG:CC:=(.reg [(qq j3 (.fa 3 z5)),(qq iO (.ld1 jz))])
def RH:CC:=(.reg [(qq ib (.mv z0)),(qq j4 (.bi .shr kf (.c (.i .u64 16)))),(qq gJ (.ci .i16 kq)),(qq jL (.ci .i64 kO)),(qq ja (.fa 4 z4)),(ez (.st 1 l5 kr))])
def RI:CC:=(.reg [(qq jA (.fa 0 z4)),(qq jB (.ld1 lJ)),(ee kl (.call 77 [lM]))])
def RJ:CC:=(.reg [(qq kg (.mv z0)),(qq km (.bi .shr mR (.c (.i .u64 16)))),(qq jb (.ci .i64 lN)),(qq ga (.fa 4 z4)),(ez (.st 1 mS n6))])
def RK:CC:=(.seq RI (.cond mE RJ .skip))
def RL:CC:=(.cond jk (.seq RH RK) .skip)
def RM:CC:=(.reg [(qq ko (.ldn 5 z4)),(ee jC (.call 55 [oH])),(qq mU (.mv pq)),(qq ig (.ex 0 oG)),(qq lK (.ex 1 oG)),(qq a6 (.mv oL)),(qq a7 (.mv qc))])
def RN:CC:=(.reg [(qq nh (.mv z7)),(qq ky (.bi .neq pv (x6 0))),(qq l6 (.mv oM)),(aL lL (.mv z6) l6),(aL oO (.mv z0) l6),(aL n7 (.bi .neq qf rv) l6),(qq l7 (.pk qd xT rx))])
def RQ:CC:=(.reg [(qq oJ (.bld [(.i .i64 0),(.i .i64 0),(.i .i64 0),(.i .i64 0),(.i .i64 0)] [])),(ez (.st 5 z2 ry)),(qq a3 (.mv (x6 4)))])
def RR:CC:=(.cond rB (.seq RQ .ret) .skip)
def RS:CC:=(.reg [(qq ni (.ldn 5 z4)),(ez (.st 5 z2 rz)),(qq a3 (.mv (x6 0)))])
def RT:CC:=(.seq (.seq RM (.seq RN RR)) (.seq RS .ret))
def RU:CC:=(.seq aO7 (.seq RF (.seq (.seq RG RL) RT)))
def c76:CF:= .mk 7 [.cn a2 5,.t a3] (.seq aN9 (.seq aO0 (.seq aO1 (.seq aO4 RU))))
theorem e76(v0:V):aS 7 [v0]=(.n tk (some v0) tk):=rfl
def B76:=ai @e76 (ai (wu aN9.eq_1) (ai (wu aO0.eq_1) (ai (wu aO1.eq_1) (ai (wu aO2.eq_1) (ai (wu aO3.eq_1) (ai (wu aO4.eq_1) (ai (wu aO5.eq_1) (ai (wu aO6.eq_1) (ai (wu aO7.eq_1) (ai (wu RD.eq_1) (ai (wu RE.eq_1) (ai (wu RF.eq_1) (ai (wu RG.eq_1) (ai (wu RH.eq_1) (ai (wu RI.eq_1) (ai (wu RJ.eq_1) (ai (wu RK.eq_1) (ai (wu RL.eq_1) (ai (wu RM.eq_1) (ai (wu RN.eq_1) (ai (wu RQ.eq_1) (ai (wu RR.eq_1) (ai (wu RS.eq_1) (ai (wu RT.eq_1) (wu RU.eq_1)))))))))))))))))))))))))
def w55(op d a b i:Int):Int:=if bQ op d a b i=true then(cw op d a b i:Nat)else 0
def vc(op d a b i:Int):Int:=if bQ op d a b i=true then 0 else 2
def h55:List V→Option V
 |[.g [.i .i64 op,.i .i64 d,.i .i64 a,.i .i64 b,.i .i64 i]]=>some (.t [.i .u32 (w55 op d a b i),.i .i64 (vc op d a b i)])
 |_=>none
theorem Di(op d a b i:Int):h55 [.g [.i .i64 op,.i .i64 d,.i .i64 a,.i .i64 b,.i .i64 i]]=some (.t [.i .u32 (w55 op d a b i),.i .i64 (vc op d a b i)]):=rfl
def pS(w:Nat):Int:=((w%256:Nat):Int)
def dW(w:Nat):Int:=if dI (aD (pS w))=true then((w/4096%16:Nat):Int)else 0
def aW(w:Nat):Int:=if aI (aD (pS w))=true then((w/256%16:Nat):Int)else 0
def bW(w:Nat):Int:=if bI (aD (pS w))=true then((w/65536:Nat):Int)else 0
def W1(w:Nat):Int:=if 32768≤w/65536 then((w/65536:Nat):Int)-65536 else((w/65536:Nat):Int)
def iW(w:Nat):Int:=if iI (aD (pS w))=true then(if pS w=3∨pS w=6 then((w/65536:Nat):Int)else W1 w)else 0
def Kd(w:Nat):V:=
 if bQ (pS w) (dW w) (aW w) (bW w) (iW w)=true∧cw (pS w) (dW w) (aW w) (bW w) (iW w)=w then .t [.g [.i .i64 (pS w),.i .i64 (dW w),.i .i64 (aW w),.i .i64 (bW w),.i .i64 (iW w)],.i .i64 0]
 else .t [.g [.i .i64 0,.i .i64 0,.i .i64 0,.i .i64 0,.i .i64 0],.i .i64 4]
theorem pZ(w:Nat)(hw:w<4294967296):bu .and (.i .u32 (w:Int)) (.i .u32 255)=some (.i .u32 ((w%256:Nat):Int)):=by
 have:=IH w 255 hw (by decide)
 rw[show(255:Nat)=2^8-1 from rfl,Nat.and_two_pow_sub_one_eq_mod]at this
 exact this
theorem oD(w:Nat)(hw:w<4294967296):bu .and (.i .u32 (w:Int)) (.i .u32 15)=some (.i .u32 ((w%16:Nat):Int)):=by
 have:=IH w 15 hw (by decide)
 rw[show(15:Nat)=2^4-1 from rfl,Nat.and_two_pow_sub_one_eq_mod]at this
 exact this
theorem yq(w:Nat):bu .shr (.i .u32 (w:Int)) (.i .u64 12)=some (.i .u32 ((w/4096:Nat):Int)):=uo w 12 (by decide)
theorem ru(w:Nat):bu .shr (.i .u32 (w:Int)) (.i .u64 8)=some (.i .u32 ((w/256:Nat):Int)):=uo w 8 (by decide)
theorem oF(w:Nat):bu .shr (.i .u32 (w:Int)) (.i .u64 16)=some (.i .u32 ((w/65536:Nat):Int)):=uo w 16 (by decide)
theorem bj9(w:Nat)(hw:w<4294967296):IntKind.i16.wrap ((w/65536:Nat):Int)=W1 w:=by
 rw[Xk]
 unfold W1
 split<;>split<;>omega
theorem ac7(w:Nat)(hw:w<4294967296):IntKind.i64.wrap (W1 w)=W1 w:=by
 unfold W1
 split<;>exact gg (by omega) (by omega)
theorem cn9{op d a b i:Int}{w:Nat}(h:decide (vc op d a b i≠0)=(!false)):¬(bQ op d a b i=true∧cw op d a b i=w):=by
 have h':=aP (show decide (vc op d a b i≠0)=true from h)
 unfold vc at h'
 intro hh
 rw[ac hh.1]at h'
 exact h' rfl
theorem co0{op d a b i:Int}{w:Nat}(h:decide (w55 op d a b i≠(w:Int))=true):¬(bQ op d a b i=true∧cw op d a b i=w):=by
 have h':=aP h
 unfold w55 at h'
 intro hh
 rw[ac hh.1,hh.2]at h'
 exact h' rfl
theorem ofY{op d a b i:Int}{w:Nat}(h:decide (vc op d a b i≠0)=false)(h2:decide (w55 op d a b i≠(w:Int))=false):bQ op d a b i=true∧cw op d a b i=w:=by
 have h':=of_decide_eq_false h
 have h2':=of_decide_eq_false h2
 unfold vc at h'
 unfold w55 at h2'
 by_cases hm:bQ op d a b i=true
 ·rw[ac hm]at h2';refine⟨hm,?_⟩;have:=Classical.not_not.1 h2';omega
 ·rw[ab hm]at h';exact absurd (by decide) h'
theorem t76(Φ:Nat→Option CF)(h:Φ 76=some c76)(h41:Φ 41=some (.orc (aj h41)))(h40:Φ 40=some (.orc (aj h40)))(AK:Φ 77=some (.orc (aj AK)))(h55:Φ 55=some (.orc (aj h55)))(w:Nat)(hw:w<4294967296)(ct:Nat):
 To Φ 76 [.i .u32 (w:Int)] ct (Kd w):=by
 refine bL h ?_
 have q1:=pZ w hw
 have q2:=fP (w%256) (by omega)
 have q3:=yq w
 have q4:=oD (w/4096) (by omega)
 have q5:=fP (w/4096%16) (by omega)
 have q6:=ru w
 have q7:=oD (w/256) (by omega)
 have q8:=fP (w/256%16) (by omega)
 have q9:=oF w
 have q10:=fP (w/65536) (by omega)
 have q11:=bj9 w hw
 have q12:=ac7 w hw
 unfold Kd dW aW bW iW
 have hop:pS w=((w%256:Nat):Int):=rfl
 rw[hop]
 generalize((w%256:Nat):Int)=op at *
 rcases nC op with hf|hf|hf|hf|hf|hf|hf
 all_goals
  simp only[WX,Nat.reduceBEq,Int.reduceEq,Nat.reduceAdd,Nat.reduceLeDiff,B76,h41,mf,h40,zd,AK,UZ,hf,dI,aI,bI,iI,q1,q2,q3,q4,q5,q6,q7,q8,q9,q10,q11,q12,h55,Di]
  repeat' first|(refine iM (by simp only[WX];rfl) (fun h=>?_) (fun h=>?_)<;>simp only[WX,Nat.reduceBEq,Nat.reduceAdd,Nat.reduceLeDiff,B76,h,h55,Di,q9,q10])|(refine wT (by simp only[WX];rfl) (fun h=>?_) (fun h=>?_)<;>simp only[WX,Nat.reduceAdd,Nat.reduceLeDiff,B76,h])
 all_goals first
  |rw[ac (show op=3∨op=6 from aP (by assumption))]
  |rw[ab (show¬(op=3∨op=6)from of_decide_eq_false (by assumption))]
  |skip
 all_goals first
  |rw[ac (ofY (by assumption) (by assumption))]
  |rw[ab (co0 (by assumption))]
  |rw[ab (cn9 (by assumption))]
def aW1:CC:=(.reg [(aa a2 (.al 59 [(.i .i64 0),(.i .i64 0),(.i .i64 0),(.i .i64 0),(.i .i64 0)])),(qq a3 (.mv (x6 0)))])
def aW2:CC:=(.reg [(qq a9 (.mv z0)),(qq cg (.bi .and z9 (.c (.i .u32 255)))),(qq cI (.ci .i64 cj)),(qq de (.bld [(.i .i64 0),(.i .i64 0),(.i .i64 0),(.i .i64 0),(.i .i64 0)] [(0,1,cD)])),(aa a4 (.al 59 [(.i .i64 0),(.i .i64 0),(.i .i64 0),(.i .i64 0),(.i .i64 0)])),(ez (.st 5 z4 cS))])
def aW3:CC:=(.reg [(qq db (.fa 0 z4)),(qq du (.ld1 dD)),(ee dE (.call 60 [dj])),(ee dO (.call 59 [dQ])),(qq cH (.mv dM)),(qq dY (.ex 0 cR)),(qq eg (.ex 1 cR)),(qq eQ (.ex 2 cR)),(qq dP (.ex 3 cR)),(qq a5 (.mv ey)),(qq a6 (.mv eV)),(qq a7 (.mv eW)),(qq a8 (.mv fm))])
def aW4:CC:=(.reg [(qq eB (.mv z5))])
def aW5:CC:=(.reg [(qq ec (.mv z0)),(qq dH (.bi .shr fG (.c (.i .u64 12)))),(qq eR (.bi .and fH (.c (.i .u32 15)))),(qq eD (.ci .i64 fJ)),(qq eJ (.fa 1 z4)),(ez (.st 1 fL fK))])
def aW6:CC:=(.seq aW4 (.cond eX aW5 .skip))
def aW7:CC:=(.reg [(qq fk (.mv z6))])
def aW8:CC:=(.reg [(qq eE (.mv z0)),(qq eY (.bi .shr gA (.c (.i .u64 8)))),(qq gH (.bi .and gC (.c (.i .u32 15)))),(qq fo (.ci .i64 gD)),(qq gu (.fa 2 z4)),(ez (.st 1 j1 iE))])
def aW9:CC:=(.seq aW7 (.cond g9 aW8 .skip))
def TQ:CC:=(.reg [(qq gh (.mv z7))])
def TR:CC:=(.reg [(qq iq (.mv z0)),(qq j3 (.bi .shr jj (.c (.i .u64 16)))),(qq iO (.bi .and jz (.c (.i .u32 255)))),(qq ib (.ci .i64 jk)),(qq j4 (.fa 3 z4)),(ez (.st 1 kq kf))])
def TS:CC:=(.seq TQ (.cond ji TR .skip))
def TT:CC:=(.reg [(qq gJ (.mv z8))])
def TU:CC:=(.reg [(qq jL (.mv z0)),(qq ja (.bi .shr kr (.c (.i .u64 16)))),(qq jA (.ci .i64 l5)),(qq jB (.fa 4 z4)),(ez (.st 1 lM lJ))])
def TV:CC:=(.reg [(qq kl (.fa 0 z4)),(qq kg (.ld1 mE)),(qq km (.bi .neq mR (x6 3))),(qq jb (.mv lN)),(ak ga (.fa 0 z4) jb),(ak mU (.ld1 mS) jb),(ak ko (.bi .neq oG (x6 6)) jb),(qq jC (.pk n6 oH xF)),(qq ig (.mv pq)),(ak lK (.fa 4 z4) ig),(ak nh (.ld1 qc) ig),(ak ky (.bi .gtr pv (x6 32767)) ig),(qq l6 (.pk oL oM xF))])
def TW:CC:=(.reg [(qq lL (.fa 4 z4)),(qq oO (.ld1 qf)),(qq n7 (.bi .sub rv (x6 65536))),(qq l7 (.fa 4 z4)),(ez (.st 1 rB rx))])
def TX:CC:=(.seq TV (.cond qd TW .skip))
def TY:CC:=(.cond kO (.seq TU TX) .skip)
def TZ:CC:=(.reg [(qq oJ (.ldn 5 z4)),(ee ni (.call 62 [ry])),(qq oP (.un .not rz)),(qq oK (.mv ww)),(aL nj (.ldn 5 z4) oK),(tM oQ (.call 25 [u6]) oK),(aL lP (.mv z0) oK),(aL nk (.bi .neq uu uv) oK),(qq sI (.pk sE xT u7))])
def U0:CC:=(.reg [(qq sJ (.bld [(.i .i64 0),(.i .i64 0),(.i .i64 0),(.i .i64 0),(.i .i64 0)] [])),(ez (.st 5 z2 wy)),(qq a3 (.mv (x6 4)))])
def U1:CC:=(.cond uw (.seq U0 .ret) .skip)
def U2:CC:=(.reg [(qq rF (.ldn 5 z4)),(ez (.st 5 z2 wU)),(qq a3 (.mv (x6 0)))])
def U3:CC:=(.seq (.seq TT TY) (.seq (.seq TZ U1) (.seq U2 .ret)))
def U4:CC:=(.seq aW2 (.seq aW3 (.seq aW6 (.seq aW9 (.seq TS U3)))))
def c93:CF:= .mk 7 [.cn a2 5,.t a3] (.seq aW1 U4)
theorem e93(v0:V):aS 7 [v0]=(.n tk (some v0) tk):=rfl
def B93:=ai @e93 (ai (wu aW1.eq_1) (ai (wu aW2.eq_1) (ai (wu aW3.eq_1) (ai (wu aW4.eq_1) (ai (wu aW5.eq_1) (ai (wu aW6.eq_1) (ai (wu aW7.eq_1) (ai (wu aW8.eq_1) (ai (wu aW9.eq_1) (ai (wu TQ.eq_1) (ai (wu TR.eq_1) (ai (wu TS.eq_1) (ai (wu TT.eq_1) (ai (wu TU.eq_1) (ai (wu TV.eq_1) (ai (wu TW.eq_1) (ai (wu TX.eq_1) (ai (wu TY.eq_1) (ai (wu TZ.eq_1) (ai (wu U0.eq_1) (ai (wu U1.eq_1) (ai (wu U2.eq_1) (ai (wu U3.eq_1) (wu U4.eq_1))))))))))))))))))))))))
def h62:List V→Option V
 |[.g [.i .i64 op,.i .i64 d,.i .i64 a,.i .i64 b,.i .i64 i]]=>some (.b (bQ op d a b i))
 |_=>none
theorem Dj(op d a b i:Int):h62 [.g [.i .i64 op,.i .i64 d,.i .i64 a,.i .i64 b,.i .i64 i]]=some (.b (bQ op d a b i)):=rfl
def h25:List V→Option V
 |[.g [.i .i64 op,.i .i64 d,.i .i64 a,.i .i64 b,.i .i64 i]]=>if bQ op d a b i=true then some (.i .u32 (cw op d a b i:Nat))else none
 |_=>none
theorem UU{op d a b i:Int}(h:(!bQ op d a b i)=false):h25 [.g [.i .i64 op,.i .i64 d,.i .i64 a,.i .i64 b,.i .i64 i]]=some (.i .u32 (cw op d a b i:Nat)):=by
 show(if bQ op d a b i=true then some (V.i .u32 (cw op d a b i:Nat))else none)=_
 rw[ac (by simpa using h)]
def bR(w:Nat):Int:=if bI (aD (pS w))=true then((w/65536%256:Nat):Int)else 0
def KB(w:Nat):V:=
 if bQ (pS w) (dW w) (aW w) (bR w) (iW w)=true∧cw (pS w) (dW w) (aW w) (bR w) (iW w)=w then .t [.g [.i .i64 (pS w),.i .i64 (dW w),.i .i64 (aW w),.i .i64 (bR w),.i .i64 (iW w)],.i .i64 0]
 else .t [.g [.i .i64 0,.i .i64 0,.i .i64 0,.i .i64 0,.i .i64 0],.i .i64 4]
theorem cy8{op d a b i:Int}{w:Nat}(h:(!bQ op d a b i)=(!false)):¬(bQ op d a b i=true∧cw op d a b i=w):=by
 intro hh
 rw[hh.1]at h;cases h
theorem cy9{op d a b i:Int}{w:Nat}(h:decide (((cw op d a b i:Nat):Int)≠(w:Int))=true):¬(bQ op d a b i=true∧cw op d a b i=w):=by
 have h':=aP h
 intro hh
 exact h' (by rw[hh.2])
theorem rfY{op d a b i:Int}{w:Nat}(h:(!bQ op d a b i)=false)(h2:decide (((cw op d a b i:Nat):Int)≠(w:Int))=false):bQ op d a b i=true∧cw op d a b i=w:=by
 have h':=of_decide_eq_false h2
 exact⟨by simpa using h,by have:=Classical.not_not.1 h';omega⟩
theorem t93(Φ:Nat→Option CF)(h:Φ 93=some c93)(h60:Φ 60=some (.orc (aj h41)))(h59:Φ 59=some (.orc (aj h59)))(h62:Φ 62=some (.orc (aj h62)))(h25:Φ 25=some (.orc (aj h25)))(w:Nat)(hw:w<4294967296)(ct:Nat):
 To Φ 93 [.i .u32 (w:Int)] ct (KB w):=by
 refine bL h ?_
 have q1:=pZ w hw
 have q2:=fP (w%256) (by omega)
 have q3:=yq w
 have q4:=oD (w/4096) (by omega)
 have q5:=fP (w/4096%16) (by omega)
 have q6:=ru w
 have q7:=oD (w/256) (by omega)
 have q8:=fP (w/256%16) (by omega)
 have q9:=oF w
 have q10:=fP (w/65536) (by omega)
 have q11:=pZ (w/65536) (by omega)
 have q12:=fP (w/65536%256) (by omega)
 have q13:IntKind.i64.wrap (((w/65536:Nat):Int)-65536)=((w/65536:Nat):Int)-65536:=gg (by omega) (by omega)
 unfold KB dW aW bR iW
 have hop:pS w=((w%256:Nat):Int):=rfl
 rw[hop]
 generalize((w%256:Nat):Int)=op at *
 rcases nC op with hf|hf|hf|hf|hf|hf|hf
 all_goals
  simp only[WX,Int.reduceEq,Nat.reduceAdd,Nat.reduceLeDiff,B93,h60,mf,h59,ze,hf,dI,aI,bI,iI,q1,q2,q3,q4,q5,q6,q7,q8,q9,q10,q11,q12,h62,Dj]
  repeat' first|(refine iM (by simp only[WX];rfl) (fun h=>?_) (fun h=>?_)<;>simp only[WX,Nat.reduceAdd,Nat.reduceLeDiff,B93,h,h62,Dj,q13])|(refine wT (by simp only[WX];rfl) (fun h=>?_) (fun h=>?_)<;>simp only[WX,Nat.reduceAdd,Nat.reduceLeDiff,B93,h,h62,Dj,h25,UU])
 all_goals first
  |(have e:(if op=3∨op=6 then((w/65536:Nat):Int)else W1 w)=((w/65536:Nat):Int):=by(simp only[decide_eq_true_eq,decide_eq_false_iff_not,Bool.not_true,Bool.not_false,ne_eq,Classical.not_not]at *;unfold W1;(repeat' split)<;>omega)
    rw[e])
  |(have e:(if op=3∨op=6 then((w/65536:Nat):Int)else W1 w)=((w/65536:Nat):Int)-65536:=by(simp only[decide_eq_true_eq,decide_eq_false_iff_not,Bool.not_false,ne_eq,Classical.not_not]at *;unfold W1;(repeat' split)<;>omega)
    rw[e])
  |skip
 all_goals first
  |rw[ac (rfY (by assumption) (by assumption))]
  |rw[ab (cy9 (by assumption))]
  |rw[ab (cy8 (by assumption))]
theorem Io(w:Nat)(hw:w<4294967296):KB w=Kd w:=by
 unfold KB Kd
 by_cases hb:bI (aD (pS w))=true
 ·have e1:bW w=((w/65536:Nat):Int):=ac hb;have e2:bR w=((w/65536%256:Nat):Int):=ac hb;by_cases h:w/65536<256
  ·have:bR w=bW w:=by rw[e1,e2,Nat.mod_eq_of_lt h]
   rw[this]
  ·have hf:aD (pS w)=5:=aP hb;have hi:iW w=0:=ab (by rw[hf];decide);rw[ab,ab]
   ·rintro⟨hm,_⟩;have:=gy hm;rw[e1]at this;omega
   ·rintro⟨hm,hw2⟩;have hbd:=gy hm;unfold cw at hw2;rw[hi]at hw2;have:bR w<256:=by rw[e2];omega
    omega
 ·have e1:bW w=0:=ab hb;have e2:bR w=0:=ab hb;rw[e1,e2]
def Lv(w:Nat):Bool:=decide (bQ (pS w) (dW w) (aW w) (bW w) (iW w)=true∧cw (pS w) (dW w) (aW w) (bW w) (iW w)=w)
def okI(w:Nat)(x:Int):Int:=if Lv w=true then x else 0
def erW(w:Nat):Int:=if Lv w=true then 0 else 4
theorem nK(w:Nat):Kd w= .t [.g [.i .i64 (okI w (pS w)),.i .i64 (okI w (dW w)),.i .i64 (okI w (aW w)),.i .i64 (okI w (bW w)),.i .i64 (okI w (iW w))],.i .i64 (erW w)]:=by
 unfold Kd okI erW Lv
 by_cases h:bQ (pS w) (dW w) (aW w) (bW w) (iW w)=true∧cw (pS w) (dW w) (aW w) (bW w) (iW w)=w
 ·rw[ac h];simp only[af h,if_true]
 ·rw[ab h];simp only[ag h,aR,if_false]
def aw6:CC:=(.reg [(aa a2 (.al 59 [(.i .i64 0),(.i .i64 0),(.i .i64 0),(.i .i64 0),(.i .i64 0)])),(qq a3 (.mv (x6 0)))])
def aw7:CC:=(.reg [(qq a4 (.mv z0)),(qq a5 (.ln .slice z4)),(qq a6 (.bi .neq z5 (x6 4)))])
def aw8:CC:=(.reg [(qq a7 (.bld [(.i .i64 0),(.i .i64 0),(.i .i64 0),(.i .i64 0),(.i .i64 0)] [])),(ez (.st 5 z2 z7)),(qq a3 (.mv (x6 4)))])
def aw9:CC:=(.seq aw7 (.cond z6 (.seq aw8 .ret) .skip))
def ax0:CC:=(.dreg 27 [(0,0,(qq a8 (.mv z0))),(1,1,(qq a9 (.iaS 1 z8 (x6 0)))),(2,3,(qq cg (.ld1 z9))),(3,7,(qq cI (.ci .u32 cj))),(4,0,(qq de (.mv z0))),(5,16,(qq cH (.iaS 1 cS (x6 1)))),(6,48,(qq db (.ld1 cR))),(7,112,(qq du (.ci .u32 dD))),(8,240,(qq dE (.bi .shl dj (.c (.i .u64 8))))),(9,511,(qq dO (.bi .or cD dQ))),(10,0,(qq dY (.mv z0))),(11,1024,(qq eg (.iaS 1 ey (x6 2)))),(12,3072,(qq eQ (.ld1 eV))),(13,7168,(qq dP (.ci .u32 eW))),(14,15360,(qq eB (.bi .shl fm (.c (.i .u64 16))))),(15,32767,(qq ec (.bi .or dM eX))),(16,0,(qq dH (.mv z0))),(17,65536,(qq eR (.iaS 1 fH (x6 3)))),(18,196608,(qq eD (.ld1 fJ))),(19,458752,(qq eJ (.ci .u32 fK))),(20,983040,(qq fk (.bi .shl fL (.c (.i .u64 24))))),(21,2097151,(qq eE (.bi .or fG g9))),(22,4194303,(ee eY (.call 76 [gA]))),(23,8388607,(qq gH (.ex 0 gC))),(24,8388607,(qq fo (.ex 1 gC))),(25,33554431,(ez (.st 5 z2 gD))),(26,67108863,(qq a3 (.mv iE)))])
def c38:CF:= .mk 6 [.cn a2 5,.t a3] (.seq aw6 (.seq aw9 (.seq ax0 .ret)))
theorem e38(v0:V):aS 6 [v0]=(.n mr (some v0) mr):=rfl
def B38:=ai @e38 (ai (wu aw6.eq_1) (ai (wu aw7.eq_1) (ai (wu aw8.eq_1) (ai (wu aw9.eq_1) (wu ax0.eq_1)))))
def h76:List V→Option V
 |[.i .u32 (.ofNat w)]=>if w<4294967296 then some (Kd w)else none
 |_=>none
theorem be0(w:Nat)(h:w<4294967296):h76 [.i .u32 (w:Int)]=some (Kd w):=ac h
def vz:V:= .t [.g [.i .i64 0,.i .i64 0,.i .i64 0,.i .i64 0,.i .i64 0],.i .i64 4]
def aL7:CC:=(.reg [(aa a2 (.al 59 [(.i .i64 0),(.i .i64 0),(.i .i64 0),(.i .i64 0),(.i .i64 0)])),(qq a3 (.mv (x6 0)))])
def aL8:CC:=(.reg [(qq a4 (.mv z0)),(qq a5 (.ln .slice z4)),(qq a6 (.bi .neq z5 (x6 4)))])
def aL9:CC:=(.reg [(qq a7 (.bld [(.i .i64 0),(.i .i64 0),(.i .i64 0),(.i .i64 0),(.i .i64 0)] [])),(ez (.st 5 z2 z7)),(qq a3 (.mv (x6 4)))])
def aM0:CC:=(.seq aL8 (.cond z6 (.seq aL9 .ret) .skip))
def aM1:CC:=(.dreg 27 [(0,0,(qq a8 (.mv z0))),(1,1,(qq a9 (.iaS 1 z8 (x6 0)))),(2,3,(qq cg (.ld1 z9))),(3,7,(qq cI (.ci .u32 cj))),(4,0,(qq de (.mv z0))),(5,16,(qq cH (.iaS 1 cS (x6 1)))),(6,48,(qq db (.ld1 cR))),(7,112,(qq du (.ci .u32 dD))),(8,240,(qq dE (.bi .shl dj (.c (.i .u64 8))))),(9,511,(qq dO (.bi .add cD dQ))),(10,0,(qq dY (.mv z0))),(11,1024,(qq eg (.iaS 1 ey (x6 2)))),(12,3072,(qq eQ (.ld1 eV))),(13,7168,(qq dP (.ci .u32 eW))),(14,15360,(qq eB (.bi .shl fm (.c (.i .u64 16))))),(15,32767,(qq ec (.bi .add dM eX))),(16,0,(qq dH (.mv z0))),(17,65536,(qq eR (.iaS 1 fH (x6 3)))),(18,196608,(qq eD (.ld1 fJ))),(19,458752,(qq eJ (.ci .u32 fK))),(20,983040,(qq fk (.bi .shl fL (.c (.i .u64 24))))),(21,2097151,(qq eE (.bi .add fG g9))),(22,4194303,(ee eY (.call 93 [gA]))),(23,8388607,(qq gH (.ex 0 gC))),(24,8388607,(qq fo (.ex 1 gC))),(25,33554431,(ez (.st 5 z2 gD))),(26,67108863,(qq a3 (.mv iE)))])
def c63:CF:= .mk 6 [.cn a2 5,.t a3] (.seq aL7 (.seq aM0 (.seq aM1 .ret)))
theorem e63(v0:V):aS 6 [v0]=(.n mr (some v0) mr):=rfl
def B63:=ai @e63 (ai (wu aL7.eq_1) (ai (wu aL8.eq_1) (ai (wu aL9.eq_1) (ai (wu aM0.eq_1) (wu aM1.eq_1)))))
def h93:List V→Option V
 |[.i .u32 (.ofNat w)]=>if w<4294967296 then some (KB w)else none
 |_=>none
theorem be4(w:Nat)(h:w<4294967296):h93 [.i .u32 (w:Int)]=some (KB w):=ac h
def Bl:List UInt8→V
 |[a,b,c,d]=>Kd (a.toNat+256*b.toNat+65536*c.toNat+16777216*d.toNat)
 |_=>vz
theorem Bm{l:List UInt8}(h:l.length≠4):Bl l=vz:=by
 match l with
 |[]=>rfl
 |[_]=>rfl
 |[_,_]=>rfl
 |[_,_,_]=>rfl
 |[_,_,_,_]=>exact absurd rfl h
 |_::_::_::_::_::_=>rfl
theorem Vm{l:List UInt8}(h:l.length=4):∃a b c d,l=[a,b,c,d]:=by
 match l with
 |[a,b,c,d]=>exact⟨a,b,c,d,rfl⟩
theorem r38(Φ:Nat→Option CF)(h:Φ 38=some c38)(h76:Φ 76=some (.orc (aj h76))){F:RO}{M:Mem}{c:Nat}{v:V}{l:List UInt8}(ok:eA F M c)(hs:l9 F M c v l):
 Calls Φ F 38 [v] M c fun r M' c'=>r=Bl l∧Gr c M c' M':=by
 have hl:=hs.len
 refine ax h ?_
 by_cases h1004:l.length=4
 ·obtain⟨x0,x1,x2,x3,rfl⟩:=Vm h1004;obtain⟨b0,o0,hb0,i0,r0⟩:=hs.get 0 (by simp);obtain⟨b1,o1,hb1,i1,r1⟩:=hs.get 1 (by simp);obtain⟨b2,o2,hb2,i2,r2⟩:=hs.get 2 (by simp);obtain⟨b1003,o1003,hb3,i3,r1003⟩:=hs.get 3 (by simp);have i0:dS 1 v (.i .i64 0)=some (.p b0 o0):=i0 _;have i1:dS 1 v (.i .i64 1)=some (.p b1 o1):=i1 _;have i2:dS 1 v (.i .i64 2)=some (.p b2 o2):=i2 _;have i3:dS 1 v (.i .i64 3)=some (.p b1003 o1003):=i3 _;have n0:b0≠c:=by omega
  have n1:b1≠c:=by omega
  have n2:b2≠c:=by omega
  have n3:b1003≠c:=by omega
  have hl:Dv v=some (.i .i64 4):=hl;have r0:load1 F M b0 o0=some (.i .u8 (x0.toNat:Int)):=r0;have r1:load1 F M b1 o1=some (.i .u8 (x1.toNat:Int)):=r1;have r2:load1 F M b2 o2=some (.i .u8 (x2.toNat:Int)):=r2;have r1003:load1 F M b1003 o1003=some (.i .u8 (x3.toNat:Int)):=r1003;have k0:=UInt8.toNat_lt x0;have k1:=UInt8.toNat_lt x1;have k2:=UInt8.toNat_lt x2;have k3:=UInt8.toNat_lt x3;have hfree:=ok.free_set;show Wp _ _ _ (j5 F _ fun r M' c'=>r=Kd (x0.toNat+256*x1.toNat+65536*x2.toNat+16777216*x3.toNat)∧Gr c M c' M');generalize x0.toNat=c0 at *;generalize x1.toNat=c1 at *;generalize x2.toNat=c2 at *;generalize x3.toNat=c1003 at *;have e0:=cJ c0 (by omega);have e1:=cJ c1 (by omega);have e2:=cJ c2 (by omega);have e1003:=cJ c1003 (by omega);have s1:=wo c1 (by omega);have s2:=oE c2 (by omega);have s3:=yp c1003 (by omega);have n1':(c0|||256*c1)=c0+256*c1:=HZ c0 c1 k0;have n2':(c0+256*c1|||65536*c2)=c0+256*c1+65536*c2:=vJ _ c2 (by omega);have n3':(c0+256*c1+65536*c2|||16777216*c1003)=c0+256*c1+65536*c2+16777216*c1003:=by
   rw[Nat.or_comm,←Nat.two_pow_add_eq_or_of_lt (show c0+256*c1+65536*c2<2^24 by omega) c1003];omega
  have p1:=qa c0 (256*c1) (by omega) (by omega);have p2:=qa (c0+256*c1) (65536*c2) (by omega) (by omega);have p3:=qa (c0+256*c1+65536*c2) (16777216*c1003) (by omega) (by omega);rw[n1']at p1;rw[n2']at p2;rw[n3']at p3;have hq:=be0 (c0+256*c1+65536*c2+16777216*c1003) (by omega);rw[nK]at hq;rw[nK];clear n1' n2' n3';generalize c0+256*c1+65536*c2+16777216*c1003=a3 at *;generalize c0+256*c1+65536*c2=a2 at *;generalize c0+256*c1=a1 at *;clear h1004 hs;simp only[WX,Nat.reducePow,Nat.reduceDiv,Nat.reduceMod,Nat.reduceBEq,Nat.reduceAdd,Nat.reduceLeDiff,j0,B38,not_true_eq_false,hl,i0,i1,i2,i3,r0,r1,r2,r1003,e0,e1,e2,e1003,s1,s2,s3,p1,p2,p3,h76,hq,hfree,n0,n1,n2,n3,ne_eq,not_false_eq_true];exact(Gr.refl ok).set c _ (ah _) (by omega) (by omega)
 ·have hd:decide ((l.length:Int)≠4)=true:=af (by omega);rw[Bm h1004];simp only[WX,Nat.reduceAdd,Nat.reduceLeDiff,B38,hl,hd,vz];exact(Gr.refl ok).set c _ (ah _) (by omega) (by omega)
theorem r63(Φ:Nat→Option CF)(h:Φ 63=some c63)(h93:Φ 93=some (.orc (aj h93))){F:RO}{M:Mem}{c:Nat}{v:V}{l:List UInt8}(ok:eA F M c)(hs:l9 F M c v l):
 Calls Φ F 63 [v] M c fun r M' c'=>r=Bl l∧Gr c M c' M':=by
 have hl:=hs.len
 refine ax h ?_
 by_cases h1004:l.length=4
 ·obtain⟨x0,x1,x2,x3,rfl⟩:=Vm h1004;obtain⟨b0,o0,hb0,i0,r0⟩:=hs.get 0 (by simp);obtain⟨b1,o1,hb1,i1,r1⟩:=hs.get 1 (by simp);obtain⟨b2,o2,hb2,i2,r2⟩:=hs.get 2 (by simp);obtain⟨b1003,o1003,hb3,i3,r1003⟩:=hs.get 3 (by simp);have i0:dS 1 v (.i .i64 0)=some (.p b0 o0):=i0 _;have i1:dS 1 v (.i .i64 1)=some (.p b1 o1):=i1 _;have i2:dS 1 v (.i .i64 2)=some (.p b2 o2):=i2 _;have i3:dS 1 v (.i .i64 3)=some (.p b1003 o1003):=i3 _;have n0:b0≠c:=by omega
  have n1:b1≠c:=by omega
  have n2:b2≠c:=by omega
  have n3:b1003≠c:=by omega
  have hl:Dv v=some (.i .i64 4):=hl;have r0:load1 F M b0 o0=some (.i .u8 (x0.toNat:Int)):=r0;have r1:load1 F M b1 o1=some (.i .u8 (x1.toNat:Int)):=r1;have r2:load1 F M b2 o2=some (.i .u8 (x2.toNat:Int)):=r2;have r1003:load1 F M b1003 o1003=some (.i .u8 (x3.toNat:Int)):=r1003;have k0:=UInt8.toNat_lt x0;have k1:=UInt8.toNat_lt x1;have k2:=UInt8.toNat_lt x2;have k3:=UInt8.toNat_lt x3;have hfree:=ok.free_set;show Wp _ _ _ (j5 F _ fun r M' c'=>r=Kd (x0.toNat+256*x1.toNat+65536*x2.toNat+16777216*x3.toNat)∧Gr c M c' M');generalize x0.toNat=c0 at *;generalize x1.toNat=c1 at *;generalize x2.toNat=c2 at *;generalize x3.toNat=c1003 at *;have e0:=cJ c0 (by omega);have e1:=cJ c1 (by omega);have e2:=cJ c2 (by omega);have e1003:=cJ c1003 (by omega);have s1:=wo c1 (by omega);have s2:=oE c2 (by omega);have s3:=yp c1003 (by omega);have p1:=dg c0 (256*c1) (by omega);have p2:=dg (c0+256*c1) (65536*c2) (by omega);have p3:=dg (c0+256*c1+65536*c2) (16777216*c1003) (by omega);have hq:=be4 (c0+256*c1+65536*c2+16777216*c1003) (by omega);rw[Io _ (by omega),nK]at hq;rw[nK];generalize c0+256*c1+65536*c2+16777216*c1003=a3 at *;generalize c0+256*c1+65536*c2=a2 at *;generalize c0+256*c1=a1 at *;clear h1004 hs;simp only[WX,Nat.reducePow,Nat.reduceDiv,Nat.reduceMod,Nat.reduceBEq,Nat.reduceAdd,Nat.reduceLeDiff,j0,B63,not_true_eq_false,hl,i0,i1,i2,i3,r0,r1,r2,r1003,e0,e1,e2,e1003,s1,s2,s3,p1,p2,p3,h93,hq,hfree,n0,n1,n2,n3,ne_eq,not_false_eq_true];exact(Gr.refl ok).set c _ (ah _) (by omega) (by omega)
 ·have hd:decide ((l.length:Int)≠4)=true:=af (by omega);rw[Bm h1004];simp only[WX,Nat.reduceAdd,Nat.reduceLeDiff,B63,hl,hd,vz];exact(Gr.refl ok).set c _ (ah _) (by omega) (by omega)
def az4:CC:=(.reg [(qq a5 (.bi .eql z3 (x6 3))),(qq a4 (.mv z5))])
def az5:CC:=(.reg [(qq a7 (.bi .eql z3 (x6 23))),(qq a6 (.mv z7))])
def az6:CC:=(.reg [(qq a9 (.bi .eql z3 (x6 24))),(qq a8 (.mv z9))])
def az7:CC:=(.reg [(qq cI (.bi .eql z3 (x6 5))),(qq cg (.mv cD))])
def az8:CC:=(.reg [(qq de (.bi .eql z3 (x6 6))),(qq cg (.mv cS))])
def az9:CC:=(.reg [(qq cH (.bi .eql z3 (x6 25))),(qq cg (.mv cR))])
def aA0:CC:=(.cond cj .skip (.seq az8 (.cond cj .skip az9)))
def aA1:CC:=(.seq (.seq az7 aA0) (.cond cj (.exit 4) .skip))
def aA2:CC:=(.reg [(qq du (.bi .eql z3 (x6 7))),(qq db (.mv dj))])
def Q2:CC:=(.seq aA1 (.seq aA2 (.cond dD (.exit 5) .skip)))
def Q3:CC:=(.seq (.seq az6 (.cond z8 (.exit 3) .skip)) Q2)
def Q4:CC:=(.seq (.seq az5 (.cond z6 (.exit 2) .skip)) Q3)
def Q5:CC:=(.seq (.seq az4 (.cond z4 (.exit 1) .skip)) Q4)
def Q6:CC:=(.seq (.reg [(qq a2 (.mv (x6 1)))]) .ret)
def Q7:CC:=(.seq (.block 2 (.block 1 (.seq Q5 (.exit 0)))) (.seq Q6 (.exit 0)))
def Q8:CC:=(.seq (.reg [(qq a2 (.mv (x6 2)))]) .ret)
def Q9:CC:=(.seq (.reg [(qq a2 (.mv (x6 3)))]) .ret)
def Qa:CC:=(.seq (.block 4 (.seq (.block 3 Q7) (.seq Q8 (.exit 0)))) (.seq Q9 (.exit 0)))
def Qb:CC:=(.seq (.reg [(qq a2 (.mv (x6 4)))]) .ret)
def Qc:CC:=(.seq (.reg [(qq a3 (.mv z0))]) (.block 0 (.seq (.block 5 Qa) (.seq Qb (.exit 0)))))
def Qd:CC:=(.reg [(qq dO (.mv z0)),(qq dY (.bi .geq dM (x6 8))),(qq eg (.mv ey)),(ak eQ (.mv z0) eg),(ak dP (.bi .leq eW (x6 17)) eg),(qq eB (.pk eV fm xF)),(qq dE (.mv eX))])
def Qe:CC:=(.seq (.reg [(qq a2 (.mv (x6 5)))]) .ret)
def Qf:CC:=(.reg [(qq dH (.mv z0)),(qq eR (.bi .geq fH (x6 18))),(qq eD (.mv fJ)),(ak eJ (.mv z0) eD),(ak fk (.bi .leq fL (x6 22)) eD),(qq eE (.pk fK g9 xF)),(qq eY (.mv gA)),(aL gH (.mv z0) eY),(aL fo (.bi .geq gD (x6 26)) eY),(aL gu (.mv iE) eY),(ak gh (.mv z0) gu),(ak iq (.bi .leq ji (x6 28)) gu),(aL j3 (.pk j1 jj xF) eY),(qq iO (.pk gC xT jz)),(qq ec (.mv jk))])
def Qg:CC:=(.seq (.reg [(qq a2 (.mv (x6 6)))]) .ret)
def Qh:CC:=(.seq Qf (.cond fG Qg .skip))
def Qi:CC:=(.seq Qd (.cond dQ Qe Qh))
def Qj:CC:=(.seq (.reg [(qq a2 (.mv (x6 0)))]) .ret)
def Qk:CC:=(.seq (.reg [(qq a2 (.mv (x6 0)))]) (.seq Qc (.seq (.block 6 Qi) Qj)))
def c41:CF:= .mk 6 [.t a2] Qk
theorem e41(v0:V):aS 6 [v0]=(.n mr (some v0) mr):=rfl
def B41:=ai @e41 (ai (wu az4.eq_1) (ai (wu az5.eq_1) (ai (wu az6.eq_1) (ai (wu az7.eq_1) (ai (wu az8.eq_1) (ai (wu az9.eq_1) (ai (wu aA0.eq_1) (ai (wu aA1.eq_1) (ai (wu aA2.eq_1) (ai (wu Q2.eq_1) (ai (wu Q3.eq_1) (ai (wu Q4.eq_1) (ai (wu Q5.eq_1) (ai (wu Q6.eq_1) (ai (wu Q7.eq_1) (ai (wu Q8.eq_1) (ai (wu Q9.eq_1) (ai (wu Qa.eq_1) (ai (wu Qb.eq_1) (ai (wu Qc.eq_1) (ai (wu Qd.eq_1) (ai (wu Qe.eq_1) (ai (wu Qf.eq_1) (ai (wu Qg.eq_1) (ai (wu Qh.eq_1) (ai (wu Qi.eq_1) (ai (wu Qj.eq_1) (wu Qk.eq_1))))))))))))))))))))))))))))
def aJ4:CC:=(.reg [(qq a5 (.bi .eql z3 (x6 3))),(qq a4 (.mv z5))])
def aJ5:CC:=(.reg [(qq a6 (.bi .eql z3 (x6 23))),(qq a4 (.mv z6))])
def aJ6:CC:=(.seq (.reg [(qq a2 (.mv (x6 1)))]) .ret)
def aJ7:CC:=(.reg [(qq a8 (.bi .eql z3 (x6 24))),(qq a7 (.mv z8))])
def aJ8:CC:=(.seq (.reg [(qq a2 (.mv (x6 2)))]) .ret)
def aJ9:CC:=(.reg [(qq cg (.bi .eql z3 (x6 5))),(qq a9 (.mv cj))])
def aK0:CC:=(.reg [(qq cI (.bi .eql z3 (x6 6))),(qq a9 (.mv cD))])
def aK1:CC:=(.reg [(qq de (.bi .eql z3 (x6 25))),(qq a9 (.mv cS))])
def aK2:CC:=(.cond z9 .skip (.seq aK0 (.cond z9 .skip aK1)))
def QE:CC:=(.seq (.reg [(qq a2 (.mv (x6 3)))]) .ret)
def QF:CC:=(.reg [(qq db (.bi .eql z3 (x6 7))),(qq cH (.mv dD))])
def QG:CC:=(.seq (.reg [(qq a2 (.mv (x6 4)))]) .ret)
def QH:CC:=(.reg [(qq dE (.bi .eql z3 (x6 8))),(qq du (.mv dQ))])
def QI:CC:=(.reg [(qq dO (.bi .eql z3 (x6 9))),(qq du (.mv dM))])
def QJ:CC:=(.reg [(qq dY (.bi .eql z3 (x6 10))),(qq du (.mv ey))])
def QK:CC:=(.reg [(qq eg (.bi .eql z3 (x6 11))),(qq du (.mv eV))])
def QL:CC:=(.reg [(qq eQ (.bi .eql z3 (x6 12))),(qq du (.mv eW))])
def QM:CC:=(.reg [(qq dP (.bi .eql z3 (x6 13))),(qq du (.mv fm))])
def QN:CC:=(.reg [(qq eB (.bi .eql z3 (x6 14))),(qq du (.mv eX))])
def QP:CC:=(.reg [(qq ec (.bi .eql z3 (x6 15))),(qq du (.mv fG))])
def QQ:CC:=(.reg [(qq dH (.bi .eql z3 (x6 16))),(qq du (.mv fH))])
def QS:CC:=(.reg [(qq eR (.bi .eql z3 (x6 17))),(qq du (.mv fJ))])
def QT:CC:=(.seq QQ (.cond dj .skip QS))
def QU:CC:=(.seq QP (.cond dj .skip QT))
def QW:CC:=(.seq QN (.cond dj .skip QU))
def QX:CC:=(.seq QM (.cond dj .skip QW))
def QY:CC:=(.seq QL (.cond dj .skip QX))
def QZ:CC:=(.seq QK (.cond dj .skip QY))
def R0:CC:=(.seq QJ (.cond dj .skip QZ))
def R5:CC:=(.seq QI (.cond dj .skip R0))
def R6:CC:=(.seq QH (.cond dj .skip R5))
def R8:CC:=(.seq (.reg [(qq a2 (.mv (x6 5)))]) .ret)
def R9:CC:=(.reg [(qq eJ (.bi .eql z3 (x6 18))),(qq eD (.mv fL))])
def Ra:CC:=(.reg [(qq fk (.bi .eql z3 (x6 19))),(qq eD (.mv g9))])
def Rb:CC:=(.reg [(qq eE (.bi .eql z3 (x6 20))),(qq eD (.mv gA))])
def Rc:CC:=(.reg [(qq eY (.bi .eql z3 (x6 21))),(qq eD (.mv gC))])
def Rd:CC:=(.reg [(qq gH (.bi .eql z3 (x6 22))),(qq eD (.mv gD))])
def Re:CC:=(.reg [(qq fo (.bi .eql z3 (x6 26))),(qq eD (.mv iE))])
def Rf:CC:=(.reg [(qq gu (.bi .eql z3 (x6 27))),(qq eD (.mv j1))])
def Rg:CC:=(.reg [(qq gh (.bi .eql z3 (x6 28))),(qq eD (.mv ji))])
def Rh:CC:=(.seq Rf (.cond fK .skip Rg))
def Ri:CC:=(.seq Re (.cond fK .skip Rh))
def Rj:CC:=(.seq Rd (.cond fK .skip Ri))
def Rk:CC:=(.seq Rc (.cond fK .skip Rj))
def Rl:CC:=(.seq Rb (.cond fK .skip Rk))
def Rm:CC:=(.seq Ra (.cond fK .skip Rl))
def Rn:CC:=(.seq R9 (.cond fK .skip Rm))
def Ro:CC:=(.seq (.reg [(qq a2 (.mv (x6 6)))]) .ret)
def Rq:CC:=(.seq Rn (.cond fK Ro .skip))
def Rr:CC:=(.seq R6 (.cond dj R8 Rq))
def Rt:CC:=(.cond z9 QE (.seq QF (.cond cR QG Rr)))
def Ru:CC:=(.cond z7 aJ8 (.seq (.seq aJ9 aK2) Rt))
def Rv:CC:=(.seq (.seq aJ4 (.cond z4 .skip aJ5)) (.cond z4 aJ6 (.seq aJ7 Ru)))
def Rw:CC:=(.seq (.reg [(qq a3 (.mv z0))]) (.block 0 Rv))
def Rx:CC:=(.seq (.reg [(qq a2 (.mv (x6 0)))]) .ret)
def Ry:CC:=(.seq (.reg [(qq a2 (.mv (x6 0)))]) (.seq Rw Rx))
def c60:CF:= .mk 6 [.t a2] Ry
theorem e60(v0:V):aS 6 [v0]=(.n mr (some v0) mr):=rfl
def B60:=ai @e60 (ai (wu aJ4.eq_1) (ai (wu aJ5.eq_1) (ai (wu aJ6.eq_1) (ai (wu aJ7.eq_1) (ai (wu aJ8.eq_1) (ai (wu aJ9.eq_1) (ai (wu aK0.eq_1) (ai (wu aK1.eq_1) (ai (wu aK2.eq_1) (ai (wu QE.eq_1) (ai (wu QF.eq_1) (ai (wu QG.eq_1) (ai (wu QH.eq_1) (ai (wu QI.eq_1) (ai (wu QJ.eq_1) (ai (wu QK.eq_1) (ai (wu QL.eq_1) (ai (wu QM.eq_1) (ai (wu QN.eq_1) (ai (wu QP.eq_1) (ai (wu QQ.eq_1) (ai (wu QS.eq_1) (ai (wu QT.eq_1) (ai (wu QU.eq_1) (ai (wu QW.eq_1) (ai (wu QX.eq_1) (ai (wu QY.eq_1) (ai (wu QZ.eq_1) (ai (wu R0.eq_1) (ai (wu R5.eq_1) (ai (wu R6.eq_1) (ai (wu R8.eq_1) (ai (wu R9.eq_1) (ai (wu Ra.eq_1) (ai (wu Rb.eq_1) (ai (wu Rc.eq_1) (ai (wu Rd.eq_1) (ai (wu Re.eq_1) (ai (wu Rf.eq_1) (ai (wu Rg.eq_1) (ai (wu Rh.eq_1) (ai (wu Ri.eq_1) (ai (wu Rj.eq_1) (ai (wu Rk.eq_1) (ai (wu Rl.eq_1) (ai (wu Rm.eq_1) (ai (wu Rn.eq_1) (ai (wu Ro.eq_1) (ai (wu Rq.eq_1) (ai (wu Rr.eq_1) (ai (wu Rt.eq_1) (ai (wu Ru.eq_1) (ai (wu Rv.eq_1) (ai (wu Rw.eq_1) (ai (wu Rx.eq_1) (wu Ry.eq_1))))))))))))))))))))))))))))))))))))))))))))))))))))))))
theorem t41(Φ:Nat→Option CF)(h:Φ 41=some c41)(op:Int)(ct:Nat):To Φ 41 [.i .i64 op] ct (.i .i64 (aD op)):=by
 refine bL h ?_
 simp only[WX,B41]
 repeat' first|(refine iM (by simp only[WX];rfl) (fun h=>?_) (fun h=>?_)<;>simp only[WX,Nat.reduceEqDiff,reduceCtorEq,B41,h])|(refine wT (by simp only[WX];rfl) (fun h=>?_) (fun h=>?_)<;>simp only[WX,B41,h])
 all_goals (simp only[decide_eq_true_eq,decide_eq_false_iff_not,Bool.not_true,Bool.not_false]at *;congr 1;unfold aD;repeat' split)
 all_goals first|rfl|omega
theorem t60(Φ:Nat→Option CF)(h:Φ 60=some c60)(op:Int)(ct:Nat):To Φ 60 [.i .i64 op] ct (.i .i64 (aD op)):=by
 refine bL h ?_
 simp only[WX,B60]
 repeat' first|(refine iM (by simp only[WX];rfl) (fun h=>?_) (fun h=>?_)<;>simp only[WX,B60,h])|(refine wT (by simp only[WX,Nat.reducePow,Nat.reduceDiv,Nat.reduceMod,Nat.reduceBEq,Nat.reduceEqDiff,Int.reduceEq,Int.reduceLT,Int.reduceLE,reduceIte,reduceCtorEq,Nat.reduceAdd,Nat.reduceLeDiff,j0];rfl) (fun h=>?_) (fun h=>?_)<;>simp only[WX,Nat.reducePow,Nat.reduceDiv,Nat.reduceMod,Nat.reduceBEq,Nat.reduceEqDiff,Int.reduceEq,Int.reduceLT,Int.reduceLE,reduceIte,reduceCtorEq,Nat.reduceAdd,Nat.reduceLeDiff,j0,B60,h])
 all_goals (simp only[decide_eq_true_eq,decide_eq_false_iff_not]at *;congr 1;unfold aD;repeat' split)
 all_goals first|rfl|omega
theorem vG:fq (fun _=>False) fR:=by unfold fR;simp[fq,bd]
theorem Vt(op:Int):bd (fun _=>False) (mL op):=by
 unfold mL
 split
 ·cases hn:fR[op.toNat]? with
  |none=>trivial
  |some x=>exact(jm _ _).1 vG x (List.mem_of_getElem? hn)
 ·trivial
theorem cA4(Φ:Nat→Option CF)(h:Φ 55=some c55)(h39:Φ 39=some (.orc (aj h39)))(op d a b i:Int)(ct:Nat):
 To Φ 55 [.g [.i .i64 op,.i .i64 d,.i .i64 a,.i .i64 b,.i .i64 i]] ct (.t [.i .u32 (w55 op d a b i),.i .i64 (vc op d a b i)]):=by
 have:=t55 Φ h h39 op d a b i ct
 unfold w55 vc
 by_cases hm:bQ op d a b i=true
 ·simp only[hm,if_true]at this⊢;exact this
 ·simp only[hm]at this⊢;exact this
section
variable{P:Program}(hm:P.follows .mixedOrders=true){Φ:Nat→Option CF}(hΦ:eC P Φ)
include hm hΦ
theorem o41(h:Φ 41=some c41):bg P 41 (aj h41):=bK hm hΦ (by
 intro args v ct hv hct;unfold h41 at hv;split at hv
 ·obtain rfl:=ae hv;exact⟨trivial,t41 Φ h _ _⟩
 ·cases hv)
theorem o60(h:Φ 60=some c60):bg P 60 (aj h41):=bK hm hΦ (by
 intro args v ct hv hct;unfold h41 at hv;split at hv
 ·obtain rfl:=ae hv;exact⟨trivial,t60 Φ h _ _⟩
 ·cases hv)
theorem o40(h:Φ 40=some c40):bg P 40 (aj h40):=bK hm hΦ (by
 intro args v ct hv hct;unfold h40 at hv;split at hv
 ·obtain rfl:=ae hv;exact⟨⟨trivial,trivial,trivial,trivial,trivial⟩,t40 Φ h _ _⟩
 ·cases hv)
theorem o59(h:Φ 59=some c59):bg P 59 (aj h59):=bK hm hΦ (by
 intro args v ct hv hct;unfold h59 at hv;split at hv
 ·obtain rfl:=ae hv;exact⟨⟨trivial,trivial,trivial,trivial,trivial⟩,t59 Φ h _ _⟩
 ·cases hv)
theorem o78(h:Φ 78=some c78):bg P 78 (aj V0):=bK hm hΦ (by
 intro args v ct hv hct;unfold V0 at hv;split at hv
 ·obtain rfl:=ae hv;exact⟨trivial,t78 Φ h _ _⟩
 ·cases hv)
theorem o77(h:Φ 77=some c77):bg P 77 (aj AK):=bK hm hΦ (by
 intro args v ct hv hct;unfold AK at hv;split at hv
 ·obtain rfl:=ae hv;exact⟨trivial,t77 Φ h _ _⟩
 ·cases hv)
theorem o92(h:Φ 92=some c92):bg P 92 (aj V3):=bK hm hΦ (by
 intro args v ct hv hct;unfold V3 at hv;split at hv
 ·obtain rfl:=ae hv;exact⟨trivial,t92 Φ h _ _ _⟩
 ·cases hv)
theorem o79(h:Φ 79=some c79):bg P 79 (aj h79):=bK hm hΦ (by
 intro args v ct hv hct;unfold h79 at hv;split at hv
 ·obtain rfl:=ae hv;exact⟨vG,t79 Φ h _⟩
 ·cases hv)
theorem o42(h:Φ 42=some c42)(h79:Φ 79=some (.orc (aj h79))):bg P 42 (aj AJ):=bK hm hΦ (by
 intro args v ct hv hct;unfold AJ at hv;split at hv
 ·obtain rfl:=ae hv;exact⟨Vt _,t42 Φ h h79 _ _⟩
 ·cases hv)
theorem o62(h:Φ 62=some c62)(h60:Φ 60=some (.orc (aj h41)))(h59:Φ 59=some (.orc (aj h59)))(V3:Φ 92=some (.orc (aj V3))):bg P 62 (aj h62):=bK hm hΦ (by
 intro args v ct hv hct;unfold h62 at hv;split at hv
 ·obtain rfl:=ae hv;exact⟨trivial,t62 Φ h h60 h59 V3 _ _ _ _ _ _⟩
 ·cases hv)
theorem o39(h:Φ 39=some c39)(h41:Φ 41=some (.orc (aj h41)))(h40:Φ 40=some (.orc (aj h40)))(AK:Φ 77=some (.orc (aj AK)))(V0:Φ 78=some (.orc (aj V0)))(AJ:Φ 42=some (.orc (aj AJ))):bg P 39 (aj h39):=bK hm hΦ (by
 intro args v ct hv hct;unfold h39 at hv;split at hv
 ·obtain rfl:=ae hv;exact⟨trivial,t39 Φ h h41 h40 AK V0 AJ _ _ _ _ _ _⟩
 ·cases hv)
theorem o55(h:Φ 55=some c55)(h39:Φ 39=some (.orc (aj h39))):bg P 55 (aj h55):=bK hm hΦ (by
 intro args v ct hv hct;unfold h55 at hv;split at hv
 ·obtain rfl:=ae hv;exact⟨⟨trivial,trivial,trivial⟩,cA4 Φ h h39 _ _ _ _ _ _⟩
 ·cases hv)
theorem o25(h:Φ 25=some c25)(h60:Φ 60=some (.orc (aj h41))):bg P 25 (aj h25):=bK hm hΦ (by
 intro args v ct hv hct;unfold h25 at hv;split at hv
 ·split at hv
  ·obtain rfl:=ae hv;exact⟨trivial,t25 Φ h h60 _ _ _ _ _ (by assumption) _⟩
  ·cases hv
 ·cases hv)
theorem o76(h:Φ 76=some c76)(h41:Φ 41=some (.orc (aj h41)))(h40:Φ 40=some (.orc (aj h40)))(AK:Φ 77=some (.orc (aj AK)))(h55:Φ 55=some (.orc (aj h55))):bg P 76 (aj h76):=bK hm hΦ (by
 intro args v ct hv hct;unfold h76 at hv;split at hv
 ·split at hv
  ·obtain rfl:=ae hv;refine⟨?_,t76 Φ h h41 h40 AK h55 _ (by assumption) _⟩;rw[nK];exact⟨⟨trivial,trivial,trivial,trivial,trivial,trivial⟩,trivial,trivial⟩
  ·cases hv
 ·cases hv)
theorem o93(h:Φ 93=some c93)(h60:Φ 60=some (.orc (aj h41)))(h59:Φ 59=some (.orc (aj h59)))(h62:Φ 62=some (.orc (aj h62)))(h25:Φ 25=some (.orc (aj h25))):bg P 93 (aj h93):=bK hm hΦ (by
 intro args v ct hv hct;unfold h93 at hv;split at hv
 ·split at hv
  ·obtain rfl:=ae hv;refine⟨?_,t93 Φ h h60 h59 h62 h25 _ (by assumption) _⟩;rw[Io _ (by assumption),nK];exact⟨⟨trivial,trivial,trivial,trivial,trivial,trivial⟩,trivial,trivial⟩
  ·cases hv
 ·cases hv)
end
def aH7:CC:=(.reg [(aa a1 (.bsl 9 29 1 [(.s 0 0)] [(0,(.c (.s 0 0))),(1,(.c (.s 3 7368558))),(2,(.c (.s 4 1886352499))),(3,(.c (.s 4 1819042147))),(4,(.c (.s 4 1801675106))),(5,(.c (.s 5 500152823651))),(6,(.c (.s 4 1751607656))),(7,(.c (.s 4 2037411683))),(8,(.c (.s 3 6579297))),(9,(.c (.s 3 6452595))),(10,(.c (.s 3 7107949))),(11,(.c (.s 3 7760228))),(12,(.c (.s 3 6582125))),(13,(.c (.s 3 6581857))),(14,(.c (.s 2 29295))),(15,(.c (.s 3 7499640))),(16,(.c (.s 3 7104627))),(17,(.c (.s 3 7497843))),(18,(.c (.s 4 1768186977))),(19,(.c (.s 4 1684107116))),(20,(.c (.s 5 435711603827))),(21,(.c (.s 5 422590902124))),(22,(.c (.s 6 108187851125875))),(23,(.c (.s 4 1886221674))),(24,(.c (.s 5 491512493418))),(25,(.c (.s 4 1802398060))),(26,(.c (.s 3 7431522))),(27,(.c (.s 3 6647394))),(28,(.c (.s 3 7629922)))])),(qq a0 (.mv z1))])
def aH8:CC:=(.seq (.reg [(qq a0 (.mv (.c .l0)))]) (.seq aH7 .ret))
def c58:CF:= .mk 2 [.t a0] aH8
theorem e58:aS 2 []=mN:=rfl
def B58:=ai @e58 (ai (wu aH7.eq_1) (wu aH8.eq_1))
def aV8:CC:=(.seq (.reg [(qq a0 (.mv (.c (.f 120 [] []))))]) .ret)
def c91:CF:= .mk 1 [.t a0] (.seq (.reg [(qq a0 (.mv (.c .f0)))]) aV8)
theorem e91:aS 1 []=sk1:=rfl
def B91:=ai @e91 (wu aV8.eq_1)
def MW:CC:=(.reg [(ee a4 (.call 79 [])),(qq a5 (.mv (x6 0)))])
def MX:CC:=(.reg [(qq a6 (.bi .lss z5 (x6 29)))])
def MY:CC:=(.reg [(qq a7 (.mv z5)),(qq a8 (.ixA1 29 1 z4 z5)),(qq a2 (.mv z7)),(qq a3 (.mv z8))])
def MZ:CC:=(.reg [(qq a9 (.mv z2)),(qq cg (.bi .gtr z9 (x6 0))),(qq cI (.mv cj)),(ak de (.mv z0) cI),(ak cH (.mv z2) cI),(ak db (.mv z3) cI),(ed du (.cv cS [cR,dD]) cI),(ak dE (.un .not dj) cI),(qq dO (.pk cD dQ xF))])
def N0:CC:=(.seq MZ (.cond dM .ret .skip))
def N1:CC:=(.reg [(qq dY (.bi .add z5 (x6 1))),(qq a5 (.mv ey))])
def N2:CC:=(.seq (.cond z6 .skip (.exit 0)) (.seq (.block 1 (.seq MY N0)) N1))
def Jy:CF:= .mk 5 [] (.seq MW (.block 0 (.loop (.seq MX N2))))
theorem cl2(v0:V):aS 5 [v0]=(.n l8 (some v0) l8):=rfl
def Lz:=ai @cl2 (ai (wu MW.eq_1) (ai (wu MX.eq_1) (ai (wu MY.eq_1) (ai (wu MZ.eq_1) (ai (wu N0.eq_1) (ai (wu N1.eq_1) (wu N2.eq_1)))))))
def d9:List (List UInt8):=[[],[110,111,112],[115,116,111,112],[99,97,108,108],[98,97,99,107],[99,111,110,115,116],[104,105,103,104],[99,111,112,121],[97,100,100],[115,117,98],[109,117,108],[100,105,118],[109,111,100],[97,110,100],[111,114],[120,111,114],[115,104,108],[115,104,114],[97,100,100,105],[108,111,97,100],[115,116,111,114,101],[108,111,97,100,98],[115,116,111,114,101,98],[106,117,109,112],[106,117,109,112,114],[108,105,110,107],[98,101,113],[98,110,101],[98,108,116]]
theorem Vv:fR=d9.map sV:=rfl
theorem dx:d9.length=29:=rfl
theorem y7{k:Nat}(h:k<29):fR[k]?=some (sV (d9[k]'h)):=by
 rw[Vv,List.getElem?_map,List.getElem?_eq_getElem (show k<d9.length from h)];rfl
theorem t91(Φ:Nat→Option CF)(h:Φ 91=some c91)(ct:Nat):To Φ 91 [] ct (.f 120 [] []):=by
 refine bL h ?_
 simp only[WX,B91]
def h91:List V→Option V
 |[]=>some (.f 120 [] [])
 |_=>none
theorem be2:h91 []=some (.f 120 [] []):=rfl
theorem cy1(Φ:Nat→Option CF)(h:Φ 120=some Jy)(h79:Φ 79=some (.orc (aj h79))){F:RO}{M:Mem}{c y:Nat}{I:Nat→Mem→Nat→Prop}{J:Mem→Nat→Prop}(h0:I 1 M c)
 (hY:∀k M c,(hk:k<29)→1≤k→I k M c→wY (lh (K Φ none 120 F) (.y y) [.i .i64 (k:Int),sV (d9[k]'hk)] M c) fun r M' c'=>(r= .b true∧I (k+1) M' c')∨(r= .b false∧J M' c')):
 Calls Φ F 120 [.y y] M c fun _ M' c'=>I 29 M' c'∨J M' c':=by
 refine ax h ?_
 simp only[WX,Lz,h79,V1]
 obtain⟨Iv,hIv⟩:∃Iv:Nat→St→Prop,∀n s,Iv n s↔(∃(k:Nat) (M1:Mem) (c1:Nat) (u:List (Option V)),n=29-k∧k≤29∧s= .mk ((.n (.n (ay u 15 7 23 3 19 11 27) (uO u 1) (.n (eH u 17 9 25) (some (.i .i64 (k:Int))) (eH u 21 13 29))) (some (.y y)) (.n (.n (eH u 16 8 24) (some (.g fR)) (eH u 20 12 28)) (uO u 2) (ay u 18 10 26 6 22 14 30)))) [] M1 c1∧I (max k 1) M1 c1):=⟨fun n s=>_,fun _ _=>Iff.rfl⟩
 refine cX Iv ?_ 29 _ ((hIv _ _).2 ⟨0,_,_,[none,_,_,_,none,none,_,_,_,_,_,_,_,_,_,_,_,_,_,_,_,_,_,_,_,_,_,_,_,_,_],rfl,aM _,rfl,h0⟩)
 intro n s hIs
 obtain⟨k,M1,c1,u,rfl,hk,rfl,hi⟩:=(hIv _ _).1 hIs
 clear hIs
 have q8:bu .add (.i .i64 (k:Int)) (.i .i64 1)=some (.i .i64 ((k+1:Nat):Int)):=by rw[bA _ _ (by omega) (by omega)];simp
 by_cases hlt:k<29
 ·have hd:decide ((k:Int)<29)=true:=af (by omega);have hix:Vd 29 1 (.g fR) (.i .i64 (k:Int))=some (sV (d9[k]'hlt)):=by
   rw[Ve,ac (by omega)];exact y7 hlt
  by_cases h1:1≤k
  ·have hd1:decide (0<(k:Int))=true:=af (by omega);rw[show max k 1=k by omega]at hi;simp only[WX,Lz,hd,hix,hd1];refine aB ((hY k M1 c1 hlt h1 hi).mono ?_);rintro r M3 c1003 (⟨rfl,hi3⟩|⟨rfl,hj⟩)
   ·simp only[WX,Lz,q8];exact⟨29-(k+1),by omega,(hIv _ _).2 ⟨k+1,M3,c1003,[none,_,_,_,none,none,_,_,_,_,_,_,_,_,_,_,_,_,_,_,_,_,_,_,_,_,_,_,_,_,_],rfl,by omega,rfl,by rw[show max (k+1) 1=k+1 by omega];exact hi3⟩⟩
   ·simp only[WX];exact .inr hj
  ·obtain rfl:k=0:=by omega
   have hd1:decide (0<((0:Nat):Int))=false:=rfl;simp only[WX,Lz,hd,hix,q8,hd1];exact⟨28,by omega,(hIv _ _).2 ⟨1,M1,c1,[none,_,_,_,none,none,_,_,_,_,_,_,_,_,_,_,_,_,_,_,_,_,_,_,_,_,_,_,_,_,_],rfl,by omega,rfl,hi⟩⟩
 ·have hd:decide ((k:Int)<29)=false:=ag (by omega);obtain rfl:k=29:=by omega
  simp only[WX,Lz,hd];exact .inl hi
def aE9:CC:=(.reg [(aa a1 (.bx 9 1 z0)),(aa a2 (.al 57 [(.i .i64 0)])),(aa a3 (.al 4 [(.b false)]))])
def Ql:CC:=(.reg [(qq a4 (.mv z7))])
def Qm:CC:=(.reg [(qq a5 (.mv z8))])
def aF0:CC:=(.reg [(qq a9 (.mv z5)),(qq cg (.ld1 z1)),(qq cI (.bi .eql z9 cj))])
def aF1:CC:=(.reg [(qq de (.mv z4)),(ez (.st 1 z2 cS)),(ez (.st 1 z3 xT))])
def Qn:CC:=(.seq aF0 (.cond cD (.seq aF1 .ret) .skip))
def aF2:CC:=(.rf z6 [a7,a8] (.seq Ql Qm) (.block 1 Qn))
def aF3:CC:=(.seq (.reg [(ee a6 (.call 91 []))]) (.block 0 aF2))
def aF4:CC:=(.reg [(ez (.st 1 z2 (x6 0))),(ez (.st 1 z3 xF))])
def c54:CF:= .mk 4 [.c1 a2,.c1 a3] (.seq aE9 (.seq aF3 (.seq aF4 .ret)))
theorem e54(v0:V):aS 4 [v0]=(.n iC (some v0) iC):=rfl
def B54:=ai @e54 (ai (wu aE9.eq_1) (ai (wu Ql.eq_1) (ai (wu Qm.eq_1) (ai (wu aF0.eq_1) (ai (wu aF1.eq_1) (ai (wu Qn.eq_1) (ai (wu aF2.eq_1) (ai (wu aF3.eq_1) (wu aF4.eq_1)))))))))
def C7(s:List UInt8)(k:Nat):Prop:=1≤k∧d9[k]?=some s
theorem vu{s:List UInt8}{j k:Nat}(h:C7 s j)(h':C7 s k):j=k:=by
 obtain⟨_,h1⟩:=h
 obtain⟨_,h2⟩:=h'
 obtain⟨a1,e1⟩:=List.getElem?_eq_some_iff.1 h1
 obtain⟨a2,e2⟩:=List.getElem?_eq_some_iff.1 h2
 have key:∀a b,a<29→b<29→d9[a]?=d9[b]?→a=b:=by
  have:∀a,a<29→ ∀b,b<29→d9[a]?=d9[b]?→a=b:=by decide+kernel
  exact fun a b ha hb=>this a ha b hb
 exact key j k a1 a2 (h1.trans h2.symm)
def b58(s:List UInt8)(n:Int)(b:Bool):Prop:=(∃k,C7 s k∧n=(k:Int)∧b=true)∨((∀k,¬C7 s k)∧n=0∧b=false)
theorem r54(Φ:Nat→Option CF)(h:Φ 54=some c54)(h91:Φ 91=some (.orc (aj h91)))(h79:Φ 79=some (.orc (aj h79)))(h120:Φ 120=some Jy){F:RO}{M:Mem}{c:Nat}(s:List UInt8)(ok:eA F M c):
 Calls Φ F 54 [sV s] M c fun r M' c'=>(∃n b,r= .t [.i .i64 n,.b b]∧b58 s n b)∧Gr c M c' M':=by
 refine ax h ?_
 have f1:flatten (sV s)=[sV s]:=rfl
 have f2:dq (sV s)=true:=rfl
 simp only[WX,Nat.reduceAdd,B54,f1,f2,h91,be2]
 refine Xi ?_
 simp only[WX,Nat.reduceAdd,Hi]
 obtain⟨BL,hBL⟩:∃BL:LS→ng→bz,BL=fun st p=>bz.loop st p 54 ((.n (.n (.n sk1 (some (.p (c+2) 0)) sk1) (some (.p c 0)) mN) (some (sV s)) (.n mN (some (.p (c+1) 0)) (.n sk1 (some (.f 120 [] [])) sk1)))) [(.l (.l (.l .h))),(.r (.l (.l .h)))] (Ql.seq Qm) (.block 1 Qn) (c+3):=⟨_,rfl⟩
 obtain⟨Ik,hIk⟩:∃I:Nat→Mem→Nat→Prop,∀k M' cc,I k M' cc↔(Gr c M cc M'∧c+5≤cc∧M'.get c=some (aK 9 [sV s])∧M'.get (c+1)=some (aK 57 [.i .i64 0])∧M'.get (c+2)=some (aK 4 [.b false])∧M'.get (c+3)=some (.defs false)∧M'.get (c+4)=some (BL .ready .none)∧ ∀j,j<k→ ¬C7 s j):=⟨fun k M' cc=>_,fun _ _ _=>Iff.rfl⟩
 obtain⟨J,hJ⟩:∃J:Mem→Nat→Prop,∀M' cc,J M' cc↔(∃k,C7 s k∧Gr c M cc M'∧c+5≤cc∧M'.get (c+1)=some (aK 57 [.i .i64 (k:Int)])∧M'.get (c+2)=some (aK 4 [.b true])∧M'.get (c+3)=some (.defs false)∧M'.get (c+4)=some (BL .done .ret)):=⟨fun M' cc=>_,fun _ _=>Iff.rfl⟩
 refine(cy1 Φ h120 h79 (y:=c+4) (I:=Ik) (J:=J) ?_ ?_).mono ?_
 ·refine(hIk _ _ _).2 ⟨(((((Gr.refl ok).set (c2:=c+1) c _ (ah _) (by omega) (by omega)).set (c2:=c+2) (c+1) _ (by omega) (by omega) (by omega)).set (c2:=c+3) (c+2) _ (by omega) (by omega) (by omega)).set (c2:=c+4) (c+3) _ (by omega) (by omega) (by omega)).set (c+4) _ (by omega) (by omega) (by omega),by omega,?_,?_,?_,?_,?_,fun j hj hn=>by have:=hn.1;omega⟩
  ·rw[aq _ _ (by omega),aq _ _ (by omega),aq _ _ (by omega),aq _ _ (by omega)];exact aw _ _ _
  ·rw[aq _ _ (by omega),aq _ _ (by omega),aq _ _ (by omega)];exact aw _ _ _
  ·rw[aq _ _ (by omega),aq _ _ (by omega)];exact aw _ _ _
  ·rw[aq _ _ (by omega)];exact aw _ _ _
  ·rw[hBL];exact aw _ _ _
 ·intro k M2 cc hk hk1 hi;obtain⟨a1,a2,a3,a4,a5,a6,a7,a8⟩:=(hIk _ _ _).1 hi;have hl5:=a7;rw[hBL]at hl5;refine C0 hl5 (pj _ _ _ _ _) ?_;simp only[WX,B54];refine Fg hl5 ?_;rw[show bz.loop LS.busy _ _ _ _ _ _ _=BL .busy .none by rw[hBL]];have gMB:=a1.set (c2:=cc) (c+4) (BL .busy .none) (by omega) (by omega) (ah _);have m3:(M2.set (c+4) (BL .busy .none)).get c=some (aK 9 [sV s]):=(aq _ _ (by omega)).trans a3;have m4:(M2.set (c+4) (BL .busy .none)).get (c+1)=some (aK 57 [.i .i64 0]):=(aq _ _ (by omega)).trans a4;have m5:(M2.set (c+4) (BL .busy .none)).get (c+2)=some (aK 4 [.b false]):=(aq _ _ (by omega)).trans a5;have m6:(M2.set (c+4) (BL .busy .none)).get (c+3)=some (.defs false):=(aq _ _ (by omega)).trans a6;have m7:(M2.set (c+4) (BL .busy .none)).get (c+4)=some (BL .busy .none):=aw _ _ _;generalize M2.set (c+4) (BL .busy .none)=MB at gMB m3 m4 m5 m6 m7⊢;have l1003:load1 F MB c 0=some (sV s):=bZ m3 0;by_cases he:d9[k]'hk=s
  ·have d1:decide (d9[k]'hk=s)=true:=af he;have hs1:=bC m4 0 [.i .i64 (k:Int)] (by simp) rfl;have m5':(MB.set (c+1) (aK 57 [.i .i64 (k:Int)])).get (c+2)=some (aK 4 [.b false]):=(aq _ _ (by omega)).trans m5;have hs2:=bC m5' 0 [.b true] (by simp) rfl;simp only[WX,B54,l1003,d1,hs1,hs2];have hly:((MB.set (c+1) (aK 57 [V.i .i64 (k:Int)])).set (c+2) (aK 4 [V.b true])).get (c+4)=some (BL .busy .none):=by rw[aq _ _ (by omega),aq _ _ (by omega)];exact m7
   rw[hBL]at hly;refine bq6 hly ?_;refine Or.inr ⟨rfl,(hJ _ _).2 ⟨k,⟨hk1,?_⟩,((gMB.set (c+1) _ (by omega) (by omega) (ah _)).set (c+2) _ (by omega) (by omega) (ah _)).set (c+4) _ (by omega) (by omega) (ah _),a2,?_,?_,?_,?_⟩⟩
   ·exact(List.getElem?_eq_getElem (show k<d9.length from hk)).trans (congrArg some he)
   ·rw[aq _ _ (by omega),aq _ _ (by omega)];exact aw _ _ _
   ·rw[aq _ _ (by omega)];exact aw _ _ _
   ·rw[aq _ _ (by omega),aq _ _ (by omega),aq _ _ (by omega)];exact m6
   ·rw[hBL];exact aw _ _ _
  ·have d1:decide (d9[k]'hk=s)=false:=ag he;simp only[WX,B54,l1003,d1];have hly:=m7;rw[hBL]at hly;refine Xq hly ?_;refine Or.inl ⟨rfl,(hIk _ _ _).2 ⟨gMB.set (c+4) _ (by omega) (by omega) (ah _),a2,?_,?_,?_,?_,?_,fun j hj hn=>?_⟩⟩
   ·rw[aq _ _ (by omega)];exact m3
   ·rw[aq _ _ (by omega)];exact m4
   ·rw[aq _ _ (by omega)];exact m5
   ·rw[aq _ _ (by omega)];exact m6
   ·rw[hBL];exact aw _ _ _
   ·by_cases hjk:j=k
    ·subst hjk;have:=hn.2;rw[List.getElem?_eq_getElem (show j<d9.length from hk)]at this;exact he (ae this)
    ·exact a8 j (by omega) hn
 ·rintro v' M2 cc (hi|hj)
  ·obtain⟨a1,a2,a3,a4,a5,a6,a7,a8⟩:=(hIk _ _ _).1 hi;have hl5:=a7;rw[hBL]at hl5;refine⟨_,_,_,_,_,_,_,_,hl5,(by intro h;cases h),?_⟩;rw[show bz.loop LS.exhausted _ _ _ _ _ _ _=BL .exhausted .none by rw[hBL]];have gMB:=a1.set (c2:=cc) (c+4) (BL .exhausted .none) (by omega) (by omega) (ah _);have m4:(M2.set (c+4) (BL .exhausted .none)).get (c+1)=some (aK 57 [.i .i64 0]):=(aq _ _ (by omega)).trans a4;have m5:(M2.set (c+4) (BL .exhausted .none)).get (c+2)=some (aK 4 [.b false]):=(aq _ _ (by omega)).trans a5;have m6:(M2.set (c+4) (BL .exhausted .none)).get (c+3)=some (.defs false):=(aq _ _ (by omega)).trans a6;generalize M2.set (c+4) (BL .exhausted .none)=MB at gMB m4 m5 m6⊢;have hs1:=bC m4 0 [.i .i64 0] (by simp) rfl;have m5':(MB.set (c+1) (aK 57 [.i .i64 0])).get (c+2)=some (aK 4 [.b false]):=(aq _ _ (by omega)).trans m5;have hs2:=bC m5' 0 [.b false] (by simp) rfl;have ht1:cA [c+3] ((MB.set (c+1) (aK 57 [V.i .i64 0])).set (c+2) (aK 4 [V.b false]))=some (((MB.set (c+1) (aK 57 [V.i .i64 0])).set (c+2) (aK 4 [V.b false])).set (c+3) (.defs true)):=by
    rw[mC (by rw[aq _ _ (by omega),aq _ _ (by omega)];exact m6)];rfl
   simp only[WX,Nat.reduceBEq,B54,tc,hs1,hs2,lq,ht1,lm];refine⟨⟨0,false,rfl,.inr ⟨fun j hj=>?_,rfl,rfl⟩⟩,((gMB.set (c+1) _ (by omega) (by omega) (ah _)).set (c+2) _ (by omega) (by omega) (ah _)).set (c+3) _ (by omega) (by omega) (ah _)⟩;by_cases hj29:j<29
   ·exact a8 j hj29 hj
   ·have:=hj.2;rw[List.getElem?_eq_none (show d9.length≤j by rw[dx];omega)]at this;cases this
  ·obtain⟨k,hk,a1,a2,a4,a5,a6,a7⟩:=(hJ _ _).1 hj;have hl5:=a7;rw[hBL]at hl5;refine⟨_,_,_,_,_,_,_,_,hl5,(by intro h;cases h),?_⟩;rw[show bz.loop LS.exhausted _ _ _ _ _ _ _=BL .exhausted .ret by rw[hBL]];have gMB:=a1.set (c2:=cc) (c+4) (BL .exhausted .ret) (by omega) (by omega) (ah _);have m4:(M2.set (c+4) (BL .exhausted .ret)).get (c+1)=some (aK 57 [.i .i64 (k:Int)]):=(aq _ _ (by omega)).trans a4;have m5:(M2.set (c+4) (BL .exhausted .ret)).get (c+2)=some (aK 4 [.b true]):=(aq _ _ (by omega)).trans a5;have m6:(M2.set (c+4) (BL .exhausted .ret)).get (c+3)=some (.defs false):=(aq _ _ (by omega)).trans a6;generalize M2.set (c+4) (BL .exhausted .ret)=MB at gMB m4 m5 m6⊢;have ht1:cA [c+3] MB=some (MB.set (c+3) (.defs true)):=by
    rw[mC m6];rfl
   have l1004:load1 F (MB.set (c+3) (.defs true)) (c+1) 0=some (.i .i64 (k:Int)):=bZ ((aq _ _ (by omega)).trans m4) 0;have l1005:load1 F (MB.set (c+3) (.defs true)) (c+2) 0=some (.b true):=bZ ((aq _ _ (by omega)).trans m5) 0;simp only[WX,DF,lq,ht1,lm,l1004,l1005];exact⟨⟨k,true,rfl,.inl ⟨k,hk,rfl,rfl⟩⟩,gMB.set (c+3) _ (by omega) (by omega) (ah _)⟩
def ak2:CC:=(.reg [(aa a1 (.bx 59 5 z0)),(qq a2 (.mv (.c (.s 0 0)))),(qq a3 (.mv (x6 0)))])
def ak3:CC:=(.reg [(qq a8 (.ldn 5 z1)),(ee a9 (.call 39 [z8])),(qq cg (.un .not z9))])
def ak4:CC:=(.reg [(qq a2 (.mv (.c (.s 0 0)))),(qq a3 (.mv (x6 2)))])
def ak5:CC:=(.seq ak3 (.cond cj (.seq ak4 .ret) .skip))
def ak6:CC:=(.reg [(qq cI (.fa 0 z1)),(qq de (.ld1 cD)),(ee cH (.call 41 [cS])),(ee db (.call 40 [cR])),(aa a4 (.al 94 [(.b false),(.b false),(.b false),(.b false)])),(ez (.st 4 z4 dD))])
def ak7:CC:=(.reg [(qq du (.fa 0 z1)),(qq dE (.ld1 dj)),(ee dO (.call 42 [dQ])),(aa dY (.bsl 9 1 1 [(.s 0 0)] [(0,dM)])),(qq a5 (.mv ey))])
def ak8:CC:=(.reg [(qq eg (.fa 0 z4)),(qq eQ (.ld1 eV)),(qq dP (.fa 1 z1)),(qq eB (.ld1 fm)),(qq ec (.bld [(.b false),(.i .i64 0)] [(0,1,eW),(1,1,eX)])),(qq dH (.fa 1 z4)),(qq eR (.ld1 fH)),(qq eD (.fa 2 z1)),(qq eJ (.ld1 fK)),(qq fk (.bld [(.b false),(.i .i64 0)] [(0,1,fJ),(1,1,fL)])),(qq eE (.fa 2 z4)),(qq eY (.ld1 gA)),(qq gH (.fa 3 z1)),(qq fo (.ld1 gD)),(qq gu (.bld [(.b false),(.i .i64 0)] [(0,1,gC),(1,1,iE)])),(qq gh (.bld [(.b false),(.i .i64 0),(.b false),(.i .i64 0),(.b false),(.i .i64 0)] [(0,2,fG),(2,2,g9),(4,2,j1)])),(qq iq (.mv (x6 0)))])
def ak9:CC:=(.reg [(qq j3 (.bi .lss jj (x6 3)))])
def al0:CC:=(.reg [(qq iO (.ixAn 3 2 ji jj)),(aa a7 (.al 99 [(.b false),(.i .i64 0)])),(ez (.st 2 z7 jk))])
def NL:CC:=(.reg [(qq ib (.fa 0 z7)),(qq j4 (.ld1 kf))])
def NM:CC:=(.reg [(qq gJ (.mv z5)),(qq jL (.fa 1 z7)),(qq ja (.ld1 kr)),(ee jA (.call 43 [l5])),(qq jB (.bi .add (.c (.s 1 114)) lJ)),(aa kl (.bsl 9 1 1 [(.s 0 0)] [(0,lM)])),(ee kg (.app 9 1 16 kO mE)),(qq a5 (.mv mR))])
def NN:CC:=(.seq NL (.cond kq NM .skip))
def NO:CC:=(.reg [(qq km (.bi .add jj (x6 1))),(qq iq (.mv lN))])
def NP:CC:=(.seq (.cond jz .skip (.exit 0)) (.seq (.block 1 (.seq al0 NN)) NO))
def NQ:CC:=(.reg [(qq jb (.fa 3 z4)),(qq ga (.ld1 n6))])
def NR:CC:=(.reg [(qq mU (.mv z5)),(qq ko (.fa 4 z1)),(qq jC (.ld1 oH)),(ee ig (.call 43 [pq])),(aa lK (.bsl 9 1 1 [(.s 0 0)] [(0,oL)])),(ee nh (.app 9 1 16 oG qc)),(qq a5 (.mv pv))])
def NS:CC:=(.seq NQ (.cond mS NR .skip))
def NT:CC:=(.reg [(qq ky (.mv z5)),(ee l6 (.call 16 [oM,(.c (.s 1 32))])),(qq a2 (.mv qd)),(qq a3 (.mv (x6 0)))])
def NU:CC:=(.seq (.seq ak8 (.block 0 (.loop (.seq ak9 NP)))) (.seq NS (.seq NT .ret)))
def c14:CF:= .mk 6 [.t a2,.t a3] (.seq ak2 (.seq ak5 (.seq ak6 (.seq ak7 NU))))
theorem e14(v0:V):aS 6 [v0]=(.n mr (some v0) mr):=rfl
def B14:=ai @e14 (ai (wu ak2.eq_1) (ai (wu ak3.eq_1) (ai (wu ak4.eq_1) (ai (wu ak5.eq_1) (ai (wu ak6.eq_1) (ai (wu ak7.eq_1) (ai (wu ak8.eq_1) (ai (wu ak9.eq_1) (ai (wu al0.eq_1) (ai (wu NL.eq_1) (ai (wu NM.eq_1) (ai (wu NN.eq_1) (ai (wu NO.eq_1) (ai (wu NP.eq_1) (ai (wu NQ.eq_1) (ai (wu NR.eq_1) (ai (wu NS.eq_1) (ai (wu NT.eq_1) (wu NU.eq_1)))))))))))))))))))
def wF(F:RO)(M:Mem)(c0 c b ty sz:Nat)(v:V)(es:List (List V)):Prop:=
 (c0≤b∧b<c∧v= .l b 0 es.length es.length∧(∀e∈es,e.length=sz)∧cP F M b 0 es.flatten)∨cu M c0 c b ty sz v es
theorem wF.sl{F:RO}{M:Mem}{c0 c b ty sz:Nat}{v:V}{es:List (List V)}(h:wF F M c0 c b ty sz v es):cU F M c sz v es:=by
 rcases h with⟨h1,h2,rfl,h1003,h1004⟩|h
 ·exact⟨h1003,.inr ⟨b,0,.inl ⟨_,ah _,rfl⟩,h2,h1004⟩⟩
 ·exact h.sl
theorem wF.up{F:RO}{M M':Mem}{c0 c c' b ty sz:Nat}{v:V}{es:List (List V)}(h:wF F M c0 c b ty sz v es)(hc:c≤c')(hb:∀x,x<c→M'.get x=M.get x):wF F M' c0 c' b ty sz v es:=by
 rcases h with⟨h1,h2,rfl,h1003,h1004⟩|h
 ·exact .inl ⟨h1,by omega,rfl,h1003,h1004.of_get (hb b h2)⟩
 ·exact .inr (h.up hc fun hx=>hb b hx)
theorem Hx{F:RO}{M0 M:Mem}{c0 c b ty sz bytes:Nat}{v y:V}{es ns:List (List V)}(h:wF F M c0 c b ty sz v es)(hg:Gr c0 M0 c M)(hsz:0<sz)(hy:cU F M c sz y ns)(hn0:ns≠[])(h1:br ns.flatten=true)(hr:kY (es.length+ns.length) bytes=true):
 wY (tF F M c ty sz bytes v y) fun v' M' c'=>∃b',wF F M' c0 c' b' ty sz v' (es++ns)∧Gr c0 M0 c' M'∧c≤c'∧(∀x,x<c→x≠b→M'.get x=M.get x)∧(b'=b∨c≤b'):=by
 rcases h with⟨k1,k2,rfl,k3,k4⟩|h
 ·unfold tF;rw[ri hsz hy];have hnl:=fw hy.1;have hlen:ns.length≠0:=fun e=>hn0 (List.length_eq_zero_iff.1 e);obtain⟨r,hrd⟩:=nR hsz k3 k4;have e1:kR F M c ty sz bytes (.l b 0 es.length es.length) (some (ns.length,ns.flatten))=jW M c ty bytes (es.length+ns.length) 0 false (es.flatten++ns.flatten):=by
   show(bif br ns.flatten&&Nat.beq ns.flatten.length (Nat.mul ns.length sz)then app F M c ty sz bytes (.l b 0 es.length es.length) ns.length ns.flatten else _)=_;rw[h1,bp,af (show ns.flatten.length=Nat.mul ns.length sz from hnl)];show app F M c ty sz bytes (.l b 0 es.length es.length) ns.length ns.flatten=_;unfold app;rw[bp,ag hlen,cond_false];show ql F M c ty sz bytes b 0 es.length es.length ns.length ns.flatten=_;unfold ql;rw[bG,ag (show¬Nat.add es.length ns.length≤es.length by show¬es.length+ns.length≤es.length;omega),cond_false,hrd];rfl
  refine⟨_,_,_,e1.trans (qH M c ty bytes _ _ hr),c,.inr ⟨?_,.inr ⟨hg.le,by omega,by rw[bE],?_⟩⟩,hg.set c _ hg.le (by omega) (by omega),by omega,fun x hx _=>aq _ _ (by omega),.inr (ah _)⟩
  ·intro e he;rcases List.mem_append.1 he with he|he
   ·exact k3 e he
   ·exact hy.1 e he
  ·rw[Tr.get_set,ac rfl,List.flatten_append]
 ·refine(lR h hg hsz hy h1 hr).mono ?_;rintro v' M' c' ⟨b',a1,a2,a3,a4,a5⟩;exact⟨b',.inr a1,a2,a3,a4,a5⟩
theorem UT{F:RO}{M:Mem}{b c0 c ty sz n:Nat}{d:List V}{es:List (List V)}(h:M.get b=some (eU d ty es.flatten))(h0:c0≤b)(hb:b<c)(h1:∀e∈es,e.length=sz)(hn:es.length=n):wF F M c0 c b ty sz (.l b 0 n n) es:=by
 subst hn
 exact .inl ⟨h0,hb,rfl,h1,(zK h).cells⟩
def dC(op:Int):List UInt8:=if 1≤op∧op≤28 then(d9[op.toNat]?).getD []else[]
theorem a02(op:Int):mL op=sV (dC op):=by
 unfold mL dC
 by_cases h:1≤op∧op≤28
 ·rw[ac h,ac h,y7 (by omega),List.getElem?_eq_getElem (show op.toNat<d9.length by rw[dx];omega)];rfl
 ·rw[ab h,ab h];rfl
def xJ(op:Int)(i:Nat):Bool:=if i=0 then dI (aD op)else if i=1 then aI (aD op)else bI (aD op)
def fl(d a b:Int)(i:Nat):Int:=if i=0 then d else if i=1 then a else b
def wk(op d a b:Int):Nat→List (List UInt8)
 |0=>[dC op]
 |i+1=>wk op d a b i++(if xJ op i=true then[114::bS (fl d a b i)]else[])
def i7(op d a b i:Int):List (List UInt8):=wk op d a b 3++(if iI (aD op)=true then[bS i]else[])
def cL(op d a b i:Int):List UInt8:=aT [32] (i7 op d a b i)
theorem xR(n:Nat):(fV n).length≤10:=by
 unfold fV
 rw[gQ]
 unfold nd;repeat' split
 all_goals omega
theorem fy(n:Int):(bS n).length≤11:=by
 cases n with
 |ofNat n=>have:=xR n;show(fV n).length≤11;omega
 |negSucc n=>have:=xR (n+1);show(45::fV (n+1)).length≤11;rw[bk];omega
theorem y6(op:Int):(dC op).length≤6:=by
 unfold dC
 split
 ·have:∀k,k<29→((d9[k]?).getD []).length≤6:=by decide+kernel
  exact this _ (by omega)
 ·simp
theorem zY(op d a b:Int):∀i,(wk op d a b i).length≤i+1
 |0=>ah _
 |i+1=>by
  have:=zY op d a b i;rw[wk,bE];split<;>simp<;>omega
theorem Xg(op d a b:Int):∀i,n8 (wk op d a b i)≤7+13*i
 |0=>by have:=y6 op;show(dC op).length+1+0≤7;omega
 |i+1=>by
  have:=Xg op d a b i;have h2:=fy (fl d a b i);rw[wk,iD];split
  ·rw[n8,n8,bk];omega
  ·rw[n8];omega
def aZ3(len sz:Nat)(x i:V):Option V:=(cY (.ixAn len sz (.c x) (.c i)) [] .e .e).val
theorem WA{F:RO}(len sz:Nat)(x i:X)(M:Mem)(t:T):(cY (.ixAn len sz x i) F M t).val=aZ3 len sz (x.ev t) (i.ev t):=Eq.trans rfl (Eq.refl _)
theorem be5(x0 x1 x2:Bool)(y0 y1 y2:Int)(i:Nat)(h:i<3):aZ3 3 2 (.g [.b x0,.i .i64 y0,.b x1,.i .i64 y1,.b x2,.i .i64 y2]) (.i .i64 (i:Int))=some (.g [.b (if i=0 then x0 else if i=1 then x1 else x2),.i .i64 (if i=0 then y0 else if i=1 then y1 else y2)]):=by
 have:i=0∨i=1∨i=2:=by omega
 rcases this with rfl|rfl|rfl<;>rfl
theorem dL{op d a b i:Int}(h:bQ op d a b i=true):1≤op∧op≤28∧(∀k,0≤fl d a b k∧fl d a b k<16)∧ -32768≤i∧i≤65535:=by
 unfold bQ at h
 simp only[aJ,Bool.or_eq_true,decide_eq_true_eq]at h
 obtain⟨h1,h2,h1003,h1004,h1005,h1006⟩:=h
 have key:∀b n,nS b n=true→0≤n∧n<16:=by
  intro b n hh;unfold nS at hh;have:=aP hh;omega
 refine⟨h1,h2,fun k=>?_,by omega,by omega⟩
 unfold fl
 repeat' split
 ·exact key _ _ h1003
 ·exact key _ _ h1004
 ·exact key _ _ h1005
theorem cy3(Φ:Nat→Option CF)(h:Φ 14=some c14)(h39:Φ 39=some (.orc (aj h39))){F:RO}{M:Mem}{c:Nat}(op d a b i:Int)(hm:bQ op d a b i=false):
 Calls Φ F 14 [.g [.i .i64 op,.i .i64 d,.i .i64 a,.i .i64 b,.i .i64 i]] M c fun r _ _=>r= .t [.s 0 0,.i .i64 2]:=by
 refine ax h ?_
 simp only[WX,Nat.reduceAdd,Nat.reduceLeDiff,B14,h39,rU,hm]
theorem r14(Φ:Nat→Option CF)(h:Φ 14=some c14){L:List gF}(h39:Φ 39=some (.orc (aj h39)))(h41:Φ 41=some (.orc (aj h41)))(h40:Φ 40=some (.orc (aj h40)))(AJ:Φ 42=some (.orc (aj AJ)))(h43:Φ 43=some (.orc (ce L wL)))
 (h16:Φ 16=some c16) (h46:Φ 46=some c46) (h44:Φ 44=some YF) (h45:Φ 45=some YG) (h81:Φ 81=some Ug) (h82:Φ 82=some c82) {F:RO} {M:Mem} {c:Nat} (ok:eA F M c) (ht:bB F L=true) (op d a b i:Int) (hm:bQ op d a b i=true):
 Calls Φ F 14 [.g [.i .i64 op,.i .i64 d,.i .i64 a,.i .i64 b,.i .i64 i]] M c fun r _ _=>r= .t [sV (cL op d a b i),.i .i64 0]:=by
 refine ax h ?_
 have hT:=fun h args M c=>eu ht h args M c
 obtain⟨n1,n2,n3,n4,n5⟩:=dL hm
 simp only[WX,Nat.reduceBEq,Nat.reduceAdd,Nat.reduceLeDiff,B14,h39,rU,hm,h41,mf,h40,zd,AJ,UV,a02,show∀l,dq (sV l)=true from fun _=>rfl,show∀l,flatten (sV l)=[sV l]from fun _=>rfl]
 have rI:bz:=aK 59 [.i .i64 op,.i .i64 d,.i .i64 a,.i .i64 b,.i .i64 i]
 obtain⟨X,hX⟩:∃X:Mem,X=((M.set c (aK 59 [V.i IntKind.i64 op,V.i IntKind.i64 d,V.i IntKind.i64 a,V.i IntKind.i64 b,V.i IntKind.i64 i])).set (c+1) (aK 94 [V.b (dI (aD op)),V.b (aI (aD op)),V.b (bI (aD op)),V.b (iI (aD op))])).set (c+2) (eU [V.s 0 0] 9 [sV (dC op)]):=⟨_,rfl⟩
 rw[←hX]
 have grX:Gr c M (c+3) X:=by
  rw[hX];exact(((Gr.refl ok).set c _ (ah _) (bD _) (bU _)).set (c+1) _ (by omega) (show c+1<c+2 by omega) (by omega)).set (c+2) _ (by omega) (by omega) (by omega)
 have xI:X.get c=some (aK 59 [.i .i64 op,.i .i64 d,.i .i64 a,.i .i64 b,.i .i64 i]):=by rw[hX,aq _ _ (by omega),aq _ _ (by omega),aw]
 have xB:X.get (c+1)=some (aK 94 [.b (dI (aD op)),.b (aI (aD op)),.b (bI (aD op)),.b (iI (aD op))]):=by rw[hX,aq _ _ (by omega),aw]
 have xA:wF F X c (c+3) (c+2) 9 1 (.l (c+2) 0 1 1) (d6 (wk op d a b 0)):=UT (d:=[.s 0 0]) (by rw[hX,aw];rfl) (by omega) (bD _) (fun e he=>by obtain⟨x,_,rfl⟩:=List.mem_map.1 he;rfl) rfl
 clear hX rI
 obtain⟨I1,hI1⟩:∃I:Nat→St→Prop,∀n s',I n s'↔(∃(k:Nat) (M1:Mem) (c1 b1:Nat) (v:V) (u:List (Option V)),n=3-k∧k≤3∧s'= .mk ((.n (.n (.n (ay u 31 15 47 7 39 23 55) (uO u 3) (.n (.n (.n .e (some (.i .i64 (k:Int))) .e) (uO u 19) (kp u 51)) (uO u 11) (eH u 43 27 59))) (some (.p c 0)) (.n (ay u 33 17 49 9 41 25 57) (some (v)) (ay u 37 21 53 13 45 29 61))) (uO u 0) (.n (.n (ay u 32 16 48 8 40 24 56) (some (.p (c+1) 0)) (ay u 36 20 52 12 44 28 60)) (uO u 2) (.n (.n (.n (.n .e (some (.g [.b (dI (aD op)),.i .i64 d,.b (aI (aD op)),.i .i64 a,.b (bI (aD op)),.i .i64 b])) .e) (uO u 18) (kp u 50)) (uO u 10) (eH u 42 26 58)) (uO u 6) (ay u 38 22 54 14 46 30 62))))) [] M1 c1∧Gr c M c1 M1∧wF F M1 c c1 b1 9 1 v (d6 (wk op d a b k))∧c+2≤b1∧c+3≤c1∧M1.get c=some (aK 59 [.i .i64 op,.i .i64 d,.i .i64 a,.i .i64 b,.i .i64 i])∧M1.get (c+1)=some (aK 94 [.b (dI (aD op)),.b (aI (aD op)),.b (bI (aD op)),.b (iI (aD op))])):=⟨fun n s'=>_,fun _ _=>Iff.rfl⟩
 refine cX I1 ?_ 3 _ ((hI1 _ _).2 ⟨0,X,c+3,c+2,.l (c+2) 0 1 1,[_,none,_,_,none,none,_,_,_,_,_,_,_,_,_,_,_,_,_,_,_,_,_,_,_,_,_,_,_,_,_,_,_,_,none,none,_,_,_,_,_,_,_,_,_,_,_,_,_,_,_,_,_,_,_,_,_,_,_,_,_,_,_],rfl,aM _,rfl,grX,xA,ah _,ah _,xI,xB⟩)
 intro n s' hIs
 obtain⟨k,M1,c1,b1,v,u,rfl,hk,rfl,gr1,hA,hb1,hc1,gI,gB⟩:=(hI1 _ _).1 hIs
 clear hIs
 have ok1:=gr1.ok ok
 have hS:∀l,dq (sV l)=true:=fun _=>rfl
 have hF:∀l,flatten (sV l)=[sV l]:=fun _=>rfl
 have hwl:=zY op d a b k
 by_cases hlt:k<3
 ·have d1:decide ((k:Int)<3)=true:=af (by omega);have hix:=be5 (dI (aD op)) (aI (aD op)) (bI (aD op)) d a b k hlt;have q8:bu .add (.i .i64 (k:Int)) (.i .i64 1)=some (.i .i64 ((k+1:Nat):Int)):=by rw[bA _ _ (by omega) (by omega)];simp
  rw[show(if k=0 then dI (aD op)else if k=1 then aI (aD op)else bI (aD op))=xJ op k from rfl,show(if k=0 then d else if k=1 then a else b)=fl d a b k from rfl]at hix;have hbo:=fun x:Bool=>show dq (.b x)=true from rfl;cases hfl:xJ op k with
  |true=>
   rw[hfl]at hix;have hcat:bu .add (.s 1 114) (sV (bS (fl d a b k)))=some (sV (114::bS (fl d a b k))):=eK [114] _ (by have:=fy (fl d a b k);simp;omega);have hnk:=n3 k;simp only[WX,Nat.reduceAdd,Nat.reduceLeDiff,B14,d1,WA,hix,h43,hT,pH (show -10000000<fl d a b k by omega) (show fl d a b k<10000000 by omega),hcat,hS,hF];obtain⟨Y,hY⟩:∃Y:Mem,Y=(M1.set c1 (aK 99 [V.b true,V.i IntKind.i64 (fl d a b k)])).set (c1+1) (eU [V.s 0 0] 9 [sV (114::bS (fl d a b k))]):=⟨_,rfl⟩
   rw[←hY];have grY:Gr c M (c1+2) Y:=by
    rw[hY];exact(gr1.set (c2:=c1+1) c1 _ gr1.le (by omega) (by omega)).set (c1+1) _ (by omega) (by omega) (by omega)
   have hYo:∀x,x<c1→Y.get x=M1.get x:=fun x hx=>by rw[hY,aq _ _ (by omega),aq _ _ (by omega)]
   have hy:cU F Y (c1+2) 1 (.l (c1+1) 0 1 1) (d6 [114::bS (fl d a b k)]):=E6 (d:=[.s 0 0]) (ty:=9) (by rw[hY,aw];rfl) (by omega) (fun e he=>by obtain⟨x,_,rfl⟩:=List.mem_map.1 he;rfl) rfl;refine aB ((Hx (bytes:=16) (hA.up (show c1≤c1+2 by omega) hYo) grY Nat.one_pos hy (by simp[d6]) rfl (eO (by simp[d6];omega) (by simp[d6];omega))).mono ?_);rintro v' M2 c2 ⟨b2,hA2,gr2,hle2,hfr2,hbb2⟩;simp only[WX,B14,q8];refine⟨3-(k+1),by omega,(hI1 _ _).2 ⟨k+1,M2,c2,b2,v',[_,none,_,_,none,none,_,_,_,_,_,_,_,_,_,_,_,_,_,_,_,_,_,_,_,_,_,_,_,_,_,_,_,_,none,none,_,_,_,_,_,_,_,_,_,_,_,_,_,_,_,_,_,_,_,_,_,_,_,_,_,_,_],rfl,by omega,rfl,gr2,?_,by omega,by omega,?_,?_⟩⟩
   ·rw[wk,hfl,ac rfl,d6,List.map_append];exact hA2
   ·rw[hfr2 c (by omega) (by omega),hYo c (by omega)];exact gI
   ·rw[hfr2 (c+1) (by omega) (by omega),hYo (c+1) (by omega)];exact gB
  |false=>
   rw[hfl]at hix;simp only[WX,Nat.reduceAdd,Nat.reduceLeDiff,B14,d1,WA,hix,q8];have hYo:∀x,x<c1→(M1.set c1 (aK 99 [V.b false,V.i IntKind.i64 (fl d a b k)])).get x=M1.get x:=fun x hx=>aq _ _ (by omega);refine⟨3-(k+1),by omega,(hI1 _ _).2 ⟨k+1,_,c1+1,b1,v,[_,none,_,_,none,none,_,_,_,_,_,_,_,_,_,_,_,_,_,_,_,_,_,_,_,_,_,_,_,_,_,_,_,_,none,none,_,_,_,_,_,_,_,_,_,_,_,_,_,_,_,_,_,_,_,_,_,_,_,_,_,_,_],rfl,by omega,rfl,gr1.set c1 _ gr1.le (by omega) (by omega),?_,hb1,by omega,(hYo c (by omega)).trans gI,(hYo (c+1) (by omega)).trans gB⟩⟩;rw[wk,hfl,ab (by decide),di];exact hA.up (by omega) hYo
 ·have d1:decide ((k:Int)<3)=false:=ag (by omega);obtain rfl:k=3:=by omega
  have lB:load1 F M1 (c+1) 3=some (.b (iI (aD op))):=bZ gB 3;have lI:load1 F M1 c 4=some (.i .i64 i):=bZ gI 4;have hsz:=Xg op d a b 3;cases hfl:iI (aD op)with
  |true=>
   rw[hfl]at lB;simp only[WX,B14,d1,lB,lI,h43,hT,pH (show -10000000<i by omega) (show i<10000000 by omega),hS,hF];have grY:Gr c M (c1+1) (M1.set c1 (eU [V.s 0 0] 9 [sV (bS i)])):=gr1.set c1 _ gr1.le (by omega) (by omega);have hy:cU F (M1.set c1 (eU [V.s 0 0] 9 [sV (bS i)])) (c1+1) 1 (.l c1 0 1 1) (d6 [bS i]):=E6 (d:=[.s 0 0]) (ty:=9) (by rw[aw];rfl) (by omega) (fun e he=>by obtain⟨x,_,rfl⟩:=List.mem_map.1 he;rfl) rfl;refine aB ((Hx (bytes:=16) (hA.up (show c1≤c1+1 by omega) (fun x hx=>aq _ _ (by omega))) grY Nat.one_pos hy (by simp[d6]) rfl (eO (by simp[d6];omega) (by simp[d6];omega))).mono ?_);rintro v' M2 c2 ⟨b2,hA2,gr2,hle2,hfr2,hbb2⟩;have ok2:=gr2.ok ok;have hA3:cU F M2 c2 1 v' (d6 (i7 op d a b i)):=by
    have:=hA2.sl;rw[i7,hfl,ac rfl,d6,List.map_append];exact this
   have hil:=fy i;simp only[WX,B14];refine aB ((r16 (s:=[32]) Φ h16 h46 h44 h45 h81 h82 ok2 hA3 (by rw[i7,iD,hfl,ac rfl,n8,n8];omega) (by decide) (by decide)).mono ?_);rintro r M3 c1003 ⟨rfl,_⟩;simp only[WX];rfl
  |false=>
   rw[hfl]at lB;have hA3:cU F M1 c1 1 v (d6 (i7 op d a b i)):=by
    rw[i7,hfl,ab (by decide),di];exact hA.sl
   simp only[WX,B14,d1,lB];refine aB ((r16 (s:=[32]) Φ h16 h46 h44 h45 h81 h82 ok1 hA3 (by rw[i7,iD,hfl,ab (by decide),n8];omega) (by decide) (by decide)).mono ?_);rintro r M3 c1003 ⟨rfl,_⟩;simp only[WX];rfl
def aD4:CC:=(.reg [(qq a4 (.ld1 z0)),(ee a5 (.call 35 [z4,(.c (.s 1 32))])),(qq a3 (.mv z5)),(qq a6 (.ex 0 z3)),(qq a7 (.ex 1 z3)),(qq a8 (.ex 2 z3)),(qq a2 (.mv z6)),(ez (.st 1 z0 z7))])
def aD5:CC:=(.reg [(qq a9 (.mv z2)),(qq a1 (.mv z9))])
def aD6:CC:=(.seq (.reg [(qq a2 (.mv (.c (.s 0 0))))]) (.seq aD4 (.seq aD5 .ret)))
def aD7:CC:=(.seq (.reg [(qq a1 (.mv (.c (.s 0 0))))]) aD6)
def Uf:CF:= .mk 4 [.t a1] aD7
theorem e50(v0:V):aS 4 [v0]=(.n iC (some v0) iC):=rfl
def B50:=ai @e50 (ai (wu aD4.eq_1) (ai (wu aD5.eq_1) (ai (wu aD6.eq_1) (wu aD7.eq_1))))
def aD8:CC:=(.reg [(qq a3 (.mv (x6 0)))])
def aD9:CC:=(.reg [(qq a7 (.ld1 z1)),(ee a8 (.cv z7 [])),(qq a9 (.mv z0)),(ee cg (.call 53 [z8,z9])),(ee cI (.call 52 [cj])),(qq a6 (.mv cD)),(qq de (.ex 0 z6)),(qq cH (.ex 1 z6)),(qq a4 (.mv cS)),(qq a5 (.mv cR))])
def aE0:CC:=(.reg [(qq db (.mv z4)),(qq a3 (.mv dD))])
def Y0:CF:= .mk 4 [.t a3] (.seq aD8 (.seq aD9 (.seq aE0 .ret)))
theorem e51(v0 v1:V):aS 4 [v0,v1]=(.n (.n mN (some v1) mN) (some v0) iC):=rfl
def B51:=ai @e51 (ai (wu aD8.eq_1) (ai (wu aD9.eq_1) (wu aE0.eq_1)))
def ao0:CC:=(.reg [(aa a2 (.al 59 [(.i .i64 0),(.i .i64 0),(.i .i64 0),(.i .i64 0),(.i .i64 0)])),(qq a3 (.mv (x6 0)))])
def b14:=wu ao0.eq_1
def ao1:CC:=(.reg [(qq cI (.mv z0)),(aa a4 (.al 9 [(.s 0 0)])),(ez (.st 1 z4 cD))])
def b15:=wu ao1.eq_1
def ao2:CC:=(.reg [(qq de (.mkf 50 [] [z4])),(aa a5 (.al 79 [.f0])),(ez (.st 1 z5 cS))])
def b16:=wu ao2.eq_1
def ao3:CC:=(.reg [(qq cH (.mkf 51 [] [z5])),(qq a6 (.mv cR))])
def b17:=wu ao3.eq_1
def ao4:CC:=(.reg [(aa a7 (.al 59 [(.i .i64 0),(.i .i64 0),(.i .i64 0),(.i .i64 0),(.i .i64 0)]))])
def b18:=wu ao4.eq_1
def ao5:CC:=(.reg [(qq du (.ld1 z5)),(ee dE (.cv dj [])),(ee dO (.call 54 [dQ])),(qq db (.mv dM)),(qq dY (.ex 0 dD)),(qq eg (.ex 1 dD)),(qq eQ (.fa 0 z7)),(ez (.st 1 eW ey))])
def b19:=wu ao5.eq_1
def ao6:CC:=(.reg [(qq dP (.fa 0 z7)),(qq eB (.ld1 fm)),(ee ec (.call 41 [eX])),(ee dH (.call 40 [fG])),(aa a8 (.al 94 [(.b false),(.b false),(.b false),(.b false)])),(ez (.st 4 z8 fH))])
def b20:=wu ao6.eq_1
def ao7:CC:=(.reg [(qq eR (.fa 0 z8)),(qq eD (.ld1 fJ))])
def WG:=wu ao7.eq_1
def ao8:CC:=(.reg [(qq eJ (.mv z6)),(ee fk (.cv fL [(.c (.s 1 114))])),(qq eE (.fa 1 z7)),(ez (.st 1 gA g9))])
def b22:=wu ao8.eq_1
def Cv:CC:=(.seq ao7 (.cond fK ao8 .skip))
def Ej:=wu Cv.eq_1
def Oy:CC:=(.reg [(qq eY (.fa 1 z8)),(qq gH (.ld1 gC))])
def Ek:=wu Oy.eq_1
def Oz:CC:=(.reg [(qq fo (.mv z6)),(ee gu (.cv iE [(.c (.s 1 114))])),(qq gh (.fa 2 z7)),(ez (.st 1 ji j1))])
def WB:=wu Oz.eq_1
def yK:CC:=(.seq Oy (.cond gD Oz .skip))
def El:=wu yK.eq_1
def OA:CC:=(.reg [(qq iq (.fa 2 z8)),(qq j3 (.ld1 jj))])
def Em:=wu OA.eq_1
def OB:CC:=(.reg [(qq iO (.mv z6)),(ee ib (.cv jk [(.c (.s 1 114))])),(qq j4 (.fa 3 z7)),(ez (.st 1 kq kf))])
def WC:=wu OB.eq_1
def uJ:CC:=(.seq OA (.cond jz OB .skip))
def En:=wu uJ.eq_1
def OC:CC:=(.reg [(qq gJ (.fa 3 z8)),(qq jL (.ld1 kO))])
def Eo:=wu OC.eq_1
def OD:CC:=(.reg [(qq ja (.mv z6)),(ee jA (.cv l5 [(.c (.s 0 0))])),(qq jB (.fa 4 z7)),(ez (.st 1 lM lJ))])
def WD:=wu OD.eq_1
def rH:CC:=(.seq OC (.cond kr OD .skip))
def Ep:=wu rH.eq_1
def OE:CC:=(.reg [(qq kg (.ldn 5 z7)),(ee km (.call 14 [mR])),(qq kl (.mv lN)),(qq jb (.ex 0 mE)),(qq ga (.ex 1 mE)),(qq a9 (.mv n6)),(qq cg (.mv mS))])
def bl3:=wu OE.eq_1
def OG:CC:=(.reg [(qq mU (.mv cj)),(qq ko (.bi .neq oG (x6 0))),(qq jC (.mv oH)),(aL ig (.mv z9) jC),(aL lK (.mv z0) jC),(aL nh (.bi .neq oL qc) jC),(qq ky (.pk pq xT pv))])
def bl4:=wu OG.eq_1
def OH:CC:=(.reg [(qq l6 (.bld [(.i .i64 0),(.i .i64 0),(.i .i64 0),(.i .i64 0),(.i .i64 0)] [])),(ez (.st 5 z2 qd)),(qq a3 (.mv (x6 4)))])
def bl5:=wu OH.eq_1
def OI:CC:=(.cond oM (.seq OH .ret) .skip)
def bl6:=wu OI.eq_1
def OJ:CC:=(.reg [(qq lL (.ldn 5 z7)),(ez (.st 5 z2 qf)),(qq a3 (.mv (x6 0)))])
def bl7:=wu OJ.eq_1
def py:CC:=(.seq (.seq OE (.seq OG OI)) (.seq OJ .ret))
def bl9:=wu py.eq_1
def OL:CC:=(.seq Cv (.seq yK (.seq uJ (.seq rH py))))
def WE:=wu OL.eq_1
def OM:CC:=(.seq ao2 (.seq ao3 (.seq ao4 (.seq ao5 (.seq ao6 OL)))))
def WF:=wu OM.eq_1
def c20:CF:= .mk 6 [.cn a2 5,.t a3] (.seq ao0 (.seq ao1 OM))
theorem e20(v0:V):aS 6 [v0]=(.n mr (some v0) mr):=rfl
def B20:=ai @e20 (ai @b14 (ai @b15 (ai @b16 (ai @b17 (ai @b18 (ai @b19 (ai @b20 (ai @WG (ai @b22 (ai @Ej (ai @Ek (ai @WB (ai @El (ai @Em (ai @WC (ai @En (ai @Eo (ai @WD (ai @Ep (ai @bl3 (ai @bl4 (ai @bl5 (ai @bl6 (ai @bl7 (ai @bl9 (ai @WE (@WF)))))))))))))))))))))))))))
def rL(l:List UInt8):List UInt8:=match mX 32 l 0 with|some k=>l.take k|none=>l
def mV(l:List UInt8):List UInt8:=match mX 32 l 0 with|some k=>l.drop (k+1)|none=>[]
theorem YU(l:List UInt8):∃z,tK 32 l= .t [sV (rL l),sV (mV l),.b z]:=by
 unfold tK rL mV
 cases mX 32 l 0 with
 |none=>exact⟨_,rfl⟩
 |some k=>exact⟨_,rfl⟩
theorem U7(l:List UInt8):(rL l).length≤l.length:=by
 unfold rL
 cases mX 32 l 0 with
 |none=>exact ah _
 |some k=>show(l.take k).length≤_;rw[List.length_take];omega
theorem Ah(l:List UInt8):(mV l).length≤l.length:=by
 unfold mV
 cases mX 32 l 0 with
 |none=>exact aM _
 |some k=>show(l.drop (k+1)).length≤_;rw[cM];omega
theorem KZ(l p:List UInt8):(kK l p).length≤l.length:=by
 unfold kK;split
 ·rw[cM];omega
 ·exact ah _
theorem nB:∀(w r:List UInt8) (i:Nat),(∀x∈w,x≠32)→mX 32 (w++32::r) i=some (i+w.length)∧mX 32 w i=none
 |[],r,i,_=>⟨by simp[mX],rfl⟩
 |x::w,r,i,h=>by
  obtain⟨h1,h2⟩:=nB w r (i+1) fun y hy=>h y (bc _ hy);have hx:=h x (bh ..);rw[List.cons_append,mX,ab hx,h1,mX,ab hx,h2,bk];exact⟨by congr 1;omega,rfl⟩
theorem gP(w:List UInt8)(ws:List (List UInt8))(h:∀x∈w,x≠32):rL (aT [32] (w::ws))=w∧mV (aT [32] (w::ws))=aT [32] ws:=by
 cases ws with
 |nil=>
  have e:aT [32] [w]=w:=by simp[aT]
  obtain⟨_,h2⟩:=nB w [] 0 h;unfold rL mV;rw[e,h2];exact⟨rfl,rfl⟩
 |cons x r=>
  have e:aT [32] (w::x::r)=w++32::aT [32] (x::r):=by simp[aT]
  obtain⟨h1,_⟩:=nB w (aT [32] (x::r)) 0 h;unfold rL mV;rw[e,h1,Nat.zero_add];refine⟨?_,?_⟩
  ·show(w++32::aT [32] (x::r)).take w.length=w;exact List.take_left
  ·show(w++32::aT [32] (x::r)).drop (w.length+1)=_;rw[show w++32::aT [32] (x::r)=(w++[32])++aT [32] (x::r) by simp,List.drop_left' (by simp)]
theorem r50(Φ:Nat→Option CF)(h:Φ 50=some Uf)(h35:Φ 35=some (.orc (aj vn))){F:RO}{M:Mem}{c b:Nat}{l:List UInt8}(hM:M.get b=some (aK 9 [sV l]))(hl:l.length≤1000000):
 Calls Φ F 50 [.p b 0] M c fun r M' c'=>r=sV (rL l)∧M'=M.set b (aK 9 [sV (mV l)])∧c'=c:=by
 refine ax h ?_
 have l0:load1 F M b 0=some (sV l):=bZ hM 0
 obtain⟨z,hz⟩:=YU l
 have h1:=UY l 32 (by omega)
 rw[hz]at h1
 have h1':vn [sV l,.s 1 32]=some (.t [sV (rL l),sV (mV l),.b z]):=h1
 have hst:=bC hM 0 [sV (mV l)] (by simp) rfl
 simp only[WX,B50,l0,h35,h1',show∀l,flatten (sV l)=[sV l]from fun _=>rfl,hst]
theorem r51(Φ:Nat→Option CF)(h:Φ 51=some Y0)(h50:Φ 50=some Uf)(h35:Φ 35=some (.orc (aj vn)))(h53:Φ 53=some (.orc (aj wM)))(h52:Φ 52=some yR)(h89:Φ 89=some xe)(h85:Φ 85=some wD)(h112:Φ 112=some jR)(h113:Φ 113=some jS)(h119:Φ 119=some kQ)(h84:Φ 84=some tI)(h136:Φ 136=some (.orc (aj h136)))(h110:Φ 110=some (.orc (aj h110)))
 {F:RO} {M:Mem} {c b b1005:Nat} {l:List UInt8} (ok:eA F M c) (hE1:bF F 1) (hE2:bF F 2) (hlow:∀g,g<1000→M.get g=none) (hM:M.get b=some (aK 9 [sV l])) (hb:b<c) (hM5:M.get b1005=some (aK 79 [.f 50 [] [.p b 0]])) (hl:l.length≤1000000) (p:List UInt8):
 Calls Φ F 51 [sV p,.p b1005 0] M c fun r M' c'=>∃z,r= .i .i64 z∧ZOf (kK (rL l) p) z∧Gr c (M.set b (aK 9 [sV (mV l)])) c' M':=by
 refine ax h ?_
 have l1005:load1 F M b1005 0=some (.f 50 [] [.p b 0]):=bZ hM5 0
 simp only[WX,B51,l1005]
 refine aB ((r50 Φ h50 h35 hM hl).mono ?_)
 rintro r M1 c1 ⟨rfl,rfl,rfl⟩
 have ok1:=ok.put (y:=aK 9 [sV (mV l)]) hb hM
 have hlow1:∀g,g<1000→(M.set b (aK 9 [sV (mV l)])).get g=none:=fun g hg=>by
  have:g≠b:=by intro e;subst e;rw[hlow g hg]at hM;cases hM
  rw[aq _ _ this];exact hlow g hg
 simp only[WX,h53,V2]
 have h1:=U7 l
 have h2:=KZ (rL l) p
 refine aB ((r52 Φ h52 h89 h85 h112 h113 h119 h84 h136 h110 ok1 hE1 hE2 hlow1 (kK (rL l) p) (by omega)).mono ?_)
 rintro r M2 c2 ⟨z,e,rfl,hz,hg⟩
 simp only[WX,B51]
 exact⟨z,rfl,hz,hg⟩
def R4(op i:Int):List (List UInt8):=if iI (aD op)=true then[bS i]else[]
def R3(op b i:Int):List (List UInt8):=(if bI (aD op)=true then[114::bS b]else[])++R4 op i
def R2(op a b i:Int):List (List UInt8):=(if aI (aD op)=true then[114::bS a]else[])++R3 op b i
def R1(op d a b i:Int):List (List UInt8):=(if dI (aD op)=true then[114::bS d]else[])++R2 op a b i
theorem lH(op d a b i:Int):i7 op d a b i=dC op::R1 op d a b i:=by
 show(([dC op]++(if xJ op 0=true then[114::bS (fl d a b 0)]else[]))++(if xJ op 1=true then[114::bS (fl d a b 1)]else[]))++(if xJ op 2=true then[114::bS (fl d a b 2)]else[])++_=_
 show(([dC op]++(if dI (aD op)=true then[114::bS d]else[]))++(if aI (aD op)=true then[114::bS a]else[]))++(if bI (aD op)=true then[114::bS b]else[])++(if iI (aD op)=true then[bS i]else[])=_
 unfold R1 R2 R3 R4
 simp only[kz,List.cons_append,List.nil_append]
theorem zj{m:Int}(h1: -10000000<m)(h2:m<10000000):∀x∈bS m,x≠32:=by
 intro x hx e
 subst e
 have nd:∀l:List UInt8,(∀x∈l,ij x)→(32:UInt8)∉l:=fun l h hm=>by
  have:=h 32 hm;unfold ij at this;rw[show(32:UInt8).toNat=32 from rfl]at this;omega
 obtain⟨_,⟨_,h1003,_⟩|⟨_,r,h1003,_,h1004,_⟩⟩:=jX h1 h2
 ·exact nd _ h1003 hx
 ·rw[h1003]at hx;rcases bj.1 hx with e|hx
  ·exact absurd e (by decide)
  ·exact nd _ h1004 hx
theorem tg{m:Int}(h1: -10000000<m)(h2:m<10000000):∀x∈(114::bS m),x≠32:=by
 intro x hx
 rcases bj.1 hx with e|hx
 ·subst e;decide
 ·exact zj h1 h2 x hx
theorem ud(op:Int):∀x∈dC op,x≠32:=by
 unfold dC
 split
 ·have:∀k,k<29→ ∀x∈(d9[k]?).getD [],x≠32:=by decide+kernel
  exact this _ (by omega)
 ·intro x hx;cases hx
theorem zS(l:List UInt8):kK (114::l) [114]=l:=by
 unfold kK
 rw[ac ⟨by simp,by simp⟩];rfl
theorem L0(l:List UInt8):kK l []=l:=by
 unfold kK
 rw[ac ⟨aM _,rfl⟩];rfl
theorem fC{op d a b i:Int}(h:bQ op d a b i=true):(dI (aD op)=false→d=0)∧(aI (aD op)=false→a=0)∧(bI (aD op)=false→b=0)∧(iI (aD op)=false→i=0):=by
 unfold bQ at h
 simp only[aJ,Bool.or_eq_true,decide_eq_true_eq]at h
 obtain⟨h1,h2,h1003,h1004,h1005,h1006⟩:=h
 have key:∀n,nS false n=true→n=0:=by
  intro n hh;unfold nS at hh;have:=aP hh;rcases this with h|⟨h,_⟩
  ·exact h
  ·cases h
 refine⟨fun h=>key _ (by rw[h]at h1003;exact h1003),fun h=>key _ (by rw[h]at h1004;exact h1004),fun h=>key _ (by rw[h]at h1005;exact h1005),fun h=>?_⟩
 rcases h1006 with h1006|h1006
 ·exact h1006
 ·rw[h]at h1006;cases h1006.1
def h14:List V→Option V
 |[.g [.i .i64 op,.i .i64 d,.i .i64 a,.i .i64 b,.i .i64 i]]=>some (if bQ op d a b i=true then .t [sV (cL op d a b i),.i .i64 0]else .t [.s 0 0,.i .i64 2])
 |_=>none
theorem Dh(op d a b i:Int):h14 [.g [.i .i64 op,.i .i64 d,.i .i64 a,.i .i64 b,.i .i64 i]]=some (if bQ op d a b i=true then .t [sV (cL op d a b i),.i .i64 0]else .t [.s 0 0,.i .i64 2]):=rfl
def j2(s:List UInt8)(r:V):Prop:=
 (∃op d a b i,bQ op d a b i=true∧cL op d a b i=s∧r= .t [.g [.i .i64 op,.i .i64 d,.i .i64 a,.i .i64 b,.i .i64 i],.i .i64 0])∨
 ((∀op d a b i,bQ op d a b i=true→cL op d a b i≠s)∧r= .t [.g [.i .i64 0,.i .i64 0,.i .i64 0,.i .i64 0,.i .i64 0],.i .i64 4])
def PI(F:RO)(M0 M:Mem)(c1 c cb:Nat)(rest:List UInt8)(op d a b i:Int):Prop:=
 eA F M c1∧c+4≤cb∧cb<c1∧1000≤c∧M.get c=some (aK 59 [.i .i64 0,.i .i64 0,.i .i64 0,.i .i64 0,.i .i64 0])∧M.get (c+1)=some (aK 9 [sV rest])∧M.get (c+2)=some (aK 79 [.f 50 [] [.p (c+1) 0]])∧
 M.get (c+3)=some (aK 59 [.i .i64 op,.i .i64 d,.i .i64 a,.i .i64 b,.i .i64 i])∧M.get cb=some (aK 94 [.b (dI (aD op)),.b (aI (aD op)),.b (bI (aD op)),.b (iI (aD op))])∧(∀g,g<1000→M.get g=none)∧rest.length≤1000000∧Gr c M0 c1 M
theorem PI.step{F:RO}{M0 M M':Mem}{c1 c2 c cb:Nat}{rest:List UInt8}{op d a b i d' a' b' i':Int}(h:PI F M0 M c1 c cb rest op d a b i)(hg:Gr c1 (M.set (c+1) (aK 9 [sV (mV rest)])) c2 M'):
 PI F M0 (M'.set (c+3) (aK 59 [.i .i64 op,.i .i64 d',.i .i64 a',.i .i64 b',.i .i64 i'])) c2 c cb (mV rest) op d' a' b' i':=by
 obtain⟨ok,k1,k2,k3,g0,g1,g2,g3,g4,g5,g6,g7⟩:=h
 have ok1:=hg.ok (ok.put (y:=aK 9 [sV (mV rest)]) (show c+1<c1 by omega) g1)
 have o:∀x,x<c1→x≠c+1→M'.get x=M.get x:=fun x hx hn=>by rw[hg.old x hx,aq _ _ hn]
 have e1003:M'.get (c+3)=some (aK 59 [.i .i64 op,.i .i64 d,.i .i64 a,.i .i64 b,.i .i64 i]):=by rw[o (c+3) (by omega) (by omega)];exact g3
 have hle:=hg.le
 refine⟨ok1.put (by omega) e1003,k1,by omega,k3,?_,?_,?_,aw _ _ _,?_,fun g hg'=>?_,bm (Ah rest) g6,((g7.set (c2:=c1) (c+1) _ (by omega) (by omega) (ah _)).trans hg).set (c2:=c2) (c+3) _ (by omega) (by omega) (ah _)⟩
 ·rw[aq _ _ (by omega),o c (by omega) (by omega)];exact g0
 ·rw[aq _ _ (by omega),hg.old (c+1) (by omega),aw]
 ·rw[aq _ _ (by omega),o (c+2) (by omega) (by omega)];exact g2
 ·rw[aq _ _ (by omega),o cb (by omega) (by omega)];exact g4
 ·rw[aq _ _ (by omega),o g (by omega) (by omega)];exact g5 g hg'
theorem bW6(Φ:Nat→Option CF){L:List gF}(h14:Φ 14=some (.orc (ce L h14)))(h50:Φ 50=some Uf)(h35:Φ 35=some (.orc (aj vn)))(h51:Φ 51=some Y0)(h53:Φ 53=some (.orc (aj wM)))(h52:Φ 52=some yR)(h89:Φ 89=some xe)(h85:Φ 85=some wD)(h112:Φ 112=some jR)(h113:Φ 113=some jS)(h119:Φ 119=some kQ)(h84:Φ 84=some tI)(h136:Φ 136=some (.orc (aj h136)))(h110:Φ 110=some (.orc (aj h110))){F:RO}{M0 M:Mem}{c c1 cb:Nat}(ht:bB F L=true)(hE1:bF F 1)(hE2:bF F 2){s rest:List UInt8}{op d a b i:Int}(h:PI F M0 M c1 c cb rest op d a b i)
 (HC:∀op' d' a' b' i',bQ op' d' a' b' i'=true→cL op' d' a' b' i'=s→op'=op∧d'=d∧a'=a∧b'=b∧i'=i) (u:List (Option V)):
 Wp py (K Φ none 20 F) (.mk ((.n (.n (.n (.n (eH u 31 15 47) (some (.p (c+3) 0)) (eH u 39 23 55)) (some (.i .i64 0)) (ay u 35 19 51 11 43 27 59)) (uO u 1) (.n (ay u 33 17 49 9 41 25 57) (some (.p (c+2) 0)) (ay u 37 21 53 13 45 29 61))) (some (sV s)) (.n (.n (.n (eH u 32 16 48) (some (.p cb 0)) (eH u 40 24 56)) (some (.p (c+1) 0)) (ay u 36 20 52 12 44 28 60)) (some (.p c 0)) (.n (ay u 34 18 50 10 42 26 58) (some (.f 51 [] [.p (c+2) 0])) (ay u 38 22 54 14 46 30 62))))) [] M c1) (j5 F [.cn (.r .h) 5,.t (.l (.l .h))] fun r M' c'=>j2 s r∧Gr c M0 c' M'):=by
 obtain⟨ok,k1,k2,k3,g0,g1,g2,g3,g4,g5,g6,g7⟩:=h
 have hT:=fun h args M c=>eu ht h args M c
 have li:loadN F M (c+3) 0 5=some [.i .i64 op,.i .i64 d,.i .i64 a,.i .i64 b,.i .i64 i]:=lu g3 5 rfl
 cases hm:bQ op d a b i with
 |true=>
  have h1:Ev.h14 [.g [.i .i64 op,.i .i64 d,.i .i64 a,.i .i64 b,.i .i64 i]]=some (.t [sV (cL op d a b i),.i .i64 0]):=by rw[Dh,ac hm]
  by_cases hs:cL op d a b i=s
  ·have e1:bu .neq (sV (cL op d a b i)) (sV s)=some (.b false):=by rw[np,af hs];rfl
   have hst:=bC g0 0 [.i .i64 op,.i .i64 d,.i .i64 a,.i .i64 b,.i .i64 i] (by simp) rfl;simp only[WX,Nat.reduceAdd,Nat.reduceLeDiff,B20,li,h14,hT,h1,e1,hst,eq_self,ne_eq,not_true_eq_false];exact⟨.inl ⟨op,d,a,b,i,hm,hs,rfl⟩,g7.set (c2:=c1) c _ (ah _) (by omega) (ah _)⟩
  ·have e1:bu .neq (sV (cL op d a b i)) (sV s)=some (.b true):=by rw[np,ag hs];rfl
   have hst:=bC g0 0 [.i .i64 0,.i .i64 0,.i .i64 0,.i .i64 0,.i .i64 0] (by simp) rfl;simp only[WX,Nat.reduceAdd,Nat.reduceLeDiff,B20,li,h14,hT,h1,e1,hst,eq_self,ne_eq,not_true_eq_false];refine⟨.inr ⟨fun op' d' a' b' i' hm' hs'=>?_,rfl⟩,g7.set (c2:=c1) c _ (ah _) (by omega) (ah _)⟩;obtain⟨rfl,rfl,rfl,rfl,rfl⟩:=HC _ _ _ _ _ hm' hs';exact hs hs'
 |false=>
  have h1:Ev.h14 [.g [.i .i64 op,.i .i64 d,.i .i64 a,.i .i64 b,.i .i64 i]]=some (.t [.s 0 0,.i .i64 2]):=by rw[Dh,ab (by rw[hm];decide)]
  have hst:=bC g0 0 [.i .i64 0,.i .i64 0,.i .i64 0,.i .i64 0,.i .i64 0] (by simp) rfl;simp only[WX,Int.reduceEq,Nat.reduceAdd,Nat.reduceLeDiff,B20,li,h14,hT,h1,hst,eq_self,ne_eq,not_false_eq_true];refine⟨.inr ⟨fun op' d' a' b' i' hm' hs'=>?_,rfl⟩,g7.set (c2:=c1) c _ (ah _) (by omega) (ah _)⟩;obtain⟨rfl,rfl,rfl,rfl,rfl⟩:=HC _ _ _ _ _ hm' hs';rw[hm]at hm';cases hm'
theorem bW7(Φ:Nat→Option CF){L:List gF}(h14:Φ 14=some (.orc (ce L h14)))(h50:Φ 50=some Uf)(h35:Φ 35=some (.orc (aj vn)))(h51:Φ 51=some Y0)(h53:Φ 53=some (.orc (aj wM)))(h52:Φ 52=some yR)(h89:Φ 89=some xe)(h85:Φ 85=some wD)(h112:Φ 112=some jR)(h113:Φ 113=some jS)(h119:Φ 119=some kQ)(h84:Φ 84=some tI)(h136:Φ 136=some (.orc (aj h136)))(h110:Φ 110=some (.orc (aj h110))){F:RO}{M0 M:Mem}{c c1 cb:Nat}(ht:bB F L=true)(hE1:bF F 1)(hE2:bF F 2){s rest:List UInt8}{op d a b:Int}(h:PI F M0 M c1 c cb rest op d a b 0)
 (HC:∀op' d' a' b' i',bQ op' d' a' b' i'=true→cL op' d' a' b' i'=s→op'=op∧d'=d∧a'=a∧b'=b∧rest=aT [32] (R4 op i')) (u:List (Option V)):
 Wp rH (K Φ none 20 F) (.mk ((.n (.n (.n (.n (eH u 31 15 47) (some (.p (c+3) 0)) (eH u 39 23 55)) (some (.i .i64 0)) (ay u 35 19 51 11 43 27 59)) (uO u 1) (.n (ay u 33 17 49 9 41 25 57) (some (.p (c+2) 0)) (ay u 37 21 53 13 45 29 61))) (some (sV s)) (.n (.n (.n (eH u 32 16 48) (some (.p cb 0)) (eH u 40 24 56)) (some (.p (c+1) 0)) (ay u 36 20 52 12 44 28 60)) (some (.p c 0)) (.n (ay u 34 18 50 10 42 26 58) (some (.f 51 [] [.p (c+2) 0])) (ay u 38 22 54 14 46 30 62))))) [] M c1) (mZ py (K Φ none 20 F) (j5 F [.cn (.r .h) 5,.t (.l (.l .h))] fun r M' c'=>j2 s r∧Gr c M0 c' M')):=by
 have hPI:=h
 obtain⟨ok,k1,k2,k3,g0,g1,g2,g3,g4,g5,g6,g7⟩:=h
 have lb:load1 F M cb 3=some (.b (iI (aD op))):=bZ g4 3
 cases hfl:iI (aD op)with
 |true=>
  rw[hfl]at lb;simp only[WX,Eo,WD,Ep,lb];refine aB ((r51 Φ h51 h50 h35 h53 h52 h89 h85 h112 h113 h119 h84 h136 h110 ok hE1 hE2 g5 g1 (by omega) g2 g6 []).mono ?_);rintro r M2 c2 ⟨z,rfl,hz,hg⟩;have hP:=PI.step (d':=d) (a':=a) (b':=b) (i':=z) hPI hg;have e1003:M2.get (c+3)=some (aK 59 [.i .i64 op,.i .i64 d,.i .i64 a,.i .i64 b,.i .i64 0]):=by rw[hg.old (c+3) (by omega),aq _ _ (by omega)];exact g3
  have hst:=bC e1003 4 [.i .i64 z] (by simp) rfl;simp only[WX,Nat.reduceAdd,hst];refine bW6 Φ h14 h50 h35 h51 h53 h52 h89 h85 h112 h113 h119 h84 h136 h110 ht hE1 hE2 hP ?_ [none,_,none,none,none,none,none,none,none,_,_,_,_,_,_,_,_,_,_,_,_,_,_,_,_,_,_,_,_,_,_,_,_,_,_,_,_,_,_,_,_,_,_,_,_,_,_,_,_,_,_,_,_,_,_,_,_,_,_,_,_,_,_];intro op' d' a' b' i' hm' hs';obtain⟨rfl,rfl,rfl,rfl,e⟩:=HC op' d' a' b' i' hm' hs';obtain⟨m1,m2,m3,m4,m5⟩:=dL hm';have hw:rest=aT [32] ((bS i')::[]):=by rw[e,R4,hfl,ac rfl]<;>rfl
  have hr: -10000000<i'∧i'<10000000:=by omega
  obtain⟨w1,w2⟩:=gP (bS i') ([]) (zj hr.1 hr.2);rw[←hw]at w1 w2;rw[w1,L0]at hz;have hzz:=hz i' hr.1 hr.2 rfl;exact⟨rfl,rfl,rfl,rfl,hzz.symm⟩
 |false=>
  rw[hfl]at lb;simp only[WX,Eo,Ep,lb];refine bW6 Φ h14 h50 h35 h51 h53 h52 h89 h85 h112 h113 h119 h84 h136 h110 ht hE1 hE2 (rest:=rest) hPI ?_ [none,_,none,none,none,none,none,none,none,_,_,_,_,_,_,_,_,_,_,_,_,_,_,_,_,_,_,_,_,_,_,_,_,_,_,_,_,_,_,_,_,_,_,_,_,_,_,_,_,_,_,_,_,_,_,_,_,_,_,_,_,_,_];intro op' d' a' b' i' hm' hs';obtain⟨rfl,rfl,rfl,rfl,e⟩:=HC op' d' a' b' i' hm' hs';have hz:=(fC hm').2.2.2 hfl;exact⟨rfl,rfl,rfl,rfl,hz⟩
theorem bW5(Φ:Nat→Option CF){L:List gF}(h14:Φ 14=some (.orc (ce L h14)))(h50:Φ 50=some Uf)(h35:Φ 35=some (.orc (aj vn)))(h51:Φ 51=some Y0)(h53:Φ 53=some (.orc (aj wM)))(h52:Φ 52=some yR)(h89:Φ 89=some xe)(h85:Φ 85=some wD)(h112:Φ 112=some jR)(h113:Φ 113=some jS)(h119:Φ 119=some kQ)(h84:Φ 84=some tI)(h136:Φ 136=some (.orc (aj h136)))(h110:Φ 110=some (.orc (aj h110))){F:RO}{M0 M:Mem}{c c1 cb:Nat}(ht:bB F L=true)(hE1:bF F 1)(hE2:bF F 2){s rest:List UInt8}{op d a:Int}(h:PI F M0 M c1 c cb rest op d a 0 0)
 (HC:∀op' d' a' b' i',bQ op' d' a' b' i'=true→cL op' d' a' b' i'=s→op'=op∧d'=d∧a'=a∧rest=aT [32] (R3 op b' i')) (u:List (Option V)):
 Wp uJ (K Φ none 20 F) (.mk ((.n (.n (.n (.n (eH u 31 15 47) (some (.p (c+3) 0)) (eH u 39 23 55)) (some (.i .i64 0)) (ay u 35 19 51 11 43 27 59)) (uO u 1) (.n (ay u 33 17 49 9 41 25 57) (some (.p (c+2) 0)) (ay u 37 21 53 13 45 29 61))) (some (sV s)) (.n (.n (.n (eH u 32 16 48) (some (.p cb 0)) (eH u 40 24 56)) (some (.p (c+1) 0)) (ay u 36 20 52 12 44 28 60)) (some (.p c 0)) (.n (ay u 34 18 50 10 42 26 58) (some (.f 51 [] [.p (c+2) 0])) (ay u 38 22 54 14 46 30 62))))) [] M c1) (mZ (.seq rH py) (K Φ none 20 F) (j5 F [.cn (.r .h) 5,.t (.l (.l .h))] fun r M' c'=>j2 s r∧Gr c M0 c' M')):=by
 have hPI:=h
 obtain⟨ok,k1,k2,k3,g0,g1,g2,g3,g4,g5,g6,g7⟩:=h
 have lb:load1 F M cb 2=some (.b (bI (aD op))):=bZ g4 2
 cases hfl:bI (aD op)with
 |true=>
  rw[hfl]at lb;simp only[WX,Em,WC,En,lb];refine aB ((r51 Φ h51 h50 h35 h53 h52 h89 h85 h112 h113 h119 h84 h136 h110 ok hE1 hE2 g5 g1 (by omega) g2 g6 [114]).mono ?_);rintro r M2 c2 ⟨z,rfl,hz,hg⟩;have hP:=PI.step (d':=d) (a':=a) (b':=z) (i':=0) hPI hg;have e1003:M2.get (c+3)=some (aK 59 [.i .i64 op,.i .i64 d,.i .i64 a,.i .i64 0,.i .i64 0]):=by rw[hg.old (c+3) (by omega),aq _ _ (by omega)];exact g3
  have hst:=bC e1003 3 [.i .i64 z] (by simp) rfl;simp only[WX,Nat.reduceAdd,hst];refine bW7 Φ h14 h50 h35 h51 h53 h52 h89 h85 h112 h113 h119 h84 h136 h110 ht hE1 hE2 hP ?_ [none,_,none,none,none,none,none,none,none,_,_,_,_,_,_,_,_,_,_,_,_,_,_,_,_,_,_,_,_,_,_,_,_,_,_,_,_,_,_,_,_,_,_,_,_,_,_,_,_,_,_,_,_,_,_,_,_,_,_,_,_,_,_];intro op' d' a' b' i' hm' hs';obtain⟨rfl,rfl,rfl,e⟩:=HC op' d' a' b' i' hm' hs';obtain⟨m1,m2,m3,m4,m5⟩:=dL hm';have hw:rest=aT [32] ((114::bS b')::R4 op' i'):=by rw[e,R3,hfl,ac rfl]<;>rfl
  have hr: -10000000<b'∧b'<10000000:=by have:=m3 2;rw[show fl d' a' b' 2=b' from rfl]at this;omega
  obtain⟨w1,w2⟩:=gP (114::bS b') (R4 op' i') (tg hr.1 hr.2);rw[←hw]at w1 w2;rw[w1,zS]at hz;have hzz:=hz b' hr.1 hr.2 rfl;exact⟨rfl,rfl,rfl,hzz.symm,w2⟩
 |false=>
  rw[hfl]at lb;simp only[WX,Em,En,lb];refine bW7 Φ h14 h50 h35 h51 h53 h52 h89 h85 h112 h113 h119 h84 h136 h110 ht hE1 hE2 (rest:=rest) hPI ?_ [none,_,none,none,none,none,none,none,none,_,_,_,_,_,_,_,_,_,_,_,_,_,_,_,_,_,_,_,_,_,_,_,_,_,_,_,_,_,_,_,_,_,_,_,_,_,_,_,_,_,_,_,_,_,_,_,_,_,_,_,_,_,_];intro op' d' a' b' i' hm' hs';obtain⟨rfl,rfl,rfl,e⟩:=HC op' d' a' b' i' hm' hs';have hz:=(fC hm').2.2.1 hfl;exact⟨rfl,rfl,rfl,hz,by rw[e,R3,hfl,ab (by decide)]<;>rfl⟩
theorem bW4(Φ:Nat→Option CF){L:List gF}(h14:Φ 14=some (.orc (ce L h14)))(h50:Φ 50=some Uf)(h35:Φ 35=some (.orc (aj vn)))(h51:Φ 51=some Y0)(h53:Φ 53=some (.orc (aj wM)))(h52:Φ 52=some yR)(h89:Φ 89=some xe)(h85:Φ 85=some wD)(h112:Φ 112=some jR)(h113:Φ 113=some jS)(h119:Φ 119=some kQ)(h84:Φ 84=some tI)(h136:Φ 136=some (.orc (aj h136)))(h110:Φ 110=some (.orc (aj h110))){F:RO}{M0 M:Mem}{c c1 cb:Nat}(ht:bB F L=true)(hE1:bF F 1)(hE2:bF F 2){s rest:List UInt8}{op d:Int}(h:PI F M0 M c1 c cb rest op d 0 0 0)
 (HC:∀op' d' a' b' i',bQ op' d' a' b' i'=true→cL op' d' a' b' i'=s→op'=op∧d'=d∧rest=aT [32] (R2 op a' b' i')) (u:List (Option V)):
 Wp yK (K Φ none 20 F) (.mk ((.n (.n (.n (.n (eH u 31 15 47) (some (.p (c+3) 0)) (eH u 39 23 55)) (some (.i .i64 0)) (ay u 35 19 51 11 43 27 59)) (uO u 1) (.n (ay u 33 17 49 9 41 25 57) (some (.p (c+2) 0)) (ay u 37 21 53 13 45 29 61))) (some (sV s)) (.n (.n (.n (eH u 32 16 48) (some (.p cb 0)) (eH u 40 24 56)) (some (.p (c+1) 0)) (ay u 36 20 52 12 44 28 60)) (some (.p c 0)) (.n (ay u 34 18 50 10 42 26 58) (some (.f 51 [] [.p (c+2) 0])) (ay u 38 22 54 14 46 30 62))))) [] M c1) (mZ (.seq uJ (.seq rH py)) (K Φ none 20 F) (j5 F [.cn (.r .h) 5,.t (.l (.l .h))] fun r M' c'=>j2 s r∧Gr c M0 c' M')):=by
 have hPI:=h
 obtain⟨ok,k1,k2,k3,g0,g1,g2,g3,g4,g5,g6,g7⟩:=h
 have lb:load1 F M cb 1=some (.b (aI (aD op))):=bZ g4 1
 cases hfl:aI (aD op)with
 |true=>
  rw[hfl]at lb;simp only[WX,Ek,WB,El,lb];refine aB ((r51 Φ h51 h50 h35 h53 h52 h89 h85 h112 h113 h119 h84 h136 h110 ok hE1 hE2 g5 g1 (by omega) g2 g6 [114]).mono ?_);rintro r M2 c2 ⟨z,rfl,hz,hg⟩;have hP:=PI.step (d':=d) (a':=z) (b':=0) (i':=0) hPI hg;have e1003:M2.get (c+3)=some (aK 59 [.i .i64 op,.i .i64 d,.i .i64 0,.i .i64 0,.i .i64 0]):=by rw[hg.old (c+3) (by omega),aq _ _ (by omega)];exact g3
  have hst:=bC e1003 2 [.i .i64 z] (by simp) rfl;simp only[WX,Nat.reduceAdd,hst];refine bW5 Φ h14 h50 h35 h51 h53 h52 h89 h85 h112 h113 h119 h84 h136 h110 ht hE1 hE2 hP ?_ [none,_,none,none,none,none,none,none,none,_,_,_,_,_,_,_,_,_,_,_,_,_,_,_,_,_,_,_,_,_,_,_,_,_,_,_,_,_,_,_,_,_,_,_,_,_,_,_,_,_,_,_,_,_,_,_,_,_,_,_,_,_,_];intro op' d' a' b' i' hm' hs';obtain⟨rfl,rfl,e⟩:=HC op' d' a' b' i' hm' hs';obtain⟨m1,m2,m3,m4,m5⟩:=dL hm';have hw:rest=aT [32] ((114::bS a')::R3 op' b' i'):=by rw[e,R2,hfl,ac rfl]<;>rfl
  have hr: -10000000<a'∧a'<10000000:=by have:=m3 1;rw[show fl d' a' b' 1=a' from rfl]at this;omega
  obtain⟨w1,w2⟩:=gP (114::bS a') (R3 op' b' i') (tg hr.1 hr.2);rw[←hw]at w1 w2;rw[w1,zS]at hz;have hzz:=hz a' hr.1 hr.2 rfl;exact⟨rfl,rfl,hzz.symm,w2⟩
 |false=>
  rw[hfl]at lb;simp only[WX,Ek,El,lb];refine bW5 Φ h14 h50 h35 h51 h53 h52 h89 h85 h112 h113 h119 h84 h136 h110 ht hE1 hE2 (rest:=rest) hPI ?_ [none,_,none,none,none,none,none,none,none,_,_,_,_,_,_,_,_,_,_,_,_,_,_,_,_,_,_,_,_,_,_,_,_,_,_,_,_,_,_,_,_,_,_,_,_,_,_,_,_,_,_,_,_,_,_,_,_,_,_,_,_,_,_];intro op' d' a' b' i' hm' hs';obtain⟨rfl,rfl,e⟩:=HC op' d' a' b' i' hm' hs';have hz:=(fC hm').2.1 hfl;exact⟨rfl,rfl,hz,by rw[e,R2,hfl,ab (by decide)]<;>rfl⟩
theorem cA1(Φ:Nat→Option CF){L:List gF}(h14:Φ 14=some (.orc (ce L h14)))(h50:Φ 50=some Uf)(h35:Φ 35=some (.orc (aj vn)))(h51:Φ 51=some Y0)(h53:Φ 53=some (.orc (aj wM)))(h52:Φ 52=some yR)(h89:Φ 89=some xe)(h85:Φ 85=some wD)(h112:Φ 112=some jR)(h113:Φ 113=some jS)(h119:Φ 119=some kQ)(h84:Φ 84=some tI)(h136:Φ 136=some (.orc (aj h136)))(h110:Φ 110=some (.orc (aj h110))){F:RO}{M0 M:Mem}{c c1 cb:Nat}(ht:bB F L=true)(hE1:bF F 1)(hE2:bF F 2){s rest:List UInt8}{op:Int}(h:PI F M0 M c1 c cb rest op 0 0 0 0)
 (HC:∀op' d' a' b' i',bQ op' d' a' b' i'=true→cL op' d' a' b' i'=s→op'=op∧rest=aT [32] (R1 op d' a' b' i')) (u:List (Option V)):
 Wp Cv (K Φ none 20 F) (.mk ((.n (.n (.n (.n (eH u 31 15 47) (some (.p (c+3) 0)) (eH u 39 23 55)) (some (.i .i64 0)) (ay u 35 19 51 11 43 27 59)) (uO u 1) (.n (ay u 33 17 49 9 41 25 57) (some (.p (c+2) 0)) (ay u 37 21 53 13 45 29 61))) (some (sV s)) (.n (.n (.n (eH u 32 16 48) (some (.p cb 0)) (eH u 40 24 56)) (some (.p (c+1) 0)) (ay u 36 20 52 12 44 28 60)) (some (.p c 0)) (.n (ay u 34 18 50 10 42 26 58) (some (.f 51 [] [.p (c+2) 0])) (ay u 38 22 54 14 46 30 62))))) [] M c1) (mZ (.seq yK (.seq uJ (.seq rH py))) (K Φ none 20 F) (j5 F [.cn (.r .h) 5,.t (.l (.l .h))] fun r M' c'=>j2 s r∧Gr c M0 c' M')):=by
 have hPI:=h
 obtain⟨ok,k1,k2,k3,g0,g1,g2,g3,g4,g5,g6,g7⟩:=h
 have lb:load1 F M cb 0=some (.b (dI (aD op))):=bZ g4 0
 cases hfl:dI (aD op)with
 |true=>
  rw[hfl]at lb;simp only[WX,WG,b22,Ej,lb];refine aB ((r51 Φ h51 h50 h35 h53 h52 h89 h85 h112 h113 h119 h84 h136 h110 ok hE1 hE2 g5 g1 (by omega) g2 g6 [114]).mono ?_);rintro r M2 c2 ⟨z,rfl,hz,hg⟩;have hP:=PI.step (d':=z) (a':=0) (b':=0) (i':=0) hPI hg;have e1003:M2.get (c+3)=some (aK 59 [.i .i64 op,.i .i64 0,.i .i64 0,.i .i64 0,.i .i64 0]):=by rw[hg.old (c+3) (by omega),aq _ _ (by omega)];exact g3
  have hst:=bC e1003 1 [.i .i64 z] (by simp) rfl;simp only[WX,Nat.reduceAdd,hst];refine bW4 Φ h14 h50 h35 h51 h53 h52 h89 h85 h112 h113 h119 h84 h136 h110 ht hE1 hE2 hP ?_ [none,_,none,none,none,none,none,none,none,_,_,_,_,_,_,_,_,_,_,_,_,_,_,_,_,_,_,_,_,_,_,_,_,_,_,_,_,_,_,_,_,_,_,_,_,_,_,_,_,_,_,_,_,_,_,_,_,_,_,_,_,_,_];intro op' d' a' b' i' hm' hs';obtain⟨rfl,e⟩:=HC op' d' a' b' i' hm' hs';obtain⟨m1,m2,m3,m4,m5⟩:=dL hm';have hw:rest=aT [32] ((114::bS d')::R2 op' a' b' i'):=by rw[e,R1,hfl,ac rfl]<;>rfl
  have hr: -10000000<d'∧d'<10000000:=by have:=m3 0;rw[show fl d' a' b' 0=d' from rfl]at this;omega
  obtain⟨w1,w2⟩:=gP (114::bS d') (R2 op' a' b' i') (tg hr.1 hr.2);rw[←hw]at w1 w2;rw[w1,zS]at hz;have hzz:=hz d' hr.1 hr.2 rfl;exact⟨rfl,hzz.symm,w2⟩
 |false=>
  rw[hfl]at lb;simp only[WX,WG,Ej,lb];refine bW4 Φ h14 h50 h35 h51 h53 h52 h89 h85 h112 h113 h119 h84 h136 h110 ht hE1 hE2 (rest:=rest) hPI ?_ [none,_,none,none,none,none,none,none,none,_,_,_,_,_,_,_,_,_,_,_,_,_,_,_,_,_,_,_,_,_,_,_,_,_,_,_,_,_,_,_,_,_,_,_,_,_,_,_,_,_,_,_,_,_,_,_,_,_,_,_,_,_,_];intro op' d' a' b' i' hm' hs';obtain⟨rfl,e⟩:=HC op' d' a' b' i' hm' hs';have hz:=(fC hm').1 hfl;exact⟨rfl,hz,by rw[e,R1,hfl,ab (by decide)]<;>rfl⟩
end
end Go.Proofs.YtkcelmimbmbfkaaGreatDoor.Ev
