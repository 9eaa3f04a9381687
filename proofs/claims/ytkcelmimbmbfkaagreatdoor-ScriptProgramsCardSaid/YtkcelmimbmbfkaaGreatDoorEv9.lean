/- What is proved here: pieces of the evaluator's soundness: if the evaluator comes to a value, the model's run comes to it, for every world and tape; no conditions beyond the hypotheses of each theorem. -/
import Derived.Test.YtkcelmimbmbfkaaGreatDoorEv8
set_option linter.unusedSimpArgs false
set_option linter.unusedVariables false
set_option linter.defProp false
set_option maxRecDepth 10000
set_option maxHeartbeats 16000000
namespace Go.Proofs.YtkcelmimbmbfkaaGreatDoor.Ev
open Go
noncomputable section
def aG8:CC:=(.reg [(qq a4 (.mv (x6 0)))])
def aG9:CC:=(.reg [(qq a5 (.mv (x6 0)))])
def aH0:CC:=(.reg [(qq a6 (.mv z5)),(qq a7 (.mv z0)),(qq a8 (.ln .str z7)),(qq a9 (.bi .leq z6 z8)),(qq cg (.mv z9)),(ak cI (.mv z3) cg),(ak de (.ln .slice cD) cg),(ak cH (.bi .lss cS (x6 9)) cg),(qq db (.pk cj cR xF))])
def aH1:CC:=(.reg [(qq dO (.mv z5)),(qq dY (.mv z0)),(qq eg (.ln .str ey)),(qq eQ (.bi .eql dM eV)),(qq dP (.mv eW)),(aL eB (.mv z0) dP),(aL ec (.mv z5) dP),(aL dH (.ixS eX fG) dP),(aL eR (.bi .eql fH (.c (.i .u8 32))) dP),(qq eD (.pk fm xT fJ))])
def aH2:CC:=(.reg [(qq eJ (.mv z3)),(qq fk (.mv z0)),(qq eE (.mv z4)),(qq eY (.mv z5)),(qq gH (.slS g9 (some gA) (some gC))),(aa fo (.bsl 9 1 1 [(.s 0 0)] [(0,gD)])),(ee gu (.app 9 1 16 fL iE)),(qq a3 (.mv j1))])
def aH3:CC:=(.reg [(qq gh (.mv z5)),(qq iq (.bi .add ji (x6 1))),(qq a4 (.mv jj))])
def aH4:CC:=(.cond fK (.seq aH2 aH3) .skip)
def aH5:CC:=(.reg [(qq du (.mv z5)),(qq dE (.bi .add dj (x6 1))),(qq a5 (.mv dQ))])
def aH6:CC:=(.seq (.seq aH0 (.cond dD .skip (.exit 0))) (.seq (.block 1 (.seq aH1 aH4)) aH5))
def Qo:CC:=(.reg [(qq j3 (.mv z3)),(qq a2 (.mv jz))])
def Qp:CC:=(.seq (.seq aG9 (.block 0 (.loop aH6))) (.seq Qo .ret))
def Qq:CC:=(.seq (.reg [(qq a3 (.mv (.c .l0)))]) (.seq aG8 Qp))
def Qr:CC:=(.seq (.reg [(qq a2 (.mv (.c .l0)))]) Qq)
def c57:CF:= .mk 6 [.t a2] Qr
theorem e57(v0:V):aS 6 [v0]=(.n mr (some v0) mr):=rfl
def B57:=ai @e57 (ai (wu aG8.eq_1) (ai (wu aG9.eq_1) (ai (wu aH0.eq_1) (ai (wu aH1.eq_1) (ai (wu aH2.eq_1) (ai (wu aH3.eq_1) (ai (wu aH4.eq_1) (ai (wu aH5.eq_1) (ai (wu aH6.eq_1) (ai (wu Qo.eq_1) (ai (wu Qp.eq_1) (ai (wu Qq.eq_1) (wu Qr.eq_1)))))))))))))
def aK3:CC:=(.reg [(qq a6 (.mv (x6 0)))])
def aK4:CC:=(.reg [(qq a9 (.mv z1)),(qq cg (.mv z0)),(qq cI (.ln .slice cj)),(qq de (.bi .geq z9 cD)),(qq cH (.mv cS)),(aL db (.mv z0) cH),(aL du (.mv z1) cH),(aL dE (.iaS 1 dD dj) cH),(aL dO (.ld1 dQ) cH),(aL dY (.ln .str dM) cH),(aL eg (.mv z2) cH),(aL eQ (.bi .lss ey eV) cH),(qq dP (.pk cR xT eW))])
def aK5:CC:=(.reg [(qq a6 (.mv (x6 0)))])
def aK6:CC:=(.seq aK4 (.cond fm (.seq aK5 .ret) .skip))
def aK7:CC:=(.reg [(qq ec (.mv z0)),(qq dH (.mv z1)),(qq eR (.iaS 1 fG fH)),(qq eD (.ld1 fJ)),(qq eJ (.mv z2)),(qq fk (.slS fK (some fL) none)),(ee eE (.call 52 [g9])),(qq eB (.mv gA)),(qq eY (.ex 0 eX)),(qq gH (.ex 1 eX)),(qq a7 (.mv gC)),(qq a8 (.mv gD))])
def aK8:CC:=(.reg [(qq fo (.mv z7)),(qq a6 (.mv iE))])
def Y1:CF:= .mk 6 [.t a6] (.seq aK3 (.seq aK6 (.seq aK7 (.seq aK8 .ret))))
theorem e61(v0 v1 v2:V):aS 6 [v0,v1,v2]=(.n (.n l8 (some v1) l8) (some v0) (.n l8 (some v2) l8)):=rfl
def B61:=ai @e61 (ai (wu aK3.eq_1) (ai (wu aK4.eq_1) (ai (wu aK5.eq_1) (ai (wu aK6.eq_1) (ai (wu aK7.eq_1) (wu aK8.eq_1))))))
def dp:Nat→List UInt8→List (List UInt8)
 |0,_=>[]
 |k+1,s=>match mX 32 s 0 with
  |some j=>s.take j::dp k (s.drop (j+1))
  |none=>[s]
theorem wg:∀k s,(dp k s).length≤k
 |0,s=>ah _
 |k+1,s=>by
  unfold dp;cases mX 32 s 0 with
  |some j=>show(dp k (s.drop (j+1))).length+1≤k+1;have:=wg k (s.drop (j+1));omega
  |none=>show 1≤k+1;omega
theorem vh:∀(l:List UInt8) (i:Nat),(∀x∈l,x≠32)→mX 32 l i=none
 |[],i,_=>rfl
 |x::l,i,h=>by rw[mX,ab (h x (bh ..))];exact vh l (i+1) fun y hy=>h y (bc _ hy)
theorem BF{s:List UInt8}{k at_ i:Nat}(hai:at_≤i)(hi:i<s.length)(hf:∀x∈(s.take i).drop at_,x≠32)(hb:s[i]=32):dp (k+1) (s.drop at_)=(s.take i).drop at_::dp k (s.drop (i+1)):=by
 have e:s.drop at_=(s.take i).drop at_++32::s.drop (i+1):=by
  have h1:s=s.take i++s[i]::s.drop (i+1):=by rw[List.getElem_cons_drop hi,List.take_append_drop]
  conv=>lhs;rw[h1]
  rw[List.drop_append_of_le_length (by rw[List.length_take];omega),hb]
 obtain⟨h1,_⟩:=nB ((s.take i).drop at_) (s.drop (i+1)) 0 hf
 rw[dp,e,h1,Nat.zero_add]
 show((s.take i).drop at_++32::s.drop (i+1)).take ((s.take i).drop at_).length::dp k (((s.take i).drop at_++32::s.drop (i+1)).drop (((s.take i).drop at_).length+1))=_
 rw[List.take_left,show(s.take i).drop at_++32::s.drop (i+1)=((s.take i).drop at_++[32])++s.drop (i+1) by simp,List.drop_left' (by simp)]
theorem E9{s:List UInt8}{k at_:Nat}(hf:∀x∈s.drop at_,x≠32):dp (k+1) (s.drop at_)=[s.drop at_]:=by
 rw[dp,vh _ _ hf]
theorem wh:∀(k:Nat) (ws:List (List UInt8)),ws≠[]→ws.length≤k→(∀w∈ws,∀x∈w,x≠32)→dp k (aT [32] ws)=ws
 |0,ws,h0,h1,_=>by have:=List.length_pos_iff.2 h0;omega
 |k+1,[],h0,_,_=>absurd rfl h0
 |k+1,[w],_,_,h=>by
  have e:aT [32] [w]=w:=by simp[aT]
  rw[e,dp,vh _ _ (h w (bh ..))]
 |k+1,w::x::r,_,h1,h=>by
  have e:aT [32] (w::x::r)=w++32::aT [32] (x::r):=by simp[aT]
  obtain⟨h2,_⟩:=nB w (aT [32] (x::r)) 0 (h w (bh ..));rw[dp,e,h2,Nat.zero_add];show(w++32::aT [32] (x::r)).take w.length::dp k ((w++32::aT [32] (x::r)).drop (w.length+1))=_;rw[List.take_left,show w++32::aT [32] (x::r)=(w++[32])++aT [32] (x::r) by simp,List.drop_left' (by simp),wh k (x::r) (by simp) (by simpa using h1) fun y hy=>h y (bc _ hy)]
theorem r57(Φ:Nat→Option CF)(h:Φ 57=some c57){F:RO}{M:Mem}{c:Nat}(ok:eA F M c)(s:List UInt8)(hs:s.length≤1000000):
 Calls Φ F 57 [sV s] M c fun r M' c'=>cU F M' c' 1 r (d6 (dp 9 s))∧ie F M' c c' 1 r (d6 (dp 9 s))∧Gr c M c' M':=by
 refine ax h ?_
 have hS:∀l,dq (sV l)=true:=fun _=>rfl
 have hF:∀l,flatten (sV l)=[sV l]:=fun _=>rfl
 simp only[WX,B57]
 obtain⟨I1,hI1⟩:∃I:Nat→St→Prop,∀n s',I n s'↔(∃(i at_:Nat) (P:List (List UInt8)) (v:V) (M1:Mem) (c1 b1:Nat) (u:List (Option V)),n=s.length+1-i∧i≤s.length+1∧s'= .mk ((.n (.n (.n (ay u 31 15 47 7 39 23 55) (some (v)) (ay u 35 19 51 11 43 27 59)) (uO u 1) (.n (ay u 33 17 49 9 41 25 57) (some (.i .i64 (i:Int))) (ay u 37 21 53 13 45 29 61))) (some (sV s)) (.n (.n (ay u 32 16 48 8 40 24 56) (some (.i .i64 (at_:Int))) (ay u 36 20 52 12 44 28 60)) (uO u 2) (.n (ay u 34 18 50 10 42 26 58) (uO u 6) (ay u 38 22 54 14 46 30 62))))) [] M1 c1∧Gr c M c1 M1∧cu M1 c c1 b1 9 1 v (d6 P)∧
  P.length≤9∧((i≤s.length∧at_≤i∧(∀x∈(s.take i).drop at_,x≠32)∧dp 9 s=P++dp (9-P.length) (s.drop at_))∨(i=s.length+1∧dp 9 s=P))):=⟨fun n s'=>_,fun _ _=>Iff.rfl⟩
 refine cX I1 ?_ (s.length+1) _ ((hI1 _ _).2 ⟨0,0,[],.l0,M,c,0,[none,_,_,none,none,none,_,_,_,_,_,_,_,_,_,_,_,_,_,_,_,_,_,_,_,_,_,_,_,_,_,_,_,_,_,_,_,_,_,_,_,_,_,_,_,_,_,_,_,_,_,_,_,_,_,_,_,_,_,_,_,_,_],rfl,aM _,rfl,Gr.refl ok,cu.nil,aM _,.inl ⟨aM _,ah _,(by intro x hx;cases hx),by rw[List.drop_zero];rfl⟩⟩)
 intro n s' hIs
 obtain⟨i,at_,P,v,M1,c1,b1,u,rfl,hi,rfl,gr1,hA,hP,hor⟩:=(hI1 _ _).1 hIs
 clear hIs
 have ok1:=gr1.ok ok
 have hln:=rk (hA.sl (F:=F))
 have q8:bu .add (.i .i64 (i:Int)) (.i .i64 1)=some (.i .i64 ((i+1:Nat):Int)):=by rw[bA _ _ (by omega) (by omega)];simp
 by_cases hle:i≤s.length
 ·have d1:decide ((i:Int)≤(s.length:Int))=true:=af (by omega);obtain⟨_,hai,hfree,hsp⟩:i≤s.length∧at_≤i∧(∀x∈(s.take i).drop at_,x≠32)∧dp 9 s=P++dp (9-P.length) (s.drop at_):=by
   rcases hor with h|⟨h,_⟩
   ·exact h
   ·omega
  by_cases hP9:P.length<9
  ·have d2:decide ((P.length:Int)<9)=true:=af (by omega);by_cases hend:i=s.length
   ·have d3:decide ((i:Int)=(s.length:Int))=true:=af (by omega);have hsl:=Wh s .i64 .i64 at_ i hai (by omega);simp only[WX,B57,hln,d1,d2,d3,hsl,hS,hF];have grY:Gr c M (c1+1) (M1.set c1 (eU [V.s 0 0] 9 [sV ((s.take i).drop at_)])):=gr1.set c1 _ gr1.le (by omega) (by omega);have hy:cU F (M1.set c1 (eU [V.s 0 0] 9 [sV ((s.take i).drop at_)])) (c1+1) 1 (.l c1 0 1 1) (d6 [(s.take i).drop at_]):=E6 (d:=[.s 0 0]) (ty:=9) (by rw[aw];rfl) (by omega) (fun e he=>by obtain⟨x,_,rfl⟩:=List.mem_map.1 he;rfl) rfl;refine aB ((lR (bytes:=16) (hA.up (show c1≤c1+1 by omega) (fun hx=>aq _ _ (by omega))) grY Nat.one_pos hy rfl (eO (by simp[d6];omega) (by simp[d6];omega))).mono ?_);rintro v' M2 c2 ⟨b2,hA2,gr2,hle2,_,_⟩;simp only[WX,B57,q8];refine⟨s.length+1-(i+1),by omega,(hI1 _ _).2 ⟨i+1,i+1,P++[(s.take i).drop at_],v',M2,c2,b2,[none,_,_,none,none,none,_,_,_,_,_,_,_,_,_,_,_,_,_,_,_,_,_,_,_,_,_,_,_,_,_,_,_,_,_,_,_,_,_,_,_,_,_,_,_,_,_,_,_,_,_,_,_,_,_,_,_,_,_,_,_,_,_],rfl,by omega,rfl,gr2,?_,by simp;omega,.inr ⟨by omega,?_⟩⟩⟩
    ·rw[d6,List.map_append];exact hA2
    ·have e:(s.take i).drop at_=s.drop at_:=by rw[hend,List.take_length]
     rw[hsp,show 9-P.length=(9-P.length-1)+1 by omega,E9 (by rw[←e];exact hfree),e]
   ·have d3:decide ((i:Int)=(s.length:Int))=false:=ag (by omega);have hix:qI (sV s) (.i .i64 (i:Int))=some (.i .u8 ((s[i]'(by omega)).toNat:Int)):=tU s .i64 i (by omega);by_cases hb:s[i]'(by omega)=32
    ·have d4:decide (((s[i]'(by omega)).toNat:Int)=32)=true:=af (by rw[hb];rfl);have hsl:=Wh s .i64 .i64 at_ i hai (by omega);simp only[WX,B57,hln,d1,d2,d3,hix,d4,hsl,hS,hF];have grY:Gr c M (c1+1) (M1.set c1 (eU [V.s 0 0] 9 [sV ((s.take i).drop at_)])):=gr1.set c1 _ gr1.le (by omega) (by omega);have hy:cU F (M1.set c1 (eU [V.s 0 0] 9 [sV ((s.take i).drop at_)])) (c1+1) 1 (.l c1 0 1 1) (d6 [(s.take i).drop at_]):=E6 (d:=[.s 0 0]) (ty:=9) (by rw[aw];rfl) (by omega) (fun e he=>by obtain⟨x,_,rfl⟩:=List.mem_map.1 he;rfl) rfl;refine aB ((lR (bytes:=16) (hA.up (show c1≤c1+1 by omega) (fun hx=>aq _ _ (by omega))) grY Nat.one_pos hy rfl (eO (by simp[d6];omega) (by simp[d6];omega))).mono ?_);rintro v' M2 c2 ⟨b2,hA2,gr2,hle2,_,_⟩;simp only[WX,B57,q8];refine⟨s.length+1-(i+1),by omega,(hI1 _ _).2 ⟨i+1,i+1,P++[(s.take i).drop at_],v',M2,c2,b2,[none,_,_,none,none,none,_,_,_,_,_,_,_,_,_,_,_,_,_,_,_,_,_,_,_,_,_,_,_,_,_,_,_,_,_,_,_,_,_,_,_,_,_,_,_,_,_,_,_,_,_,_,_,_,_,_,_,_,_,_,_,_,_],rfl,by omega,rfl,gr2,?_,by simp;omega,.inl ⟨by omega,ah _,?_,?_⟩⟩⟩
     ·rw[d6,List.map_append];exact hA2
     ·intro x hx;rw[List.drop_eq_nil_of_le (by rw[List.length_take];omega)]at hx;cases hx
     ·rw[hsp,show 9-P.length=(9-P.length-1)+1 by omega,BF hai (by omega) hfree hb,bE,List.length_singleton,kz];rw[show 9-(P.length+1)=9-P.length-1 by omega];rfl
    ·have d4:decide (((s[i]'(by omega)).toNat:Int)=32)=false:=ag (fun e=>hb (UInt8.toNat_inj.1 (by rw[show(32:UInt8).toNat=32 from rfl];omega)));simp only[WX,B57,hln,d1,d2,d3,hix,d4,q8];refine⟨s.length+1-(i+1),by omega,(hI1 _ _).2 ⟨i+1,at_,P,v,M1,c1,b1,[none,_,_,none,none,none,_,_,_,_,_,_,_,_,_,_,_,_,_,_,_,_,_,_,_,_,_,_,_,_,_,_,_,_,_,_,_,_,_,_,_,_,_,_,_,_,_,_,_,_,_,_,_,_,_,_,_,_,_,_,_,_,_],rfl,by omega,rfl,gr1,hA,hP,.inl ⟨by omega,by omega,?_,hsp⟩⟩⟩;intro x hx;rw[List.take_succ_eq_append_getElem (by omega),List.drop_append_of_le_length (by rw[List.length_take];omega)]at hx;rcases List.mem_append.1 hx with hx|hx
     ·exact hfree x hx
     ·rw[List.mem_singleton]at hx;subst hx;exact hb
  ·have d2:decide ((P.length:Int)<9)=false:=ag (by omega);simp only[WX,B57,hln,d1,d2];rw[hsp,show 9-P.length=0 by omega,dp,di];exact⟨hA.sl,hA.own,gr1⟩
 ·have d1:decide ((i:Int)≤(s.length:Int))=false:=ag (by omega);simp only[WX,B57,d1];rcases hor with⟨h,_⟩|⟨_,h⟩
  ·omega
  ·rw[h];exact⟨hA.sl,hA.own,gr1⟩
theorem r61(Φ:Nat→Option CF)(h:Φ 61=some Y1)(h52:Φ 52=some yR)(h89:Φ 89=some xe)(h85:Φ 85=some wD)(h112:Φ 112=some jR)(h113:Φ 113=some jS)(h119:Φ 119=some kQ)(h84:Φ 84=some tI)(h136:Φ 136=some (.orc (aj h136)))(h110:Φ 110=some (.orc (aj h110)))
 {F:RO} {M:Mem} {c:Nat} (ok:eA F M c) (hE1:bF F 1) (hE2:bF F 2) (hlow:∀g,g<1000→M.get g=none) {v:V} {l:List (List UInt8)} (hs:cU F M c 1 v (d6 l)) (hlen:l.length≤9) (hl:∀w∈l,w.length≤1000000) (k r:Nat) (hk:k≤9) (hr:r≤1):
 Calls Φ F 61 [v,.i .i64 (k:Int),.i .i64 (r:Int)] M c fun res M' c'=>∃z,res= .i .i64 z∧(∀w,l[k]?=some w→r≤w.length→ZOf (w.drop r) z)∧Gr c M c' M':=by
 refine ax h ?_
 have hln:=rk hs
 by_cases hkl:k<l.length
 ·have d1:decide ((l.length:Int)≤(k:Int))=false:=ag (by omega);obtain⟨b,o,_,hia,hld⟩:=my hs k hkl;by_cases hrl:r≤l[k].length
  ·have d2:decide ((l[k].length:Int)<(r:Int))=false:=ag (by omega);have hsl:=pl l[k] .i64 r hrl;have hwl:=hl l[k] (List.getElem_mem hkl);simp only[WX,B61,hln,d1,hia,hld,d2,hsl];refine aB ((r52 Φ h52 h89 h85 h112 h113 h119 h84 h136 h110 ok hE1 hE2 hlow (l[k].drop r) (by rw[cM];omega)).mono ?_);rintro res M2 c2 ⟨z,e,rfl,hz,hg⟩;simp only[WX,B61];refine⟨z,rfl,fun w hw _=>?_,hg⟩;rw[List.getElem?_eq_getElem hkl]at hw;obtain rfl:=ae hw;exact hz
  ·have d2:decide ((l[k].length:Int)<(r:Int))=true:=af (by omega);simp only[WX,B61,hln,d1,hia,hld,d2];refine⟨0,rfl,fun w hw hw2=>?_,Gr.refl ok⟩;rw[List.getElem?_eq_getElem hkl]at hw;obtain rfl:=ae hw;exact absurd hw2 hrl
 ·have d1:decide ((l.length:Int)≤(k:Int))=true:=af (by omega);simp only[WX,B61,hln,d1];refine⟨0,rfl,fun w hw _=>?_,Gr.refl ok⟩;rw[List.getElem?_eq_none (by omega)]at hw;cases hw
def aq7:CC:=(.reg [(aa a2 (.al 59 [(.i .i64 0),(.i .i64 0),(.i .i64 0),(.i .i64 0),(.i .i64 0)])),(qq a3 (.mv (x6 0)))])
def b23:=wu aq7.eq_1
def aq8:CC:=(.reg [(qq de (.mv z0)),(ee cH (.call 57 [cS])),(qq a4 (.mv cR))])
def b24:=wu aq8.eq_1
def aq9:CC:=(.reg [(aa a5 (.al 59 [(.i .i64 0),(.i .i64 0),(.i .i64 0),(.i .i64 0),(.i .i64 0)]))])
def b25:=wu aq9.eq_1
def ar0:CC:=(.reg [(qq a6 (.mv (x6 1)))])
def b26:=wu ar0.eq_1
def ar1:CC:=(.reg [(qq db (.mv z6)),(qq du (.bi .leq dD (x6 28)))])
def WV:=wu ar1.eq_1
def ar2:CC:=(.seq ar1 (.cond dj .skip (.exit 0)))
def WW:=wu ar2.eq_1
def ar3:CC:=(.dreg 8 [(1,0,(qq eg (.mv z6))),(4,0,(qq eB (.mv z4))),(5,16,(qq ec (.iaS 1 eX (x6 0)))),(6,48,(qq dH (.ld1 fG))),(0,0,(ee dY (.call 58 []))),(2,3,(qq eQ (.iaS 1 ey eV))),(3,7,(qq dP (.ld1 eW))),(7,127,(qq eR (.bi .eql fm fH)))])
def b27:=wu ar3.eq_1
def ar4:CC:=(.reg [(qq eD (.mv z6)),(qq eJ (.fa 0 z5)),(ez (.st 1 fL fK))])
def b28:=wu ar4.eq_1
def ar5:CC:=(.seq ar3 (.cond fJ ar4 .skip))
def b29:=wu ar5.eq_1
def P1:CC:=(.reg [(qq dE (.mv z6)),(qq dO (.bi .add dQ (x6 1))),(qq a6 (.mv dM))])
def Er:=wu P1.eq_1
def P2:CC:=(.block 0 (.loop (.seq ar2 (.seq (.block 1 ar5) P1))))
def WH:=wu P2.eq_1
def P3:CC:=(.reg [(qq eE (.fa 0 z5)),(qq eY (.ld1 gA)),(ee gH (.call 60 [gC])),(ee fo (.call 59 [gD])),(qq fk (.mv iE)),(qq gu (.ex 0 g9)),(qq gh (.ex 1 g9)),(qq iq (.ex 2 g9)),(qq j3 (.ex 3 g9)),(qq a7 (.mv j1)),(qq a8 (.mv ji)),(qq a9 (.mv jj)),(qq cg (.mv jz))])
def WI:=wu P3.eq_1
def P4:CC:=(.reg [(qq cI (.mv (x6 1)))])
def WJ:=wu P4.eq_1
def Cw:CC:=(.reg [(qq iO (.mv z7))])
def Es:=wu Cw.eq_1
def P5:CC:=(.reg [(qq ib (.mv z4)),(qq j4 (.mv cD)),(ee gJ (.call 61 [kf,kq,(x6 1)])),(qq jL (.fa 1 z5)),(ez (.st 1 kr kO))])
def WK:=wu P5.eq_1
def P6:CC:=(.reg [(qq ja (.mv cD)),(qq jA (.bi .add l5 (x6 1))),(qq cI (.mv lJ))])
def WN:=wu P6.eq_1
def Cy:CC:=(.cond jk (.seq P5 P6) .skip)
def Et:=wu Cy.eq_1
def P7:CC:=(.reg [(qq jB (.mv z8))])
def Eu:=wu P7.eq_1
def P8:CC:=(.reg [(qq kl (.mv z4)),(qq kg (.mv cD)),(ee km (.call 61 [mE,mR,(x6 1)])),(qq jb (.fa 2 z5)),(ez (.st 1 n6 lN))])
def WO:=wu P8.eq_1
def P9:CC:=(.reg [(qq ga (.mv cD)),(qq mU (.bi .add mS (x6 1))),(qq cI (.mv oG))])
def WP:=wu P9.eq_1
def Pa:CC:=(.cond lM (.seq P8 P9) .skip)
def Ew:=wu Pa.eq_1
def Cz:CC:=(.reg [(qq ko (.mv z9))])
def Ey:=wu Cz.eq_1
def Pb:CC:=(.reg [(qq jC (.mv z4)),(qq ig (.mv cD)),(ee lK (.call 61 [pq,oL,(x6 1)])),(qq nh (.fa 3 z5)),(ez (.st 1 pv qc))])
def WQ:=wu Pb.eq_1
def Pc:CC:=(.reg [(qq ky (.mv cD)),(qq l6 (.bi .add oM (x6 1))),(qq cI (.mv qd))])
def WR:=wu Pc.eq_1
def CA:CC:=(.cond oH (.seq Pb Pc) .skip)
def Ez:=wu CA.eq_1
def Pd:CC:=(.reg [(qq lL (.mv cj))])
def EA:=wu Pd.eq_1
def Pe:CC:=(.reg [(qq oO (.mv z4)),(qq n7 (.mv cD)),(ee l7 (.call 61 [rv,rx,(x6 0)])),(qq oJ (.fa 4 z5)),(ez (.st 1 ry rB))])
def WS:=wu Pe.eq_1
def Pf:CC:=(.seq Pd (.cond qf Pe .skip))
def EB:=wu Pf.eq_1
def CB:CC:=(.reg [(qq ni (.ldn 5 z5)),(ee oP (.call 62 [rz])),(qq oK (.un .not ww)),(qq nj (.mv sE)),(aL oQ (.ldn 5 z5) nj),(tM lP (.call 28 [uu]) nj),(aL nk (.mv z0) nj),(aL sI (.bi .neq uv u7) nj),(qq sJ (.pk u6 xT uw))])
def bm0:=wu CB.eq_1
def Pg:CC:=(.reg [(qq rF (.bld [(.i .i64 0),(.i .i64 0),(.i .i64 0),(.i .i64 0),(.i .i64 0)] [])),(ez (.st 5 z2 wU)),(qq a3 (.mv (x6 4)))])
def bm1:=wu Pg.eq_1
def CD:CC:=(.cond wy (.seq Pg .ret) .skip)
def bm2:=wu CD.eq_1
def CE:CC:=(.reg [(qq uE (.ldn 5 z5)),(ez (.st 5 z2 wV)),(qq a3 (.mv (x6 0)))])
def bm3:=wu CE.eq_1
def yL:CC:=(.seq Pf (.seq (.seq CB CD) (.seq CE .ret)))
def EC:=wu yL.eq_1
def yM:CC:=(.seq (.seq P7 Pa) (.seq (.seq Cz CA) yL))
def ED:=wu yM.eq_1
def Ph:CC:=(.seq P3 (.seq P4 (.seq (.seq Cw Cy) yM)))
def WT:=wu Ph.eq_1
def Pi:CC:=(.seq aq7 (.seq aq8 (.seq aq9 (.seq (.seq ar0 P2) Ph))))
def WU:=wu Pi.eq_1
def c23:CF:= .mk 7 [.cn a2 5,.t a3] Pi
theorem e23(v0:V):aS 7 [v0]=(.n tk (some v0) tk):=rfl
def B23:=ai @e23 (ai @b23 (ai @b24 (ai @b25 (ai @b26 (ai @WV (ai @WW (ai @b27 (ai @b28 (ai @b29 (ai @Er (ai @WH (ai @WI (ai @WJ (ai @Es (ai @WK (ai @WN (ai @Et (ai @Eu (ai @WO (ai @WP (ai @Ew (ai @Ey (ai @WQ (ai @WR (ai @Ez (ai @EA (ai @WS (ai @EB (ai @bm0 (ai @bm1 (ai @bm2 (ai @bm3 (ai @EC (ai @ED (ai @WT (@WU))))))))))))))))))))))))))))))))))))
def PR(F:RO)(M0 M:Mem)(c1 c cb:Nat)(v:V)(W:List (List UInt8))(op d a b i:Int):Prop:=
 eA F M c1∧c<cb∧cb<c1∧1000≤c∧M.get c=some (aK 59 [.i .i64 0,.i .i64 0,.i .i64 0,.i .i64 0,.i .i64 0])∧M.get cb=some (aK 59 [.i .i64 op,.i .i64 d,.i .i64 a,.i .i64 b,.i .i64 i])∧cU F M c1 1 v (d6 W)∧(∀g,g<1000→M.get g=none)∧ie F M (c+1) cb 1 v (d6 W)∧Gr c M0 c1 M
theorem PR.step{F:RO}{M0 M M':Mem}{c1 c2 c cb:Nat}{v:V}{W:List (List UInt8)}{op d a b i op' d' a' b' i':Int}(h:PR F M0 M c1 c cb v W op d a b i)(hg:Gr c1 M c2 M'):
 PR F M0 (M'.set cb (aK 59 [.i .i64 op',.i .i64 d',.i .i64 a',.i .i64 b',.i .i64 i'])) c2 c cb v W op' d' a' b' i':=by
 obtain⟨ok,k1,k2,k3,g0,g1,g2,g3,g4,g5⟩:=h
 have hle:=hg.le
 have e1:M'.get cb=some (aK 59 [.i .i64 op,.i .i64 d,.i .i64 a,.i .i64 b,.i .i64 i]):=by rw[hg.old cb k2];exact g1
 have o:∀x,x<c1→x≠cb→(M'.set cb (aK 59 [.i .i64 op',.i .i64 d',.i .i64 a',.i .i64 b',.i .i64 i'])).get x=M.get x:=fun x hx hn=>by rw[aq _ _ hn,hg.old x hx]
 have own:ie F (M'.set cb (aK 59 [.i .i64 op',.i .i64 d',.i .i64 a',.i .i64 b',.i .i64 i'])) (c+1) cb 1 v (d6 W):=g4.up (ah _) (ah _) fun x h1 h2=>o x (by omega) (by omega)
 exact⟨(hg.ok ok).put (by omega) e1,k1,by omega,k3,by rw[o c (by omega) (by omega)];exact g0,aw _ _ _,(own.up (c':=c2) (lo':=c+1) (M':=M'.set cb (aK 59 [.i .i64 op',.i .i64 d',.i .i64 a',.i .i64 b',.i .i64 i'])) (by omega) (ah _) fun _ _ _=>rfl).sl,fun g hg'=>by rw[o g (by omega) (by omega)];exact g3 g hg',own,(g5.trans hg).set (c2:=c2) cb _ (by omega) (by omega) (ah _)⟩
theorem bX0(Φ:Nat→Option CF){L:List gF}(h62:Φ 62=some (.orc (aj h39)))(h28:Φ 28=some (.orc (ce L h28)))(h61:Φ 61=some Y1)(h52:Φ 52=some yR)(h89:Φ 89=some xe)(h85:Φ 85=some wD)(h112:Φ 112=some jR)(h113:Φ 113=some jS)(h119:Φ 119=some kQ)(h84:Φ 84=some tI)(h136:Φ 136=some (.orc (aj h136)))(h110:Φ 110=some (.orc (aj h110))){F:RO}{M0 M:Mem}{c c1 cb:Nat}{v:V}(ht:bB F L=true)(hE1:bF F 1)(hE2:bF F 2){s:List UInt8}{W:List (List UInt8)}{op d a b i:Int}(h:PR F M0 M c1 c cb v W op d a b i)
 (HC:∀op' d' a' b' i',bQ op' d' a' b' i'=true→cL op' d' a' b' i'=s→op'=op∧d'=d∧a'=a∧b'=b∧i'=i) (fd fa fb fi:Bool) (k:Nat) (u:List (Option V)):
 Wp CB (K Φ none 23 F) (.mk ((.n (.n (.n (.n (ay u 63 31 95 15 79 47 111) (some (.b fd)) (ay u 71 39 103 23 87 55 119)) (some (.i .i64 0)) (.n (ay u 67 35 99 19 83 51 115) (some (.i .i64 (k:Int))) (ay u 75 43 107 27 91 59 123))) (uO u 1) (.n (.n (ay u 65 33 97 17 81 49 113) (some (.b fb)) (ay u 73 41 105 25 89 57 121)) (some (.p cb 0)) (.n (ay u 69 37 101 21 85 53 117) (uO u 13) (ay u 77 45 109 29 93 61 125)))) (some (sV s)) (.n (.n (.n (ay u 64 32 96 16 80 48 112) (some (.b fa)) (ay u 72 40 104 24 88 56 120)) (some (v)) (.n (ay u 68 36 100 20 84 52 116) (uO u 12) (ay u 76 44 108 28 92 60 124))) (some (.p c 0)) (.n (.n (ay u 66 34 98 18 82 50 114) (some (.b fi)) (ay u 74 42 106 26 90 58 122)) (uO u 6) (.n (ay u 70 38 102 22 86 54 118) (uO u 14) (ay u 78 46 110 30 94 62 126)))))) [] M c1) (mZ CD (K Φ none 23 F) (mZ (.seq CE .ret) (K Φ none 23 F) (j5 F [.cn (.r .h) 5,.t (.l (.l .h))] fun r M' c'=>j2 s r∧Gr c M0 c' M'))):=by
 obtain⟨ok,k1,k2,k3,g0,g1,g2,g3,g4,g5⟩:=h
 have hT:=fun h args M c=>eu ht h args M c
 have li:loadN F M cb 0 5=some [.i .i64 op,.i .i64 d,.i .i64 a,.i .i64 b,.i .i64 i]:=lu g1 5 rfl
 cases hm:bQ op d a b i with
 |true=>
  have h1:Ev.h39 [.g [.i .i64 op,.i .i64 d,.i .i64 a,.i .i64 b,.i .i64 i]]=some (.b true):=by rw[rU,hm]
  by_cases hs:cL op d a b i=s
  ·have e1:bu .neq (sV (cL op d a b i)) (sV s)=some (.b false):=by rw[np,af hs];rfl
   have hst:=bC g0 0 [.i .i64 op,.i .i64 d,.i .i64 a,.i .i64 b,.i .i64 i] (by simp) rfl;simp only[WX,Nat.reduceAdd,Nat.reduceLeDiff,B23,li,h62,h1,h28,hT,zc hm,e1,hst];exact⟨.inl ⟨op,d,a,b,i,hm,hs,rfl⟩,g5.set (c2:=c1) c _ (ah _) (by omega) (ah _)⟩
  ·have e1:bu .neq (sV (cL op d a b i)) (sV s)=some (.b true):=by rw[np,ag hs];rfl
   have hst:=bC g0 0 [.i .i64 0,.i .i64 0,.i .i64 0,.i .i64 0,.i .i64 0] (by simp) rfl;simp only[WX,Nat.reduceAdd,Nat.reduceLeDiff,B23,li,h62,h1,h28,hT,zc hm,e1,hst];refine⟨.inr ⟨fun op' d' a' b' i' hm' hs'=>?_,rfl⟩,g5.set (c2:=c1) c _ (ah _) (by omega) (ah _)⟩;obtain⟨rfl,rfl,rfl,rfl,rfl⟩:=HC _ _ _ _ _ hm' hs';exact hs hs'
 |false=>
  have h1:Ev.h39 [.g [.i .i64 op,.i .i64 d,.i .i64 a,.i .i64 b,.i .i64 i]]=some (.b false):=by rw[rU,hm]
  have hst:=bC g0 0 [.i .i64 0,.i .i64 0,.i .i64 0,.i .i64 0,.i .i64 0] (by simp) rfl;simp only[WX,Nat.reduceAdd,Nat.reduceLeDiff,B23,li,h62,h1,hst];refine⟨.inr ⟨fun op' d' a' b' i' hm' hs'=>?_,rfl⟩,g5.set (c2:=c1) c _ (ah _) (by omega) (ah _)⟩;obtain⟨rfl,rfl,rfl,rfl,rfl⟩:=HC _ _ _ _ _ hm' hs';rw[hm]at hm';cases hm'
theorem bX1(Φ:Nat→Option CF){L:List gF}(h62:Φ 62=some (.orc (aj h39)))(h28:Φ 28=some (.orc (ce L h28)))(h61:Φ 61=some Y1)(h52:Φ 52=some yR)(h89:Φ 89=some xe)(h85:Φ 85=some wD)(h112:Φ 112=some jR)(h113:Φ 113=some jS)(h119:Φ 119=some kQ)(h84:Φ 84=some tI)(h136:Φ 136=some (.orc (aj h136)))(h110:Φ 110=some (.orc (aj h110))){F:RO}{M0 M:Mem}{c c1 cb:Nat}{v:V}(ht:bB F L=true)(hE1:bF F 1)(hE2:bF F 2){s:List UInt8}{W:List (List UInt8)}(hW:W.length≤9)(hW2:∀w∈W,w.length≤1000000){op d a b:Int}(h:PR F M0 M c1 c cb v W op d a b 0)(k:Nat)(hk:k≤4)
 (HC:∀op' d' a' b' i',bQ op' d' a' b' i'=true→cL op' d' a' b' i'=s→op'=op∧d'=d∧a'=a∧b'=b∧W.drop k=R4 op i') {fd fa fb fi:Bool} (hfd:fd=dI (aD op)) (hfa:fa=aI (aD op)) (hfb:fb=bI (aD op)) (hfi:fi=iI (aD op)) (u:List (Option V)):
 Wp yL (K Φ none 23 F) (.mk ((.n (.n (.n (.n (ay u 63 31 95 15 79 47 111) (some (.b fd)) (ay u 71 39 103 23 87 55 119)) (some (.i .i64 0)) (.n (ay u 67 35 99 19 83 51 115) (some (.i .i64 (k:Int))) (ay u 75 43 107 27 91 59 123))) (uO u 1) (.n (.n (ay u 65 33 97 17 81 49 113) (some (.b fb)) (ay u 73 41 105 25 89 57 121)) (some (.p cb 0)) (.n (ay u 69 37 101 21 85 53 117) (uO u 13) (ay u 77 45 109 29 93 61 125)))) (some (sV s)) (.n (.n (.n (ay u 64 32 96 16 80 48 112) (some (.b fa)) (ay u 72 40 104 24 88 56 120)) (some (v)) (.n (ay u 68 36 100 20 84 52 116) (uO u 12) (ay u 76 44 108 28 92 60 124))) (some (.p c 0)) (.n (.n (ay u 66 34 98 18 82 50 114) (some (.b fi)) (ay u 74 42 106 26 90 58 122)) (uO u 6) (.n (ay u 70 38 102 22 86 54 118) (uO u 14) (ay u 78 46 110 30 94 62 126)))))) [] M c1) (j5 F [.cn (.r .h) 5,.t (.l (.l .h))] fun r M' c'=>j2 s r∧Gr c M0 c' M'):=by
 have hPR:=h
 obtain⟨ok,k1,k2,k3,g0,g1,g2,g3,g4,g5⟩:=h
 cases fi with
 |true=>
  simp only[WX,EA,WS,EB,EC];refine aB ((r61 Φ h61 h52 h89 h85 h112 h113 h119 h84 h136 h110 ok hE1 hE2 g3 g2 hW hW2 k 0 (by omega) (by decide)).mono ?_);rintro r M2 c2 ⟨z,rfl,hz,hg⟩;have hP:=PR.step (op':=op) (d':=d) (a':=a) (b':=b) (i':=z) hPR hg;have e1003:M2.get cb=some (aK 59 [.i .i64 op,.i .i64 d,.i .i64 a,.i .i64 b,.i .i64 0]):=by rw[hg.old cb (by omega)];exact g1
  have hst:=bC e1003 4 [.i .i64 z] (by simp) rfl;simp only[WX,Nat.reduceAdd,hst];refine bX0 Φ h62 h28 h61 h52 h89 h85 h112 h113 h119 h84 h136 h110 ht hE1 hE2 hP ?_ _ _ _ _ k [none,_,none,none,none,none,_,none,none,none,none,none,_,_,_,_,_,_,_,_,_,_,_,_,_,_,_,_,_,_,_,_,_,_,_,_,_,_,_,_,_,_,_,_,_,_,_,_,_,_,_,_,_,_,_,_,_,_,_,_,_,_,_,_,_,_,_,_,_,_,_,_,_,_,_,_,_,_,_,_,_,_,_,_,_,_,_,_,_,_,_,_,_,_,_,_,_,_,_,_,_,_,_,_,_,_,_,_,_,_,_,_,_,_,_,_,_,_,_,_,_,_,_,_,_,_,_];intro op' d' a' b' i' hm' hs';obtain⟨rfl,rfl,rfl,rfl,e⟩:=HC op' d' a' b' i' hm' hs';obtain⟨m1,m2,m3,m4,m5⟩:=dL hm';have hw:W.drop k=(bS i')::[]:=by rw[e,R4,←hfi,ac rfl]<;>rfl
  have hr: -10000000<i'∧i'<10000000:=by omega
  have hk0:W[k]?=some (bS i'):=by
   have:=congrArg (fun l=>l[0]?) hw
   simpa using this
  have hzz:=hz _ hk0 (by simp) i' hr.1 hr.2 rfl;exact⟨rfl,rfl,rfl,rfl,hzz.symm⟩
 |false=>
  simp only[WX,EA,EB,EC];refine bX0 Φ h62 h28 h61 h52 h89 h85 h112 h113 h119 h84 h136 h110 ht hE1 hE2 hPR ?_ _ _ _ _ k [none,_,none,none,none,none,_,none,none,none,none,none,_,_,_,_,_,_,_,_,_,_,_,_,_,_,_,_,_,_,_,_,_,_,_,_,_,_,_,_,_,_,_,_,_,_,_,_,_,_,_,_,_,_,_,_,_,_,_,_,_,_,_,_,_,_,_,_,_,_,_,_,_,_,_,_,_,_,_,_,_,_,_,_,_,_,_,_,_,_,_,_,_,_,_,_,_,_,_,_,_,_,_,_,_,_,_,_,_,_,_,_,_,_,_,_,_,_,_,_,_,_,_,_,_,_,_];intro op' d' a' b' i' hm' hs';obtain⟨rfl,rfl,rfl,rfl,e⟩:=HC op' d' a' b' i' hm' hs';have hz:=(fC hm').2.2.2 hfi.symm;exact⟨rfl,rfl,rfl,rfl,hz⟩
theorem bW9(Φ:Nat→Option CF){L:List gF}(h62:Φ 62=some (.orc (aj h39)))(h28:Φ 28=some (.orc (ce L h28)))(h61:Φ 61=some Y1)(h52:Φ 52=some yR)(h89:Φ 89=some xe)(h85:Φ 85=some wD)(h112:Φ 112=some jR)(h113:Φ 113=some jS)(h119:Φ 119=some kQ)(h84:Φ 84=some tI)(h136:Φ 136=some (.orc (aj h136)))(h110:Φ 110=some (.orc (aj h110))){F:RO}{M0 M:Mem}{c c1 cb:Nat}{v:V}(ht:bB F L=true)(hE1:bF F 1)(hE2:bF F 2){s:List UInt8}{W:List (List UInt8)}(hW:W.length≤9)(hW2:∀w∈W,w.length≤1000000){op d a:Int}(h:PR F M0 M c1 c cb v W op d a 0 0)(k:Nat)(hk:k≤3)
 (HC:∀op' d' a' b' i',bQ op' d' a' b' i'=true→cL op' d' a' b' i'=s→op'=op∧d'=d∧a'=a∧W.drop k=R3 op b' i') {fd fa fb fi:Bool} (hfd:fd=dI (aD op)) (hfa:fa=aI (aD op)) (hfb:fb=bI (aD op)) (hfi:fi=iI (aD op)) (u:List (Option V)):
 Wp Cz (K Φ none 23 F) (.mk ((.n (.n (.n (.n (ay u 63 31 95 15 79 47 111) (some (.b fd)) (ay u 71 39 103 23 87 55 119)) (some (.i .i64 0)) (.n (ay u 67 35 99 19 83 51 115) (some (.i .i64 (k:Int))) (ay u 75 43 107 27 91 59 123))) (uO u 1) (.n (.n (ay u 65 33 97 17 81 49 113) (some (.b fb)) (ay u 73 41 105 25 89 57 121)) (some (.p cb 0)) (.n (ay u 69 37 101 21 85 53 117) (uO u 13) (ay u 77 45 109 29 93 61 125)))) (some (sV s)) (.n (.n (.n (ay u 64 32 96 16 80 48 112) (some (.b fa)) (ay u 72 40 104 24 88 56 120)) (some (v)) (.n (ay u 68 36 100 20 84 52 116) (uO u 12) (ay u 76 44 108 28 92 60 124))) (some (.p c 0)) (.n (.n (ay u 66 34 98 18 82 50 114) (some (.b fi)) (ay u 74 42 106 26 90 58 122)) (uO u 6) (.n (ay u 70 38 102 22 86 54 118) (uO u 14) (ay u 78 46 110 30 94 62 126)))))) [] M c1) (mZ CA (K Φ none 23 F) (mZ yL (K Φ none 23 F) (j5 F [.cn (.r .h) 5,.t (.l (.l .h))] fun r M' c'=>j2 s r∧Gr c M0 c' M'))):=by
 have hPR:=h
 obtain⟨ok,k1,k2,k3,g0,g1,g2,g3,g4,g5⟩:=h
 cases fb with
 |true=>
  have q8:bu .add (.i .i64 (k:Int)) (.i .i64 1)=some (.i .i64 ((k+1:Nat):Int)):=by rw[bA _ _ (by omega) (by omega)];simp
  simp only[WX,Ey,WQ,Ez];refine aB ((r61 Φ h61 h52 h89 h85 h112 h113 h119 h84 h136 h110 ok hE1 hE2 g3 g2 hW hW2 k 1 (by omega) (by decide)).mono ?_);rintro r M2 c2 ⟨z,rfl,hz,hg⟩;have hP:=PR.step (op':=op) (d':=d) (a':=a) (b':=z) (i':=0) hPR hg;have e1003:M2.get cb=some (aK 59 [.i .i64 op,.i .i64 d,.i .i64 a,.i .i64 0,.i .i64 0]):=by rw[hg.old cb (by omega)];exact g1
  have hst:=bC e1003 3 [.i .i64 z] (by simp) rfl;simp only[WX,Nat.reduceAdd,WR,hst,q8];refine bX1 Φ h62 h28 h61 h52 h89 h85 h112 h113 h119 h84 h136 h110 ht hE1 hE2 hW hW2 hP (k+1) (by omega) ?_ hfd hfa hfb hfi [none,_,none,none,none,none,_,none,none,none,none,none,_,_,_,_,_,_,_,_,_,_,_,_,_,_,_,_,_,_,_,_,_,_,_,_,_,_,_,_,_,_,_,_,_,_,_,_,_,_,_,_,_,_,_,_,_,_,_,_,_,_,_,_,_,_,_,_,_,_,_,_,_,_,_,_,_,_,_,_,_,_,_,_,_,_,_,_,_,_,_,_,_,_,_,_,_,_,_,_,_,_,_,_,_,_,_,_,_,_,_,_,_,_,_,_,_,_,_,_,_,_,_,_,_,_,_];intro op' d' a' b' i' hm' hs';obtain⟨rfl,rfl,rfl,e⟩:=HC op' d' a' b' i' hm' hs';obtain⟨m1,m2,m3,m4,m5⟩:=dL hm';have hw:W.drop k=(114::bS b')::R4 op' i':=by rw[e,R3,←hfb,ac rfl]<;>rfl
  have hr: -10000000<b'∧b'<10000000:=by have:=m3 2;rw[show fl d' a' b' 2=b' from rfl]at this;omega
  have hk0:W[k]?=some (114::bS b'):=by
   have:=congrArg (fun l=>l[0]?) hw
   simpa using this
  have hzz:=hz _ hk0 (by simp) b' hr.1 hr.2 rfl;exact⟨rfl,rfl,rfl,hzz.symm,by rw[←List.drop_drop,hw];rfl⟩
 |false=>
  simp only[WX,Ey,Ez];refine bX1 Φ h62 h28 h61 h52 h89 h85 h112 h113 h119 h84 h136 h110 ht hE1 hE2 hW hW2 hPR k (by omega) ?_ hfd hfa hfb hfi [none,_,none,none,none,none,_,none,none,none,none,none,_,_,_,_,_,_,_,_,_,_,_,_,_,_,_,_,_,_,_,_,_,_,_,_,_,_,_,_,_,_,_,_,_,_,_,_,_,_,_,_,_,_,_,_,_,_,_,_,_,_,_,_,_,_,_,_,_,_,_,_,_,_,_,_,_,_,_,_,_,_,_,_,_,_,_,_,_,_,_,_,_,_,_,_,_,_,_,_,_,_,_,_,_,_,_,_,_,_,_,_,_,_,_,_,_,_,_,_,_,_,_,_,_,_,_];intro op' d' a' b' i' hm' hs';obtain⟨rfl,rfl,rfl,e⟩:=HC op' d' a' b' i' hm' hs';have hz:=(fC hm').2.2.1 hfb.symm;exact⟨rfl,rfl,rfl,hz,by rw[e,R3,←hfb,ab (by decide)]<;>rfl⟩
theorem bW8(Φ:Nat→Option CF){L:List gF}(h62:Φ 62=some (.orc (aj h39)))(h28:Φ 28=some (.orc (ce L h28)))(h61:Φ 61=some Y1)(h52:Φ 52=some yR)(h89:Φ 89=some xe)(h85:Φ 85=some wD)(h112:Φ 112=some jR)(h113:Φ 113=some jS)(h119:Φ 119=some kQ)(h84:Φ 84=some tI)(h136:Φ 136=some (.orc (aj h136)))(h110:Φ 110=some (.orc (aj h110))){F:RO}{M0 M:Mem}{c c1 cb:Nat}{v:V}(ht:bB F L=true)(hE1:bF F 1)(hE2:bF F 2){s:List UInt8}{W:List (List UInt8)}(hW:W.length≤9)(hW2:∀w∈W,w.length≤1000000){op d:Int}(h:PR F M0 M c1 c cb v W op d 0 0 0)(k:Nat)(hk:k≤2)
 (HC:∀op' d' a' b' i',bQ op' d' a' b' i'=true→cL op' d' a' b' i'=s→op'=op∧d'=d∧W.drop k=R2 op a' b' i') {fd fa fb fi:Bool} (hfd:fd=dI (aD op)) (hfa:fa=aI (aD op)) (hfb:fb=bI (aD op)) (hfi:fi=iI (aD op)) (u:List (Option V)):
 Wp yM (K Φ none 23 F) (.mk ((.n (.n (.n (.n (ay u 63 31 95 15 79 47 111) (some (.b fd)) (ay u 71 39 103 23 87 55 119)) (some (.i .i64 0)) (.n (ay u 67 35 99 19 83 51 115) (some (.i .i64 (k:Int))) (ay u 75 43 107 27 91 59 123))) (uO u 1) (.n (.n (ay u 65 33 97 17 81 49 113) (some (.b fb)) (ay u 73 41 105 25 89 57 121)) (some (.p cb 0)) (.n (ay u 69 37 101 21 85 53 117) (uO u 13) (ay u 77 45 109 29 93 61 125)))) (some (sV s)) (.n (.n (.n (ay u 64 32 96 16 80 48 112) (some (.b fa)) (ay u 72 40 104 24 88 56 120)) (some (v)) (.n (ay u 68 36 100 20 84 52 116) (uO u 12) (ay u 76 44 108 28 92 60 124))) (some (.p c 0)) (.n (.n (ay u 66 34 98 18 82 50 114) (some (.b fi)) (ay u 74 42 106 26 90 58 122)) (uO u 6) (.n (ay u 70 38 102 22 86 54 118) (uO u 14) (ay u 78 46 110 30 94 62 126)))))) [] M c1) (j5 F [.cn (.r .h) 5,.t (.l (.l .h))] fun r M' c'=>j2 s r∧Gr c M0 c' M'):=by
 have hPR:=h
 obtain⟨ok,k1,k2,k3,g0,g1,g2,g3,g4,g5⟩:=h
 cases fa with
 |true=>
  have q8:bu .add (.i .i64 (k:Int)) (.i .i64 1)=some (.i .i64 ((k+1:Nat):Int)):=by rw[bA _ _ (by omega) (by omega)];simp
  simp only[WX,Eu,WO,Ew,ED];refine aB ((r61 Φ h61 h52 h89 h85 h112 h113 h119 h84 h136 h110 ok hE1 hE2 g3 g2 hW hW2 k 1 (by omega) (by decide)).mono ?_);rintro r M2 c2 ⟨z,rfl,hz,hg⟩;have hP:=PR.step (op':=op) (d':=d) (a':=z) (b':=0) (i':=0) hPR hg;have e1003:M2.get cb=some (aK 59 [.i .i64 op,.i .i64 d,.i .i64 0,.i .i64 0,.i .i64 0]):=by rw[hg.old cb (by omega)];exact g1
  have hst:=bC e1003 2 [.i .i64 z] (by simp) rfl;simp only[WX,Nat.reduceAdd,WP,hst,q8];refine bW9 Φ h62 h28 h61 h52 h89 h85 h112 h113 h119 h84 h136 h110 ht hE1 hE2 hW hW2 hP (k+1) (by omega) ?_ hfd hfa hfb hfi [none,_,none,none,none,none,_,none,none,none,none,none,_,_,_,_,_,_,_,_,_,_,_,_,_,_,_,_,_,_,_,_,_,_,_,_,_,_,_,_,_,_,_,_,_,_,_,_,_,_,_,_,_,_,_,_,_,_,_,_,_,_,_,_,_,_,_,_,_,_,_,_,_,_,_,_,_,_,_,_,_,_,_,_,_,_,_,_,_,_,_,_,_,_,_,_,_,_,_,_,_,_,_,_,_,_,_,_,_,_,_,_,_,_,_,_,_,_,_,_,_,_,_,_,_,_,_];intro op' d' a' b' i' hm' hs';obtain⟨rfl,rfl,e⟩:=HC op' d' a' b' i' hm' hs';obtain⟨m1,m2,m3,m4,m5⟩:=dL hm';have hw:W.drop k=(114::bS a')::R3 op' b' i':=by rw[e,R2,←hfa,ac rfl]<;>rfl
  have hr: -10000000<a'∧a'<10000000:=by have:=m3 1;rw[show fl d' a' b' 1=a' from rfl]at this;omega
  have hk0:W[k]?=some (114::bS a'):=by
   have:=congrArg (fun l=>l[0]?) hw
   simpa using this
  have hzz:=hz _ hk0 (by simp) a' hr.1 hr.2 rfl;exact⟨rfl,rfl,hzz.symm,by rw[←List.drop_drop,hw];rfl⟩
 |false=>
  simp only[WX,Eu,Ew,ED];refine bW9 Φ h62 h28 h61 h52 h89 h85 h112 h113 h119 h84 h136 h110 ht hE1 hE2 hW hW2 hPR k (by omega) ?_ hfd hfa hfb hfi [none,_,none,none,none,none,_,none,none,none,none,none,_,_,_,_,_,_,_,_,_,_,_,_,_,_,_,_,_,_,_,_,_,_,_,_,_,_,_,_,_,_,_,_,_,_,_,_,_,_,_,_,_,_,_,_,_,_,_,_,_,_,_,_,_,_,_,_,_,_,_,_,_,_,_,_,_,_,_,_,_,_,_,_,_,_,_,_,_,_,_,_,_,_,_,_,_,_,_,_,_,_,_,_,_,_,_,_,_,_,_,_,_,_,_,_,_,_,_,_,_,_,_,_,_,_,_];intro op' d' a' b' i' hm' hs';obtain⟨rfl,rfl,e⟩:=HC op' d' a' b' i' hm' hs';have hz:=(fC hm').2.1 hfa.symm;exact⟨rfl,rfl,hz,by rw[e,R2,←hfa,ab (by decide)]<;>rfl⟩
theorem cA2(Φ:Nat→Option CF){L:List gF}(h62:Φ 62=some (.orc (aj h39)))(h28:Φ 28=some (.orc (ce L h28)))(h61:Φ 61=some Y1)(h52:Φ 52=some yR)(h89:Φ 89=some xe)(h85:Φ 85=some wD)(h112:Φ 112=some jR)(h113:Φ 113=some jS)(h119:Φ 119=some kQ)(h84:Φ 84=some tI)(h136:Φ 136=some (.orc (aj h136)))(h110:Φ 110=some (.orc (aj h110))){F:RO}{M0 M:Mem}{c c1 cb:Nat}{v:V}(ht:bB F L=true)(hE1:bF F 1)(hE2:bF F 2){s:List UInt8}{W:List (List UInt8)}(hW:W.length≤9)(hW2:∀w∈W,w.length≤1000000){op:Int}(h:PR F M0 M c1 c cb v W op 0 0 0 0)(k:Nat)(hk:k≤1)
 (HC:∀op' d' a' b' i',bQ op' d' a' b' i'=true→cL op' d' a' b' i'=s→op'=op∧W.drop k=R1 op d' a' b' i') {fd fa fb fi:Bool} (hfd:fd=dI (aD op)) (hfa:fa=aI (aD op)) (hfb:fb=bI (aD op)) (hfi:fi=iI (aD op)) (u:List (Option V)):
 Wp Cw (K Φ none 23 F) (.mk ((.n (.n (.n (.n (ay u 63 31 95 15 79 47 111) (some (.b fd)) (ay u 71 39 103 23 87 55 119)) (some (.i .i64 0)) (.n (ay u 67 35 99 19 83 51 115) (some (.i .i64 (k:Int))) (ay u 75 43 107 27 91 59 123))) (uO u 1) (.n (.n (ay u 65 33 97 17 81 49 113) (some (.b fb)) (ay u 73 41 105 25 89 57 121)) (some (.p cb 0)) (.n (ay u 69 37 101 21 85 53 117) (uO u 13) (ay u 77 45 109 29 93 61 125)))) (some (sV s)) (.n (.n (.n (ay u 64 32 96 16 80 48 112) (some (.b fa)) (ay u 72 40 104 24 88 56 120)) (some (v)) (.n (ay u 68 36 100 20 84 52 116) (uO u 12) (ay u 76 44 108 28 92 60 124))) (some (.p c 0)) (.n (.n (ay u 66 34 98 18 82 50 114) (some (.b fi)) (ay u 74 42 106 26 90 58 122)) (uO u 6) (.n (ay u 70 38 102 22 86 54 118) (uO u 14) (ay u 78 46 110 30 94 62 126)))))) [] M c1) (mZ Cy (K Φ none 23 F) (mZ yM (K Φ none 23 F) (j5 F [.cn (.r .h) 5,.t (.l (.l .h))] fun r M' c'=>j2 s r∧Gr c M0 c' M'))):=by
 have hPR:=h
 obtain⟨ok,k1,k2,k3,g0,g1,g2,g3,g4,g5⟩:=h
 cases fd with
 |true=>
  have q8:bu .add (.i .i64 (k:Int)) (.i .i64 1)=some (.i .i64 ((k+1:Nat):Int)):=by rw[bA _ _ (by omega) (by omega)];simp
  simp only[WX,Es,WK,Et];refine aB ((r61 Φ h61 h52 h89 h85 h112 h113 h119 h84 h136 h110 ok hE1 hE2 g3 g2 hW hW2 k 1 (by omega) (by decide)).mono ?_);rintro r M2 c2 ⟨z,rfl,hz,hg⟩;have hP:=PR.step (op':=op) (d':=z) (a':=0) (b':=0) (i':=0) hPR hg;have e1003:M2.get cb=some (aK 59 [.i .i64 op,.i .i64 0,.i .i64 0,.i .i64 0,.i .i64 0]):=by rw[hg.old cb (by omega)];exact g1
  have hst:=bC e1003 1 [.i .i64 z] (by simp) rfl;simp only[WX,Nat.reduceAdd,WN,hst,q8];refine bW8 Φ h62 h28 h61 h52 h89 h85 h112 h113 h119 h84 h136 h110 ht hE1 hE2 hW hW2 hP (k+1) (by omega) ?_ hfd hfa hfb hfi [none,_,none,none,none,none,_,none,none,none,none,none,_,_,_,_,_,_,_,_,_,_,_,_,_,_,_,_,_,_,_,_,_,_,_,_,_,_,_,_,_,_,_,_,_,_,_,_,_,_,_,_,_,_,_,_,_,_,_,_,_,_,_,_,_,_,_,_,_,_,_,_,_,_,_,_,_,_,_,_,_,_,_,_,_,_,_,_,_,_,_,_,_,_,_,_,_,_,_,_,_,_,_,_,_,_,_,_,_,_,_,_,_,_,_,_,_,_,_,_,_,_,_,_,_,_,_];intro op' d' a' b' i' hm' hs';obtain⟨rfl,e⟩:=HC op' d' a' b' i' hm' hs';obtain⟨m1,m2,m3,m4,m5⟩:=dL hm';have hw:W.drop k=(114::bS d')::R2 op' a' b' i':=by rw[e,R1,←hfd,ac rfl]<;>rfl
  have hr: -10000000<d'∧d'<10000000:=by have:=m3 0;rw[show fl d' a' b' 0=d' from rfl]at this;omega
  have hk0:W[k]?=some (114::bS d'):=by
   have:=congrArg (fun l=>l[0]?) hw
   simpa using this
  have hzz:=hz _ hk0 (by simp) d' hr.1 hr.2 rfl;exact⟨rfl,hzz.symm,by rw[←List.drop_drop,hw];rfl⟩
 |false=>
  simp only[WX,Es,Et];refine bW8 Φ h62 h28 h61 h52 h89 h85 h112 h113 h119 h84 h136 h110 ht hE1 hE2 hW hW2 hPR k (by omega) ?_ hfd hfa hfb hfi [none,_,none,none,none,none,_,none,none,none,none,none,_,_,_,_,_,_,_,_,_,_,_,_,_,_,_,_,_,_,_,_,_,_,_,_,_,_,_,_,_,_,_,_,_,_,_,_,_,_,_,_,_,_,_,_,_,_,_,_,_,_,_,_,_,_,_,_,_,_,_,_,_,_,_,_,_,_,_,_,_,_,_,_,_,_,_,_,_,_,_,_,_,_,_,_,_,_,_,_,_,_,_,_,_,_,_,_,_,_,_,_,_,_,_,_,_,_,_,_,_,_,_,_,_,_,_];intro op' d' a' b' i' hm' hs';obtain⟨rfl,e⟩:=HC op' d' a' b' i' hm' hs';have hz:=(fC hm').1 hfd.symm;exact⟨rfl,hz,by rw[e,R1,←hfd,ab (by decide)]<;>rfl⟩
theorem aX0{F:RO}(a b:List UInt8)(M:Mem):biQ .eql (sV a) (sV b) F M=oV (bu .eql (sV a) (sV b)):=by
 refine(gR ?_).trans (congrArg oV (af0 (F:=F) .eql _ _ M .e))
 intro F' M'
 show vB (lG a.length (bP a) b.length (bP b))=oV (vB (lG a.length (bP a) b.length (bP b))).val
 rw[mP];rfl
theorem KV(k:Nat)(s:List UInt8):dp (k+1) s≠[]:=by
 unfold dp
 cases mX 32 s 0<;>simp
theorem rg:∀(k:Nat) (s:List UInt8),∀w∈dp k s,w.length≤s.length
 |0,s,w,h=>by cases h
 |k+1,s,w,h=>by
  unfold dp at h;cases hf:mX 32 s 0 with
  |none=>rw[hf]at h;rw[List.mem_singleton.1 h];exact ah _
  |some j=>
   rw[hf]at h;rcases bj.1 h with e|h
   ·rw[e,List.length_take];omega
   ·have:=rg k _ w h;rw[cM]at this;omega
theorem r23(Φ:Nat→Option CF){L:List gF}(h62:Φ 62=some (.orc (aj h39)))(h28:Φ 28=some (.orc (ce L h28)))(h61:Φ 61=some Y1)(h52:Φ 52=some yR)(h89:Φ 89=some xe)(h85:Φ 85=some wD)(h112:Φ 112=some jR)(h113:Φ 113=some jS)(h119:Φ 119=some kQ)(h84:Φ 84=some tI)(h136:Φ 136=some (.orc (aj h136)))(h110:Φ 110=some (.orc (aj h110)))(h:Φ 23=some c23)(h57:Φ 57=some c57)(h58:Φ 58=some c58)(h60:Φ 60=some (.orc (aj h41)))(h59:Φ 59=some (.orc (aj h59)))
 {F:RO} {M:Mem} {c:Nat} (ok:eA F M c) (ht:bB F L=true) (hE1:bF F 1) (hE2:bF F 2) (hlow:∀g,g<1000→M.get g=none) (s:List UInt8) (hs:s.length≤1000000):
 Calls Φ F 23 [sV s] M c fun r M' c'=>j2 s r∧Gr c M c' M':=by
 refine ax h ?_
 have hge:=ok.ge
 have gr0:Gr c M (c+1) (M.set c (aK 59 [.i .i64 0,.i .i64 0,.i .i64 0,.i .i64 0,.i .i64 0])):=(Gr.refl ok).set c _ (ah _) (bD _) (bU _)
 have ok0:=gr0.ok ok
 simp only[WX,e23,b23,b24,WU]
 refine aB ((r57 Φ h57 ok0 s hs).mono ?_)
 rintro v M1 c1 ⟨hv,hown,hg1⟩
 have ok1:=hg1.ok ok0
 have hle1:=hg1.le
 simp only[WX,b25,b26,WH]
 obtain⟨W,hWd⟩:∃W,W=dp 9 s:=⟨_,rfl⟩
 rw[←hWd]at hv hown
 have hW9:W.length≤9:=by rw[hWd];exact wg 9 s
 have hWb:∀w∈W,w.length≤1000000:=fun w hw=>by rw[hWd]at hw;exact bm (rg 9 s w hw) hs
 have hW0:0<W.length:=List.length_pos_iff.2 (by rw[hWd];exact KV 8 s)
 obtain⟨X,hX⟩:∃X:Mem,X=M1.set c1 (aK 59 [.i .i64 0,.i .i64 0,.i .i64 0,.i .i64 0,.i .i64 0]):=⟨_,rfl⟩
 rw[←hX]
 have grX:Gr c1 M1 (c1+1) X:=by rw[hX];exact(Gr.refl ok1).set c1 _ (ah _) (bD _) (bU _)
 have okX:=grX.ok ok1
 have x0:X.get c=some (aK 59 [.i .i64 0,.i .i64 0,.i .i64 0,.i .i64 0,.i .i64 0]):=by rw[grX.old c (by omega),hg1.old c (by omega),aw]
 have x1:X.get c1=some (aK 59 [.i .i64 0,.i .i64 0,.i .i64 0,.i .i64 0,.i .i64 0]):=by rw[hX,aw]
 have xo:ie F X (c+1) c1 1 v (d6 W):=hown.up (ah _) (ah _) fun b _ hb=>grX.old b hb
 have xl:∀g,g<1000→X.get g=none:=fun g hg=>by rw[grX.old g (by omega),hg1.old g (by omega),aq _ _ (by omega)];exact hlow g hg
 clear hX
 obtain⟨I1,hI1⟩:∃I:Nat→St→Prop,∀n s',I n s'↔(∃(k:Nat) (op:Int) (M2:Mem) (c2:Nat) (u:List (Option V)),n=29-k∧1≤k∧k≤29∧s'= .mk ((.n (.n (.n (.n (ay u 63 31 95 15 79 47 111) (uO u 7) (ay u 71 39 103 23 87 55 119)) (some (.i .i64 0)) (.n (ay u 67 35 99 19 83 51 115) (uO u 11) (ay u 75 43 107 27 91 59 123))) (uO u 1) (.n (.n (ay u 65 33 97 17 81 49 113) (uO u 9) (ay u 73 41 105 25 89 57 121)) (some (.p c1 0)) (.n (ay u 69 37 101 21 85 53 117) (uO u 13) (ay u 77 45 109 29 93 61 125)))) (some (sV s)) (.n (.n (.n (ay u 64 32 96 16 80 48 112) (uO u 8) (ay u 72 40 104 24 88 56 120)) (some (v)) (.n (ay u 68 36 100 20 84 52 116) (uO u 12) (ay u 76 44 108 28 92 60 124))) (some (.p c 0)) (.n (.n (ay u 66 34 98 18 82 50 114) (uO u 10) (ay u 74 42 106 26 90 58 122)) (some (.i .i64 (k:Int))) (.n (ay u 70 38 102 22 86 54 118) (uO u 14) (ay u 78 46 110 30 94 62 126)))))) [] M2 c2∧PR F M M2 c2 c c1 v W op 0 0 0 0∧((∃j,j<k∧C7 W[0] j∧op=(j:Int))∨((∀j,j<k→ ¬C7 W[0] j)∧op=0))):=⟨fun n s'=>_,fun _ _=>Iff.rfl⟩
 refine cX I1 ?_ 28 _ ((hI1 _ _).2 ⟨1,0,X,c1+1,[none,_,none,none,none,none,none,_,_,_,_,_,_,_,_,_,_,_,_,_,_,_,_,_,_,_,_,_,_,_,_,_,_,_,_,_,_,_,_,_,_,_,_,_,_,_,_,_,_,_,_,_,_,_,_,_,_,_,_,_,_,_,_,_,_,_,_,_,_,_,_,_,_,_,_,_,_,_,_,_,_,_,_,_,_,_,_,_,_,_,_,_,_,_,_,_,_,_,_,_,_,_,_,_,_,_,_,_,_,_,_,_,_,_,_,_,_,_,_,_,_,_,_,_,_,_,_],rfl,ah _,by omega,rfl,⟨okX,by omega,by omega,hge,x0,x1,(xo.up (c':=c1+1) (lo':=c+1) (M':=X) (by omega) (ah _) fun _ _ _=>rfl).sl,xl,xo,(gr0.trans hg1).trans grX⟩,.inr ⟨fun j hj hn=>by have:=hn.1;omega,rfl⟩⟩)
 intro n s' hIs
 obtain⟨k,op,M2,c2,u,rfl,hk1,hk2,rfl,hPR,hor⟩:=(hI1 _ _).1 hIs
 clear hIs
 have hPR0:=hPR
 obtain⟨ok2,k1,k2,k3,g0,g1,g2,g3,g4,g5⟩:=hPR
 have q8:bu .add (.i .i64 (k:Int)) (.i .i64 1)=some (.i .i64 ((k+1:Nat):Int)):=by rw[bA _ _ (by omega) (by omega)];simp
 by_cases hlt:k≤28
 ·have d1:decide ((k:Int)≤28)=true:=af (by omega);obtain⟨b0,o0,_,hia0,hld0⟩:=my g2 0 hW0;have hia0:=hia0 .i64;rw[show((0:Nat):Int)=0 from rfl]at hia0;simp only[WX,WV,WW,b27,b29,d1,hia0,hld0];have ok2':eA F M2 (c2+8):=⟨fun b hb=>ok2.hiM b (by omega),fun b hb=>ok2.hiF b (by omega),ok2.ap,by have:=ok2.ge;omega⟩
  refine BS (v:= .l (c2+8) 0 29 29) (blk:=nI) _ _ _ _ _ _ _ _ _ _ _ ok2' (fun F' M'=>bV8 Φ h58) ?_;intro N hN hNo;have grN:Gr c2 M2 (c2+8+1) N:=⟨by omega,fun b hb=>hNo b (by omega),fun b hb=>by rw[hNo b (by omega)];exact ok2.hiM b (by omega)⟩
  obtain⟨bb,oo,_,hia,hld⟩:=my (AY (F:=F) (c:=c2+8+1) hN (by omega)) k (by rw[dx];omega);have hia:=hia .i64
  have hNk:∀(w:List UInt8),C7 w k↔w=d9[k]'(by rw[dx];omega):=fun w=>by
   unfold C7;rw[List.getElem?_eq_getElem (show k<d9.length by rw[dx];omega)];constructor
   ·rintro⟨_,e⟩;exact(ae e).symm
   ·rintro rfl;exact⟨hk1,rfl⟩
  have e1:N.get c1=some (aK 59 [.i .i64 op,.i .i64 0,.i .i64 0,.i .i64 0,.i .i64 0]):=by rw[hNo c1 (by omega)];exact g1
  by_cases hm:d9[k]'(by rw[dx];omega)=W[0]
  ·have dm:decide (d9[k]'(by rw[dx];omega)=W[0])=true:=af hm;have hst:=bC e1 0 [.i .i64 (k:Int)] (by simp) rfl;simp only[WX,Nat.reduceAdd,b28,Er,hia,hld,aX0,dm,hst,q8];refine⟨29-(k+1),by omega,(hI1 _ _).2 ⟨k+1,(k:Int),_,c2+8+1,[none,_,none,none,none,none,none,_,_,_,_,_,_,_,_,_,_,_,_,_,_,_,_,_,_,_,_,_,_,_,_,_,_,_,_,_,_,_,_,_,_,_,_,_,_,_,_,_,_,_,_,_,_,_,_,_,_,_,_,_,_,_,_,_,_,_,_,_,_,_,_,_,_,_,_,_,_,_,_,_,_,_,_,_,_,_,_,_,_,_,_,_,_,_,_,_,_,_,_,_,_,_,_,_,_,_,_,_,_,_,_,_,_,_,_,_,_,_,_,_,_,_,_,_,_,_,_],rfl,by omega,by omega,rfl,PR.step (op':=(k:Int)) (d':=0) (a':=0) (b':=0) (i':=0) hPR0 grN,.inl ⟨k,bD _,(hNk _).2 hm.symm,rfl⟩⟩⟩
  ·have dm:decide (d9[k]'(by rw[dx];omega)=W[0])=false:=ag hm;simp only[WX,Nat.reduceAdd,Er,hia,hld,aX0,dm,q8];have hP:=PR.step (op':=op) (d':=0) (a':=0) (b':=0) (i':=0) hPR0 grN;rw[←lF e1]at hP;refine⟨29-(k+1),by omega,(hI1 _ _).2 ⟨k+1,op,N,c2+8+1,[none,_,none,none,none,none,none,_,_,_,_,_,_,_,_,_,_,_,_,_,_,_,_,_,_,_,_,_,_,_,_,_,_,_,_,_,_,_,_,_,_,_,_,_,_,_,_,_,_,_,_,_,_,_,_,_,_,_,_,_,_,_,_,_,_,_,_,_,_,_,_,_,_,_,_,_,_,_,_,_,_,_,_,_,_,_,_,_,_,_,_,_,_,_,_,_,_,_,_,_,_,_,_,_,_,_,_,_,_,_,_,_,_,_,_,_,_,_,_,_,_,_,_,_,_,_,_],rfl,by omega,by omega,rfl,hP,?_⟩⟩;rcases hor with⟨j,hj,h1,h2⟩|⟨h1,h2⟩
   ·exact .inl ⟨j,by omega,h1,h2⟩
   ·refine .inr ⟨fun j hj hn=>?_,h2⟩;by_cases hjk:j=k
    ·subst hjk;exact hm ((hNk _).1 hn).symm
    ·exact h1 j (by omega) hn
 ·have d1:decide ((k:Int)≤28)=false:=ag (by omega);obtain rfl:k=29:=by omega
  have ldo:load1 F M2 c1 0=some (.i .i64 op):=bZ g1 0;simp only[WX,WV,WW,WI,WJ,WT,d1,ldo,h60,mf,h59,ze];refine cA2 Φ h62 h28 h61 h52 h89 h85 h112 h113 h119 h84 h136 h110 ht hE1 hE2 hW9 hWb hPR0 1 (by omega) ?_ rfl rfl rfl rfl [none,_,none,none,none,none,_,none,none,none,none,none,_,_,_,_,_,_,_,_,_,_,_,_,_,_,_,_,_,_,_,_,_,_,_,_,_,_,_,_,_,_,_,_,_,_,_,_,_,_,_,_,_,_,_,_,_,_,_,_,_,_,_,_,_,_,_,_,_,_,_,_,_,_,_,_,_,_,_,_,_,_,_,_,_,_,_,_,_,_,_,_,_,_,_,_,_,_,_,_,_,_,_,_,_,_,_,_,_,_,_,_,_,_,_,_,_,_,_,_,_,_,_,_,_,_,_];intro op' d' a' b' i' hm' hs';obtain⟨n1,n2,n3,n4,n5⟩:=dL hm';have hsp:W=dC op'::R1 op' d' a' b' i':=by
   rw[hWd,←hs',cL,lH];refine wh 9 _ (by simp) ?_ ?_
   ·have hl:=zY op' d' a' b' 3;have:(i7 op' d' a' b' i').length≤9:=by
     rw[i7,bE];split<;>simp<;>omega
    rwa [lH]at this
   ·intro w hw;rcases bj.1 hw with rfl|hw
    ·exact ud op'
    ·have r0:=n3 0;have r1:=n3 1;have r2:=n3 2;rw[show fl d' a' b' 0=d' from rfl]at r0;rw[show fl d' a' b' 1=a' from rfl]at r1;rw[show fl d' a' b' 2=b' from rfl]at r2;unfold R1 R2 R3 R4 at hw;simp only[List.mem_append]at hw;rcases hw with hw|hw|hw|hw
     ·split at hw
      ·rw[List.mem_singleton.1 hw];exact tg (by omega) (by omega)
      ·cases hw
     ·split at hw
      ·rw[List.mem_singleton.1 hw];exact tg (by omega) (by omega)
      ·cases hw
     ·split at hw
      ·rw[List.mem_singleton.1 hw];exact tg (by omega) (by omega)
      ·cases hw
     ·split at hw
      ·rw[List.mem_singleton.1 hw];exact zj (by omega) (by omega)
      ·cases hw
  have hW0':W[0]=dC op':=by simp only[hsp];rfl
  have hN:C7 (dC op') op'.toNat:=by
   unfold C7 dC;rw[ac ⟨n1,n2⟩,List.getElem?_eq_getElem (show op'.toNat<d9.length by rw[dx];omega)];exact⟨by omega,rfl⟩
  rw[hW0']at hor;have he:op'=op:=by
   rcases hor with⟨j,hj,h1,h2⟩|⟨h1,_⟩
   ·have:=vu hN h1;omega
   ·exact absurd hN (h1 _ (by omega))
  subst he;exact⟨rfl,by rw[hsp];rfl⟩
def bA7:CC:=(.reg [(qq a6 (.mv z0)),(qq a7 (.ln .slice z6)),(qq a8 (.bi .gtr z7 (x6 8192)))])
def bA8:CC:=(.seq (.reg [(qq a2 (.mv (.c (.s 0 0))))]) .ret)
def bA9:CC:=(.reg [(qq a9 (.mv z0)),(ee cg (.call 26 [z9])),(qq a3 (.mv cj))])
def bB0:CC:=(.reg [(qq cI (.mv z3)),(qq de (.ln .slice cD)),(qq cH (.bi .eql cS (x6 0))),(qq db (.mv cR)),(aL du (.mv z3) db),(aL dE (.ln .slice dj) db),(aL dO (.bi .mul (x6 4) dQ) db),(aL dY (.mv z0) db),(aL eg (.ln .slice ey) db),(aL eQ (.bi .neq dM eV) db),(qq dP (.pk dD xT eW))])
def bB1:CC:=(.reg [(qq eB (.mv z0)),(ee ec (.call 27 [eX])),(qq dH (.bi .add (.c (.s 1 58)) fG)),(qq a2 (.mv fH))])
def bB2:CC:=(.seq bB0 (.cond fm (.seq bB1 .ret) .skip))
def bB3:CC:=(.reg [(qq eR (.mv z3)),(qq eD (.iaS 5 fJ (x6 0))),(qq eJ (.ldn 5 fK)),(ee fk (.call 28 [fL])),(qq a4 (.mv g9))])
def bB4:CC:=(.reg [(qq a5 (.mv (x6 1)))])
def bB5:CC:=(.reg [(qq eE (.mv z5)),(qq eY (.mv z3)),(qq gH (.ln .slice gC)),(qq fo (.bi .lss gA gD))])
def aU5:CC:=(.seq bB5 (.cond iE .skip (.exit 0)))
def aU6:CC:=(.reg [(qq iq (.mv z4)),(qq j3 (.bi .add jj (.c (.s 2 8236)))),(qq iO (.mv z3)),(qq ib (.mv z5)),(qq j4 (.iaS 5 jk kf)),(qq gJ (.ldn 5 kq)),(ee jL (.call 28 [kO])),(qq ja (.bi .add jz kr)),(qq a4 (.mv l5))])
def aU7:CC:=(.reg [(qq gu (.mv z5)),(qq gh (.bi .add j1 (x6 1))),(qq a5 (.mv ji))])
def aU8:CC:=(.block 0 (.loop (.seq aU5 (.seq (.block 1 aU6) aU7))))
def aU9:CC:=(.reg [(qq jA (.mv z4)),(qq a2 (.mv lJ))])
def aV0:CC:=(.seq bB2 (.seq bB3 (.seq (.seq bB4 aU8) (.seq aU9 .ret))))
def aV1:CC:=(.seq (.seq bA7 (.cond z8 bA8 .skip)) (.seq bA9 aV0))
def aV2:CC:=(.seq (.reg [(qq a2 (.mv (.c (.s 0 0))))]) aV1)
def c8:CF:= .mk 6 [.t a2] aV2
theorem e8(v0:V):aS 6 [v0]=(.n mr (some v0) mr):=rfl
def B8:=ai @e8 (ai (wu bA7.eq_1) (ai (wu bA8.eq_1) (ai (wu bA9.eq_1) (ai (wu bB0.eq_1) (ai (wu bB1.eq_1) (ai (wu bB2.eq_1) (ai (wu bB3.eq_1) (ai (wu bB4.eq_1) (ai (wu bB5.eq_1) (ai (wu aU5.eq_1) (ai (wu aU6.eq_1) (ai (wu aU7.eq_1) (ai (wu aU8.eq_1) (ai (wu aU9.eq_1) (ai (wu aV0.eq_1) (ai (wu aV1.eq_1) (wu aV2.eq_1)))))))))))))))))
structure RP(Φ:Nat→Option CF)(L:List gF):Prop where
 h8:Φ 8=some c8
 h22:Φ 22=some c22
 h23:Φ 23=some c23
 h24:Φ 24=some c24
 h25:Φ 25=some (.orc (aj h25))
 h26:Φ 26=some c26
 h27:Φ 27=some c27
 h28:Φ 28=some (.orc (ce L h28))
 h52:Φ 52=some yR
 h56:Φ 56=some (.orc (aj h56))
 h57:Φ 57=some c57
 h58:Φ 58=some c58
 h59:Φ 59=some (.orc (aj h59))
 h60:Φ 60=some (.orc (aj h41))
 h61:Φ 61=some Y1
 h62:Φ 62=some (.orc (aj h39))
 h63:Φ 63=some c63
 h84:Φ 84=some tI
 h85:Φ 85=some wD
 h89:Φ 89=some xe
 h93:Φ 93=some (.orc (aj h93))
 h110:Φ 110=some (.orc (aj h110))
 h112:Φ 112=some jR
 h113:Φ 113=some jS
 h119:Φ 119=some kQ
 h136:Φ 136=some (.orc (aj h136))
theorem r8(Φ:Nat→Option CF){L:List gF}(p:RP Φ L){F:RO}{M:Mem}{c:Nat}{v:V}{l:List UInt8}(ok:eA F M c)(ht:bB F L=true)(hs:l9 F M c v l):
 Calls Φ F 8 [v] M c fun r M' c'=>r=sV (da l)∧Gr c M c' M':=by
 refine ax p.h8 ?_
 have hge:=ok.ge
 have hln:=hs.len
 by_cases hl:8192<l.length
 ·have d1:decide ((8192:Int)<(l.length:Int))=true:=af (by omega);simp only[WX,B8,hln,d1];exact⟨by unfold da;rw[ac hl];rfl,Gr.refl ok⟩
 have d1:decide ((8192:Int)<(l.length:Int))=false:=ag (by omega)
 simp only[WX,B8,hln,d1]
 refine aB ((r26 Φ p.h26 p.h93 p.h63 ok hs (by omega)).mono ?_)
 rintro w M1 c1 ⟨hw,gr1⟩
 have hm:=lx _ l (ah _)
 have hpl:=mg _ l (ah _)
 have ok1:=gr1.ok ok
 have hsl:Dv w=some (.i .i64 ((aN l).length:Int)):=by have:=hw.sl.len;rwa [List.length_map]at this
 have q4:bu .mul (.i .i64 4) (.i .i64 ((aN l).length:Int))=some (.i .i64 ((4*(aN l).length:Nat):Int)):=by
  rw[jq _ _ (by omega) (by omega)];simp
 have hpe:(aN l=[]∨4*(aN l).length≠l.length)→da l=58::gG l:=fun hn=>by unfold da;rw[ab hl,ac hn]
 have hcat:bu .add (.s 1 58) (sV (gG l))=some (sV (58::gG l)):=by
  have hh:(gG l).length≤20000:=by
   unfold gG;split
   ·exact Nat.le_of_ble_eq_true rfl
   ·rw[gS];omega
  have:=eK [58] (gG l) (by rw[List.length_singleton];omega);exact this
 by_cases hz:(aN l).length=0
 ·have dz:decide (((aN l).length:Int)=0)=true:=af (by omega);simp only[WX,B8,hsl,dz];refine aB ((r27 Φ p.h27 ok1 (hs.grow gr1) (by omega)).mono ?_);rintro r M2 c2 ⟨rfl,g2⟩;simp only[WX,hcat];exact⟨by rw[hpe (.inl (List.length_eq_zero_iff.1 hz))],gr1.trans g2⟩
 ·have dz:decide (((aN l).length:Int)=0)=false:=ag (by omega);by_cases hn:4*(aN l).length=l.length
  ·have dn:decide (((4*(aN l).length:Nat):Int)≠(l.length:Int))=false:=ag (by omega);have hT:=fun h args M c=>eu ht h args M c;have hp:da l=aT [44,32] ((aN l).map kh):=by
    unfold da;rw[ab hl,ab];rintro(e|e)
    ·rw[e]at hz;exact hz rfl
    ·exact e hn
   rw[hp];generalize aN l=P at hw hm hpl hsl q4 hz dz hn dn⊢;obtain⟨b0,o0,hb0,hia0,hld0⟩:=Dm hw.sl 0 (by omega);have hia0:=hia0 .i64;rw[Int.ofNat_zero]at hia0;have htx0:=zc (hm _ (List.getElem_mem (show 0<P.length by omega)));have hP0:aT [44,32] ((P.take 1).map kh)=cL (P[0]'(by omega)).op (P[0]'(by omega)).d (P[0]'(by omega)).a (P[0]'(by omega)).b (P[0]'(by omega)).i:=by rw[oB (show 0<P.length by omega)];simp[aT];rfl
   simp only[WX,B8,hsl,q4,hln,dz,dn,hia0,hld0,p.h28,hT,htx0];obtain⟨I,hI⟩:∃I:Nat→St→Prop,∀n s',I n s'↔(∃(i:Nat) (u:List (Option V)),n=P.length-i∧i≤P.length∧1≤i∧s'= .mk ((.n (.n (.n (ay u 31 15 47 7 39 23 55) (some (w)) (ay u 35 19 51 11 43 27 59)) (uO u 1) (.n (ay u 33 17 49 9 41 25 57) (some (.i .i64 (i:Int))) (ay u 37 21 53 13 45 29 61))) (some (v)) (.n (.n (ay u 32 16 48 8 40 24 56) (some (sV (aT [44,32] ((P.take i).map kh)))) (ay u 36 20 52 12 44 28 60)) (uO u 2) (.n (ay u 34 18 50 10 42 26 58) (uO u 6) (ay u 38 22 54 14 46 30 62))))) [] M1 c1):=⟨fun n s'=>_,fun _ _=>Iff.rfl⟩
   refine cX I ?_ (P.length-1) _ ((hI _ _).2 ⟨1,[none,_,_,none,none,none,_,_,_,_,_,_,_,_,_,_,_,_,_,_,_,_,_,_,_,_,_,_,_,_,_,_,_,_,_,_,_,_,_,_,_,_,_,_,_,_,_,_,_,_,_,_,_,_,_,_,_,_,_,_,_,_,_],rfl,by omega,by omega,by rw[hP0];rfl⟩);intro n s' hIs;obtain⟨i,u,rfl,hi,hi1,rfl⟩:=(hI _ _).1 hIs;clear hIs;have q8:bu .add (.i .i64 (i:Int)) (.i .i64 1)=some (.i .i64 ((i+1:Nat):Int)):=by rw[bA _ _ (by omega) (by omega)];simp
   have hjl:(aT [44,32] ((P.take i).map kh)).length≤1000000:=by
    have h1:=ot [44,32] ((P.take i).map kh);have h2:=zR (P.take i) fun x hx=>hm x (List.mem_of_mem_take hx);rw[List.length_map,List.length_take]at h1;rw[List.length_take]at h2;rw[show[(44:UInt8),32].length=2 from rfl]at h1;omega
   by_cases hlt:i<P.length
   ·have d5:decide ((i:Int)<(P.length:Int))=true:=af (by omega);obtain⟨b0,o0,hb0,hia,hld⟩:=Dm hw.sl i hlt;have hia:=hia .i64;have hmx:=hm _ (List.getElem_mem hlt);have htx:=zc hmx;have htl:=zT hmx;have hjn:aT [44,32] ((P.take (i+1)).map kh)=aT [44,32] ((P.take i).map kh)++[44,32]++kh P[i]:=by
     obtain⟨k,rfl⟩:∃k,i=k+1:=⟨i-1,by omega⟩
     have:=xU [44,32] (P.map kh) k (by rw[List.length_map];exact hlt);rw[List.map_take,List.map_take,this,List.getElem_map]
    rw[show kh P[i]=cL P[i].op P[i].d P[i].a P[i].b P[i].i from rfl]at hjn htl;generalize cL P[i].op P[i].d P[i].a P[i].b P[i].i=tz at htx hjn htl;have k1:=eK (aT [44,32] ((P.take i).map kh)) [44,32] (by rw[show[(44:UInt8),32].length=2 from rfl];omega);have k2:=eK (aT [44,32] ((P.take i).map kh)++[44,32]) tz (by rw[bE,show[(44:UInt8),32].length=2 from rfl];omega);rw[show sV [44,32]= .s 2 8236 from rfl]at k1;rw[←hjn]at k2;simp only[WX,B8,hsl,d5,hia,hld,p.h28,hT,htx,k1,k2,q8];exact⟨P.length-(i+1),by omega,(hI _ _).2 ⟨i+1,[none,_,_,none,none,none,_,_,_,_,_,_,_,_,_,_,_,_,_,_,_,_,_,_,_,_,_,_,_,_,_,_,_,_,_,_,_,_,_,_,_,_,_,_,_,_,_,_,_,_,_,_,_,_,_,_,_,_,_,_,_,_,_],rfl,hlt,by omega,rfl⟩⟩
   ·obtain rfl:i=P.length:=by omega
    have d5:decide ((P.length:Int)<(P.length:Int))=false:=ag (by omega);simp only[WX,B8,hsl,d5];exact⟨by rw[List.take_length],gr1⟩
  ·have dn:decide (((4*(aN l).length:Nat):Int)≠(l.length:Int))=true:=af (by omega);simp only[WX,B8,hsl,q4,hln,dz,dn];refine aB ((r27 Φ p.h27 ok1 (hs.grow gr1) (by omega)).mono ?_);rintro r M2 c2 ⟨rfl,g2⟩;simp only[WX,hcat];exact⟨by rw[hpe (.inr hn)],gr1.trans g2⟩
def bz8:CC:=(.reg [(qq a2 (.mv (.c .l0))),(qq a3 (.mv (x6 0)))])
def bn3:=wu bz8.eq_1
def bz9:CC:=(.reg [(qq cI (.mv z0)),(qq de (.ln .str cD)),(qq cH (.bi .gtr cS (x6 0))),(qq db (.mv cR)),(ak du (.mv z0) db),(ak dE (.ixS dj (x6 0)) db),(ak dO (.bi .eql dQ (.c (.i .u8 58))) db),(qq dY (.pk dD dM xF))])
def bn4:=wu bz9.eq_1
def bA0:CC:=(.reg [(qq eQ (.mv z0)),(qq dP (.slS eW (some (x6 1)) none)),(ee eB (.call 22 [fm])),(qq eg (.mv eX)),(qq ec (.ex 0 eV)),(qq dH (.ex 1 eV)),(qq a4 (.mv fG)),(qq a5 (.mv fH))])
def cD1:=wu bA0.eq_1
def bA1:CC:=(.reg [(qq eR (.mv z5)),(qq eD (.un .not fJ)),(qq eJ (.mv fK)),(aL fk (.mv z4) eJ),(aL eE (.ln .slice g9) eJ),(aL eY (.bi .gtr gA (x6 8192)) eJ),(qq gH (.pk fL xT gC)),(qq fo (.mv gD)),(aL gu (.mv z4) fo),(tM gh (.call 8 [j1]) fo),(aL iq (.mv z0) fo),(aL j3 (.bi .neq ji jj) fo),(qq iO (.pk iE xT jz))])
def cD2:=wu bA1.eq_1
def bA2:CC:=(.reg [(qq a2 (.mv (.c .l0))),(qq a3 (.mv (x6 4)))])
def cD3:=wu bA2.eq_1
def bA3:CC:=(.cond jk (.seq bA2 .ret) .skip)
def cD4:=wu bA3.eq_1
def bA4:CC:=(.reg [(qq ib (.mv z4)),(qq a2 (.mv kf)),(qq a3 (.mv (x6 0)))])
def cD5:=wu bA4.eq_1
def bA5:CC:=(.cond ey (.seq bA0 (.seq (.seq bA1 bA3) (.seq bA4 .ret))) .skip)
def bn5:=wu bA5.eq_1
def bA6:CC:=(.reg [(qq a7 (.mv (x6 0)))])
def cb4:=wu bA6.eq_1
def aP4:CC:=(.reg [(qq a8 (.mv (x6 0)))])
def b44:=wu aP4.eq_1
def aP5:CC:=(.reg [(qq j4 (.mv z8)),(qq gJ (.mv z0)),(qq jL (.ln .str kO)),(qq ja (.bi .leq kq kr))])
def Xa:=wu aP5.eq_1
def aP6:CC:=(.seq aP5 (.cond l5 .skip (.exit 0)))
def Xb:=wu aP6.eq_1
def RW:CC:=(.reg [(qq kl (.mv z8)),(qq kg (.mv z0)),(qq km (.ln .str mR)),(qq jb (.bi .lss mE lN)),(qq ga (.mv n6)),(ak mU (.mv z0) ga),(ak ko (.mv z8) ga),(ak jC (.ixS oG oH) ga),(ak ig (.bi .neq pq (.c (.i .u8 44))) ga),(ak lK (.mv oL) ga),(aL nh (.mv z8) lK),(aL ky (.bi .add pv (x6 1)) lK),(aL l6 (.mv z0) lK),(aL lL (.ln .str qd) lK),(aL oO (.bi .geq oM qf) lK),(ak n7 (.pk qc xT rv) ga),(ak l7 (.mv rx) ga),(aL oJ (.mv z0) l7),(aL ni (.mv z8) l7),(aL oP (.bi .add rz (x6 1)) l7),(aL oK (.ixS ry ww) l7),(aL nj (.bi .neq sE (.c (.i .u8 32))) l7),(ak oQ (.pk rB xT u6) ga),(qq lP (.pk mS uu xF))])
def cb0:=wu RW.eq_1
def RX:CC:=(.cond uv (.exit 1) .skip)
def cb2:=wu RX.eq_1
def aP7:CC:=(.reg [(qq sI (.mv z0)),(qq sJ (.mv z7)),(qq rF (.mv z8)),(qq uE (.mn false wy [wU])),(qq wC (.mv z8)),(qq wH (.slS uw (some wV) (some A2))),(ee sK (.call 23 [A3])),(qq nk (.mv A4)),(qq x5 (.ex 0 u7)),(qq Ad (.ex 1 u7)),(aa a9 (.al 59 [(.i .i64 0),(.i .i64 0),(.i .i64 0),(.i .i64 0),(.i .i64 0)])),(ez (.st 5 z9 C2)),(qq cg (.mv ER))])
def b45:=wu aP7.eq_1
def aP8:CC:=(.reg [(qq Ae (.mv cj)),(qq yG (.bi .neq IY (x6 0))),(qq yH (.mv IZ)),(aL Cm (.mv z6) yH),(aL Cn (.ln .slice Lk) yH),(aL uF (.bi .geq XR (x6 8192)) yH),(qq EY (.pk XQ xT Ll))])
def IK:=wu aP8.eq_1
def aP9:CC:=(.reg [(qq a2 (.mv (.c .l0))),(qq a3 (.mv (x6 4)))])
def Xc:=wu aP9.eq_1
def aQ0:CC:=(.cond Lw (.seq aP9 .ret) .skip)
def IL:=wu aQ0.eq_1
def aQ1:CC:=(.reg [(qq EZ (.mv z6)),(qq F2 (.ldn 5 z9)),(ee F3 (.call 25 [XS])),(ee A1 (.call 24 [XT])),(ee F4 (.app 5 1 1 Lm XU)),(qq a6 (.mv XV))])
def b46:=wu aQ1.eq_1
def aQ2:CC:=(.reg [(qq F5 (.mv z8)),(qq F6 (.bi .add Ln (x6 2))),(qq a7 (.mv XW))])
def b47:=wu aQ2.eq_1
def aQ3:CC:=(.seq (.seq RW RX) (.seq aP7 (.seq (.seq aP8 aQ0) (.seq aQ1 aQ2))))
def b48:=wu aQ3.eq_1
def aQ4:CC:=(.reg [(qq jA (.mv z8)),(qq jB (.bi .add lJ (x6 1))),(qq a8 (.mv lM))])
def Xd:=wu aQ4.eq_1
def aQ5:CC:=(.block 0 (.loop (.seq aP6 (.seq (.block 1 aQ3) aQ4))))
def b49:=wu aQ5.eq_1
def aQ6:CC:=(.reg [(qq F7 (.mv z6)),(qq a2 (.mv XX)),(qq a3 (.mv (x6 0)))])
def Xe:=wu aQ6.eq_1
def RY:CC:=(.seq (.reg [(qq a6 (.mv (.c .l0)))]) (.seq bA6 (.seq (.seq aP4 aQ5) (.seq aQ6 .ret))))
def b50:=wu RY.eq_1
def c7:CF:= .mk 7 [.t a2,.t a3] (.seq bz8 (.seq (.seq bz9 bA5) RY))
theorem e7(v0:V):aS 7 [v0]=(.n tk (some v0) tk):=rfl
def B7:=ai @e7 (ai @bn3 (ai @bn4 (ai @cD1 (ai @cD2 (ai @cD3 (ai @cD4 (ai @cD5 (ai @bn5 (ai @cb4 (ai @b44 (ai @Xa (ai @Xb (ai @cb0 (ai @cb2 (ai @b45 (ai @IK (ai @Xc (ai @IL (ai @b46 (ai @b47 (ai @b48 (ai @Xd (ai @b49 (ai @Xe (@b50)))))))))))))))))))))))))
def Cut(s:List UInt8)(i:Nat):Prop:=i=s.length∨(s[i]?=some 44∧s[i+1]?=some 32)
theorem KU{s:List UInt8}{i:Nat}(h:i<s.length)(hn:¬Cut s i)(a:List UInt8):cC (s.drop i) a=cC (s.drop (i+1)) (a++[s[i]]):=by
 have hd:=eS h
 by_cases h1:i+1<s.length
 ·have hd1:=eS h1;rw[hd,hd1,cC,ab];rintro⟨e1,e2⟩;exact hn (.inr ⟨by rw[List.getElem?_eq_getElem h,e1],by rw[List.getElem?_eq_getElem h1,e2]⟩)
 ·rw[hd,List.drop_eq_nil_of_le (by omega),cC,cC]
theorem Wl{s:List UInt8}{i:Nat}(h1:s[i]?=some 44)(h2:s[i+1]?=some 32)(a:List UInt8):cC (s.drop i) a=a::cC (s.drop (i+2)) []:=by
 obtain⟨k1,e1⟩:=List.getElem?_eq_some_iff.1 h1
 obtain⟨k2,e2⟩:=List.getElem?_eq_some_iff.1 h2
 rw[eS k1,eS k2,cC,ac ⟨e1,e2⟩]
theorem bG7(Φ:Nat→Option CF){F:RO}{M:Mem}{c:Nat}{s:List UInt8}{acc at_:V}{i:Nat}(hi:i≤s.length)(hs:s.length≤1000000)(u:List (Option V))(Q:Ex→St→Prop)
 (hc:i<s.length→ ¬Cut s i→ ∀u,Q (.ext 1) (.mk ((.n (.n (.n (.n (ay u 63 31 95 15 79 47 111) (some (at_)) (ay u 71 39 103 23 87 55 119)) (uO u 3) (.n (ay u 67 35 99 19 83 51 115) (uO u 11) (ay u 75 43 107 27 91 59 123))) (uO u 1) (.n (.n (ay u 65 33 97 17 81 49 113) (uO u 9) (ay u 73 41 105 25 89 57 121)) (uO u 5) (.n (ay u 69 37 101 21 85 53 117) (uO u 13) (ay u 77 45 109 29 93 61 125)))) (some (sV s)) (.n (.n (.n (ay u 64 32 96 16 80 48 112) (some (.i .i64 (i:Int))) (ay u 72 40 104 24 88 56 120)) (uO u 4) (.n (ay u 68 36 100 20 84 52 116) (uO u 12) (ay u 76 44 108 28 92 60 124))) (some (.l0)) (.n (.n (ay u 66 34 98 18 82 50 114) (uO u 10) (ay u 74 42 106 26 90 58 122)) (some (acc)) (.n (ay u 70 38 102 22 86 54 118) (uO u 14) (ay u 78 46 110 30 94 62 126)))))) [] M c)) (hd:Cut s i→ ∀u,Q .nrm (.mk ((.n (.n (.n (.n (ay u 63 31 95 15 79 47 111) (some (at_)) (ay u 71 39 103 23 87 55 119)) (uO u 3) (.n (ay u 67 35 99 19 83 51 115) (uO u 11) (ay u 75 43 107 27 91 59 123))) (uO u 1) (.n (.n (ay u 65 33 97 17 81 49 113) (uO u 9) (ay u 73 41 105 25 89 57 121)) (uO u 5) (.n (ay u 69 37 101 21 85 53 117) (uO u 13) (ay u 77 45 109 29 93 61 125)))) (some (sV s)) (.n (.n (.n (ay u 64 32 96 16 80 48 112) (some (.i .i64 (i:Int))) (ay u 72 40 104 24 88 56 120)) (uO u 4) (.n (ay u 68 36 100 20 84 52 116) (uO u 12) (ay u 76 44 108 28 92 60 124))) (some (.l0)) (.n (.n (ay u 66 34 98 18 82 50 114) (uO u 10) (ay u 74 42 106 26 90 58 122)) (some (acc)) (.n (ay u 70 38 102 22 86 54 118) (uO u 14) (ay u 78 46 110 30 94 62 126)))))) [] M c)):
 Wp (RW.seq RX) (K Φ none 7 F) (.mk ((.n (.n (.n (.n (ay u 63 31 95 15 79 47 111) (some (at_)) (ay u 71 39 103 23 87 55 119)) (uO u 3) (.n (ay u 67 35 99 19 83 51 115) (uO u 11) (ay u 75 43 107 27 91 59 123))) (uO u 1) (.n (.n (ay u 65 33 97 17 81 49 113) (uO u 9) (ay u 73 41 105 25 89 57 121)) (uO u 5) (.n (ay u 69 37 101 21 85 53 117) (uO u 13) (ay u 77 45 109 29 93 61 125)))) (some (sV s)) (.n (.n (.n (ay u 64 32 96 16 80 48 112) (some (.i .i64 (i:Int))) (ay u 72 40 104 24 88 56 120)) (uO u 4) (.n (ay u 68 36 100 20 84 52 116) (uO u 12) (ay u 76 44 108 28 92 60 124))) (some (.l0)) (.n (.n (ay u 66 34 98 18 82 50 114) (uO u 10) (ay u 74 42 106 26 90 58 122)) (some (acc)) (.n (ay u 70 38 102 22 86 54 118) (uO u 14) (ay u 78 46 110 30 94 62 126)))))) [] M c) Q:=by
 have q8:bu .add (.i .i64 (i:Int)) (.i .i64 1)=some (.i .i64 ((i+1:Nat):Int)):=by rw[bA _ _ (by omega) (by omega)];simp
 by_cases h0:i<s.length
 ·have d0:decide ((i:Int)<(s.length:Int))=true:=af (by omega);have x1:=tU s .i64 i h0;have g1:s[i]?=some s[i]:=List.getElem?_eq_getElem h0;have hne:i≠s.length:=by omega
  unfold Cut at hc hd;rw[g1]at hc hd;rw[bV]at x1;by_cases h1:s[i]=44
  ·have h1':s[i].toNat=44:=by rw[h1];rfl
   have d1:decide ((s[i].toNat:Int)≠44)=false:=ag (by omega);by_cases h2:i+1<s.length
   ·have d2:decide ((s.length:Int)≤((i+1:Nat):Int))=false:=ag (by omega);have x2:=tU s .i64 (i+1) h2;have g2:s[i+1]?=some s[i+1]:=List.getElem?_eq_getElem h2;rw[g2]at hc hd;rw[bV]at x2;by_cases h3:s[i+1]=32
    ·have h3':s[i+1].toNat=32:=by rw[h3];rfl
     have d3:decide ((s[i+1].toNat:Int)≠32)=false:=ag (by omega);simp only[WX,B7,d0,x1,d1,q8,d2,x2,d3];exact hd (.inr ⟨by rw[h1],by rw[h3]⟩) [none,_,none,_,_,_,none,none,none,_,_,_,_,_,_,_,_,_,_,_,_,_,_,_,_,_,_,_,_,_,_,_,_,_,_,_,_,_,_,_,_,_,_,_,_,_,_,_,_,_,_,_,_,_,_,_,_,_,_,_,_,_,_,_,_,_,_,_,_,_,_,_,_,_,_,_,_,_,_,_,_,_,_,_,_,_,_,_,_,_,_,_,_,_,_,_,_,_,_,_,_,_,_,_,_,_,_,_,_,_,_,_,_,_,_,_,_,_,_,_,_,_,_,_,_,_,_]
    ·have h3':s[i+1].toNat≠32:=fun e=>h3 (UInt8.toNat_inj.1 e);have d3:decide ((s[i+1].toNat:Int)≠32)=true:=af (by omega);simp only[WX,B7,d0,x1,d1,q8,d2,x2,d3];exact hc h0 (by rintro(e|⟨_,e⟩);exact hne e;exact h3 (ae e)) [none,_,none,_,_,_,none,none,none,_,_,_,_,_,_,_,_,_,_,_,_,_,_,_,_,_,_,_,_,_,_,_,_,_,_,_,_,_,_,_,_,_,_,_,_,_,_,_,_,_,_,_,_,_,_,_,_,_,_,_,_,_,_,_,_,_,_,_,_,_,_,_,_,_,_,_,_,_,_,_,_,_,_,_,_,_,_,_,_,_,_,_,_,_,_,_,_,_,_,_,_,_,_,_,_,_,_,_,_,_,_,_,_,_,_,_,_,_,_,_,_,_,_,_,_,_,_]
   ·have d2:decide ((s.length:Int)≤((i+1:Nat):Int))=true:=af (by omega);simp only[WX,B7,d0,x1,d1,q8,d2];exact hc h0 (by rintro(e|⟨_,e⟩);exact hne e;rw[List.getElem?_eq_none (by omega)]at e;cases e) [none,_,none,_,_,_,none,none,none,_,_,_,_,_,_,_,_,_,_,_,_,_,_,_,_,_,_,_,_,_,_,_,_,_,_,_,_,_,_,_,_,_,_,_,_,_,_,_,_,_,_,_,_,_,_,_,_,_,_,_,_,_,_,_,_,_,_,_,_,_,_,_,_,_,_,_,_,_,_,_,_,_,_,_,_,_,_,_,_,_,_,_,_,_,_,_,_,_,_,_,_,_,_,_,_,_,_,_,_,_,_,_,_,_,_,_,_,_,_,_,_,_,_,_,_,_,_]
  ·have h1':s[i].toNat≠44:=fun e=>h1 (UInt8.toNat_inj.1 e);have d1:decide ((s[i].toNat:Int)≠44)=true:=af (by omega);simp only[WX,B7,d0,x1,d1];exact hc h0 (by rintro(e|⟨e,_⟩);exact hne e;exact h1 (ae e)) [none,_,none,_,_,_,none,none,none,_,_,_,_,_,_,_,_,_,_,_,_,_,_,_,_,_,_,_,_,_,_,_,_,_,_,_,_,_,_,_,_,_,_,_,_,_,_,_,_,_,_,_,_,_,_,_,_,_,_,_,_,_,_,_,_,_,_,_,_,_,_,_,_,_,_,_,_,_,_,_,_,_,_,_,_,_,_,_,_,_,_,_,_,_,_,_,_,_,_,_,_,_,_,_,_,_,_,_,_,_,_,_,_,_,_,_,_,_,_,_,_,_,_,_,_,_,_]
 ·have d0:decide ((i:Int)<(s.length:Int))=false:=ag (by omega);simp only[WX,B7,d0];exact hd (.inl (by omega)) [none,_,none,_,_,_,none,none,none,_,_,_,_,_,_,_,_,_,_,_,_,_,_,_,_,_,_,_,_,_,_,_,_,_,_,_,_,_,_,_,_,_,_,_,_,_,_,_,_,_,_,_,_,_,_,_,_,_,_,_,_,_,_,_,_,_,_,_,_,_,_,_,_,_,_,_,_,_,_,_,_,_,_,_,_,_,_,_,_,_,_,_,_,_,_,_,_,_,_,_,_,_,_,_,_,_,_,_,_,_,_,_,_,_,_,_,_,_,_,_,_,_,_,_,_,_,_]
def ZZ(mx:Bool)(v w:V):Option V:=match Dy mx v w with|some v=>some v|none=>none
theorem bZ4{F:RO}(mx:Bool)(x y:X)(M:Mem)(t:T):(cY (.mn mx x [y]) F M t).val=ZZ mx (x.ev t) (y.ev t):=by
 show(qr (minAll mx t (x.ev t) [y])).val=_
 show(qr (match Dy mx (x.ev t) (y.ev t)with|some v=>some v|none=>none)).val=_
 unfold ZZ
 cases Dy mx (x.ev t) (y.ev t)<;>rfl
theorem a00(a b:Nat):ZZ false (.i .i64 (a:Int)) (.i .i64 (b:Int))=some (.i .i64 ((min a b:Nat):Int)):=by
 unfold ZZ
 have:Dy false (.i .i64 (a:Int)) (.i .i64 (b:Int))=some (.i .i64 ((min a b:Nat):Int)):=by
  show(fI (bif K9 (b:Int) (a:Int)then(b:Int)else(a:Int)) fun n=>some (V.i .i64 n))=_;rw[show K9 (b:Int) (a:Int)=decide (b<a) by show Nat.blt b a=_;rw[eT]];by_cases h:b<a
  ·rw[af h,cond_true,Hu,Nat.min_eq_right (by omega)]
  ·rw[ag h,cond_false,Hu,Nat.min_eq_left (by omega)]
 rw[this]
def R7(F:RO)(M:Mem)(c:Nat)(s:List UInt8)(i at_:Nat)(acc:V)(b1:Nat)(Ls:List nc)(M1:Mem)(c1:Nat):Prop:=
 eA F M1 c1∧c≤c1∧(∀x,x<c→M1.get x=M.get x)∧cu M1 c c1 b1 5 1 acc ((cB Ls).map fun x=>[bV x])∧(∀x∈Ls,iX x=true)∧4*Ls.length≤8192∧
 ((at_≤i∧i≤s.length∧cC s []=Ls.map kh++cC (s.drop i) ((s.take i).drop at_))∨(at_=i+1∧i<s.length∧s[i]?=some 32∧cC s []=Ls.map kh++cC (s.drop (i+1)) [])∨(i=s.length+1∧cC s []=Ls.map kh))
theorem r7(Φ:Nat→Option CF){L:List gF}(h:Φ 7=some c7)(p:RP Φ L){F:RO}{M:Mem}{c:Nat}(ok:eA F M c)(ht:bB F L=true)(hE1:bF F 1)(hE2:bF F 2)(hlow:∀g,g<1000→M.get g=none)(s:List UInt8)(hs:s.length≤100000):
 Calls Φ F 7 [sV s] M c fun r M' c'=>UnP F M' c' s r∧Gr c M c' M':=by
 refine ax h ?_
 have hge:=ok.ge
 by_cases h58:∃r,s=58::r
 ·obtain⟨r,rfl⟩:=h58;have d0:decide ((0:Int)<((r.length+1:Nat):Int))=true:=af (by omega);have x0:qI (sV (58::r)) (.i .i64 0)=some (.i .u8 58):=tU (58::r) .i64 0 (by simp);have s1:=pl (58::r) .i64 1 (by simp);rw[show((1:Nat):Int)=1 from rfl,List.drop_one,List.tail_cons]at s1;simp only[WX,B7,d0,x0,s1];refine aB ((r22 Φ p.h22 p.h56 ok r (by rw[bk]at hs;omega)).mono ?_);rintro q M1 c1 ⟨g1,v,b,l,rfl,hsl,hll,hu⟩;have ok1:=g1.ok ok;have hln:=hsl.len
  have hno:(b=false∨8192<l.length∨da l≠58::r)→ ∀l':List UInt8,l'.length≤8192→da l'≠58::r:=fun hh l' h1 h2=>by
   obtain⟨e1,e2⟩:=hu l' (VI h1 h2);subst e2;rcases hh with hh|hh|hh
   ·rw[hh]at e1;cases e1
   ·omega
   ·exact hh h2
  cases b with
  |false=>
   simp only[WX,B7];exact⟨.inr ⟨hno (.inl rfl),rfl⟩,g1⟩
  |true=>
   by_cases hl:8192<l.length
   ·have d1:decide ((8192:Int)<(l.length:Int))=true:=af (by omega);simp only[WX,B7,hln,d1];exact⟨.inr ⟨hno (.inr (.inl hl)),rfl⟩,g1⟩
   ·have d1:decide ((8192:Int)<(l.length:Int))=false:=ag (by omega);simp only[WX,B7,hln,d1];refine aB ((r8 Φ p ok1 ht hsl).mono ?_);rintro q M2 c2 ⟨rfl,g2⟩;have hne:=np (da l) (58::r);by_cases he:da l=58::r
    ·rw[af he]at hne;simp only[WX,B7,hne];exact⟨.inl ⟨v,l,rfl,hsl.grow g2,by omega,he⟩,g1.trans g2⟩
    ·rw[ag he]at hne;simp only[WX,B7,hne];exact⟨.inr ⟨hno (.inr (.inr he)),rfl⟩,g1.trans g2⟩
 ·have h59:∀r,s≠58::r:=fun r e=>h58 ⟨r,e⟩;have hPC:∀l':List UInt8,l'.length≤8192→da l'=s→ ∃L,L≠[]∧(∀x∈L,iX x=true)∧cB L=l'∧cC s []=L.map kh:=fun l' a b=>tf a h59 b
  have start:∀u,Wp RY (K Φ none 7 F) (.mk ((.n (.n (.n (.n (ay u 63 31 95 15 79 47 111) (uO u 7) (ay u 71 39 103 23 87 55 119)) (some (.i .i64 0)) (.n (ay u 67 35 99 19 83 51 115) (uO u 11) (ay u 75 43 107 27 91 59 123))) (uO u 1) (.n (.n (ay u 65 33 97 17 81 49 113) (uO u 9) (ay u 73 41 105 25 89 57 121)) (uO u 5) (.n (ay u 69 37 101 21 85 53 117) (uO u 13) (ay u 77 45 109 29 93 61 125)))) (some (sV s)) (.n (.n (.n (ay u 64 32 96 16 80 48 112) (uO u 8) (ay u 72 40 104 24 88 56 120)) (uO u 4) (.n (ay u 68 36 100 20 84 52 116) (uO u 12) (ay u 76 44 108 28 92 60 124))) (some (.l0)) (.n (.n (ay u 66 34 98 18 82 50 114) (uO u 10) (ay u 74 42 106 26 90 58 122)) (uO u 6) (.n (ay u 70 38 102 22 86 54 118) (uO u 14) (ay u 78 46 110 30 94 62 126)))))) [] M c) (j5 F [.t (.r .h),.t (.l (.l .h))] fun r M' c'=>UnP F M' c' s r∧Gr c M c' M'):=by
   intro u;simp only[WX,cb4,b44,b49,b50];obtain⟨I,hI⟩:∃I:Nat→St→Prop,∀n s',I n s'↔(∃(i at_ c1 b1:Nat) (acc:V) (M1:Mem) (Ls:List nc) (u:List (Option V)),n=s.length+1-i∧s'= .mk ((.n (.n (.n (.n (ay u 63 31 95 15 79 47 111) (some (.i .i64 (at_:Int))) (ay u 71 39 103 23 87 55 119)) (uO u 3) (.n (ay u 67 35 99 19 83 51 115) (uO u 11) (ay u 75 43 107 27 91 59 123))) (uO u 1) (.n (.n (ay u 65 33 97 17 81 49 113) (uO u 9) (ay u 73 41 105 25 89 57 121)) (uO u 5) (.n (ay u 69 37 101 21 85 53 117) (uO u 13) (ay u 77 45 109 29 93 61 125)))) (some (sV s)) (.n (.n (.n (ay u 64 32 96 16 80 48 112) (some (.i .i64 (i:Int))) (ay u 72 40 104 24 88 56 120)) (uO u 4) (.n (ay u 68 36 100 20 84 52 116) (uO u 12) (ay u 76 44 108 28 92 60 124))) (some (.l0)) (.n (.n (ay u 66 34 98 18 82 50 114) (uO u 10) (ay u 74 42 106 26 90 58 122)) (some (acc)) (.n (ay u 70 38 102 22 86 54 118) (uO u 14) (ay u 78 46 110 30 94 62 126)))))) [] M1 c1∧R7 F M c s i at_ acc b1 Ls M1 c1):=⟨fun n s'=>_,fun _ _=>Iff.rfl⟩
   refine cX I ?_ (s.length+1) _ ((hI _ _).2 ⟨0,0,c,0,.l0,M,[],[none,_,none,_,_,_,none,none,none,_,_,_,_,_,_,_,_,_,_,_,_,_,_,_,_,_,_,_,_,_,_,_,_,_,_,_,_,_,_,_,_,_,_,_,_,_,_,_,_,_,_,_,_,_,_,_,_,_,_,_,_,_,_,_,_,_,_,_,_,_,_,_,_,_,_,_,_,_,_,_,_,_,_,_,_,_,_,_,_,_,_,_,_,_,_,_,_,_,_,_,_,_,_,_,_,_,_,_,_,_,_,_,_,_,_,_,_,_,_,_,_,_,_,_,_,_,_],rfl,rfl,ok,ah _,fun _ _=>rfl,cu.nil,(fun x hx=>by cases hx),aM _,.inl ⟨ah _,aM _,rfl⟩⟩);intro n s' hIs;obtain⟨i,at_,c1,b1,acc,M1,Ls,u,rfl,rfl,ok1,le1,old1,hA,hm,hL4,hcase⟩:=(hI _ _).1 hIs;clear hIs;have gM:Gr c M c1 M1:=⟨le1,old1,ok1.hiM⟩
   have hbl:=ft Ls;have q8:bu .add (.i .i64 (i:Int)) (.i .i64 1)=some (.i .i64 ((i+1:Nat):Int)):=by
    have:i≤s.length+1:=by rcases hcase with h|h|h<;>omega
    rw[bA _ _ (by omega) (by omega)];simp
   by_cases hC:i=s.length+1
   ·have d1:decide ((i:Int)≤(s.length:Int))=false:=ag (by omega);simp only[WX,Xa,Xb,Xe,d1];have hsp:cC s []=Ls.map kh:=by
     rcases hcase with⟨_,h,_⟩|⟨_,h,_⟩|⟨_,h⟩
     ·omega
     ·omega
     ·exact h
    refine⟨.inl ⟨acc,cB Ls,rfl,hA.sl,by omega,?_⟩,gM⟩;have hne:Ls≠[]:=fun e=>zO s [] (by rw[hsp,e];rfl);rw[Ko hne hm hL4,←hsp,rW];rfl
   ·have hi:i≤s.length:=by rcases hcase with h|h|h<;>omega
    have d1:decide ((i:Int)≤(s.length:Int))=true:=af (by omega);simp only[WX,Xa,Xb,b48,d1];rw[←ke];refine bG7 Φ hi (by omega) [none,_,none,_,_,_,none,none,none,_,_,_,_,_,_,_,_,_,_,_,_,_,_,_,_,_,_,_,_,_,_,_,_,_,_,_,_,_,_,_,_,_,_,_,_,_,_,_,_,_,_,_,_,_,_,_,_,_,_,_,_,_,_,_,_,_,_,_,_,_,_,_,_,_,_,_,_,_,_,_,_,_,_,_,_,_,_,_,_,_,_,_,_,_,_,_,_,_,_,_,_,_,_,_,_,_,_,_,_,_,_,_,_,_,_,_,_,_,_,_,_,_,_,_,_,_,_] _ ?_ ?_
    ·intro hlt hnc u;simp only[WX,reduceCtorEq,Xd,Xe,q8];refine⟨s.length+1-(i+1),by omega,(hI _ _).2 ⟨i+1,at_,c1,b1,acc,M1,Ls,[none,_,none,_,_,_,none,none,none,_,_,_,_,_,_,_,_,_,_,_,_,_,_,_,_,_,_,_,_,_,_,_,_,_,_,_,_,_,_,_,_,_,_,_,_,_,_,_,_,_,_,_,_,_,_,_,_,_,_,_,_,_,_,_,_,_,_,_,_,_,_,_,_,_,_,_,_,_,_,_,_,_,_,_,_,_,_,_,_,_,_,_,_,_,_,_,_,_,_,_,_,_,_,_,_,_,_,_,_,_,_,_,_,_,_,_,_,_,_,_,_,_,_,_,_,_,_],rfl,rfl,ok1,le1,old1,hA,hm,hL4,?_⟩⟩;rcases hcase with⟨h1,h2,h3⟩|⟨h1,h2,h3,h4⟩|⟨h1,h2⟩
     ·refine .inl ⟨by omega,hlt,?_⟩;rw[h3,KU hlt hnc,oB hlt,List.drop_append_of_le_length (by rw[List.length_take];omega)]
     ·refine .inl ⟨by omega,hlt,?_⟩;rw[h4,h1,show(s.take (i+1)).drop (i+1)=[]from List.drop_eq_nil_of_le (by rw[List.length_take];omega)]
     ·omega
    ·intro hcut u;have hAA:at_≤i∧cC s []=Ls.map kh++cC (s.drop i) ((s.take i).drop at_):=by
      rcases hcase with⟨h1,h2,h3⟩|⟨h1,h2,h3,h4⟩|⟨h1,h2⟩
      ·exact⟨h1,h3⟩
      ·rcases hcut with e|⟨e,_⟩
       ·omega
       ·rw[h3]at e;cases e
      ·omega
     obtain⟨hat,hsp⟩:=hAA;have hmn:=a00 at_ i;rw[Nat.min_eq_left hat]at hmn;have hsl:=Wh s .i64 .i64 at_ i hat hi;have hsp2:∃R,cC s []=Ls.map kh++((s.take i).drop at_::R)∧((i=s.length∧R=[])∨(i+1<s.length∧s[i+1]?=some 32∧R=cC (s.drop (i+2)) [])):=by
      rcases hcut with e|⟨e1,e2⟩
      ·refine⟨[],?_,.inl ⟨e,rfl⟩⟩;rw[hsp,List.drop_eq_nil_of_le (show s.length≤i by omega),cC]
      ·refine⟨_,?_,.inr ⟨?_,e2,rfl⟩⟩
       ·rw[hsp,Wl e1 e2]
       ·obtain⟨k2,_⟩:=List.getElem?_eq_some_iff.1 e2;exact k2
     have htl:((s.take i).drop at_).length≤1000000:=by rw[cM,List.length_take];omega
     have hbad:(∀op d a b im:Int,bQ op d a b im=true→cL op d a b im=(s.take i).drop at_→8192<4*(Ls.length+1))→ ∀l':List UInt8,l'.length≤8192→da l'≠s:=fun hh l' h1 h2=>by
      obtain⟨L',k1,k2,k3,k4⟩:=hPC l' h1 h2;obtain⟨R,k5,_⟩:=hsp2;rw[k4]at k5;have hlen:=congrArg List.length k5;rw[List.length_map,bE,List.length_map,bk]at hlen;have hg:(L'.map kh)[Ls.length]?=some ((s.take i).drop at_):=by rw[k5,List.getElem?_append_right (by rw[List.length_map];exact ah _),List.length_map,Nat.sub_self];rfl
      rw[List.getElem?_map]at hg;obtain⟨x,hx1,hx2⟩:=be.1 hg;have:=hh x.op x.d x.a x.b x.i (k2 x (List.mem_of_getElem? hx1)) hx2;have hb2:=ft L';rw[k3]at hb2;omega
     generalize htt:(s.take i).drop at_=t at hsl htl hbad hsp2;simp only[WX,b45,bZ4,hmn,hsl];refine aB ((r23 Φ p.h62 p.h28 p.h61 p.h52 p.h89 p.h85 p.h112 p.h113 p.h119 p.h84 p.h136 p.h110 p.h23 p.h57 p.h58 p.h60 p.h59 ok1 ht hE1 hE2 (fun g hg=>(gM.old g (by omega)).trans (hlow g hg)) t htl).mono ?_);rintro q M2 c2 ⟨hpp,g2⟩;have ok2:=g2.ok ok1;have g2l:=g2.le;rcases hpp with⟨op,d,a,b,im,hmy,htx,rfl⟩|⟨hno,rfl⟩
     ·have hc0:(M2.set c2 (aK 59 [.i .i64 0,.i .i64 0,.i .i64 0,.i .i64 0,.i .i64 0])).get c2=some (aK 59 [.i .i64 0,.i .i64 0,.i .i64 0,.i .i64 0,.i .i64 0]):=aw _ _ _;have hs1:=bC hc0 0 [.i .i64 op,.i .i64 d,.i .i64 a,.i .i64 b,.i .i64 im] (by simp) rfl;have d0:decide ((0:Int)≠0)=false:=rfl;have l59:=lu (F:=F) (show((M2.set c2 (aK 59 [.i .i64 0,.i .i64 0,.i .i64 0,.i .i64 0,.i .i64 0])).set c2 (aK 59 [.i .i64 op,.i .i64 d,.i .i64 a,.i .i64 b,.i .i64 im])).get c2=some (aK 59 [.i .i64 op,.i .i64 d,.i .i64 a,.i .i64 b,.i .i64 im])from aw _ _ _) 5 rfl;have g3:=(((Gr.refl ok2).set c2 (aK 59 [.i .i64 0,.i .i64 0,.i .i64 0,.i .i64 0,.i .i64 0]) (ah _) (show c2<c2+1 by omega) (by omega)).set c2 (aK 59 [.i .i64 op,.i .i64 d,.i .i64 a,.i .i64 b,.i .i64 im]) (ah _) (show c2<c2+1 by omega) (by omega))
      have hlnA:Dv acc=some (.i .i64 ((cB Ls).length:Int)):=by have:=(hA.sl (F:=F)).len;rwa [List.length_map]at this
      by_cases hbig:8192≤(cB Ls).length
      ·have d5:decide ((8192:Int)≤((cB Ls).length:Int))=true:=af (by omega);simp only[WX,Nat.reduceAdd,IK,Xc,IL,hs1,d0,hlnA,d5];exact⟨.inr ⟨hbad fun _ _ _ _ _ _ _=>by omega,rfl⟩,gM.trans (g2.trans g3)⟩
      ·have d5:decide ((8192:Int)≤((cB Ls).length:Int))=false:=ag (by omega);have e25:=UU (op:=op) (d:=d) (a:=a) (b:=b) (i:=im) (by rw[hmy];rfl);simp only[WX,Nat.reduceAdd,IK,IL,b46,hs1,d0,hlnA,d5,l59,p.h25,e25];generalize(M2.set c2 (aK 59 [.i .i64 0,.i .i64 0,.i .i64 0,.i .i64 0,.i .i64 0])).set c2 (aK 59 [.i .i64 op,.i .i64 d,.i .i64 a,.i .i64 b,.i .i64 im])=M3 at g3⊢;have Ke:=g3.ok ok2;refine aB ((r24 Φ p.h24 Ke (cw op d a b im)).mono ?_);rintro bv M4 c4 ⟨hsb,g4⟩;have g24:=g3.trans g4;have g4l:=g4.le;simp only[WX];have hA4:=hA.gr (g2.trans g24);have hbx:(iT (cw op d a b im)).length=4:=rfl;refine aB ((od (c0:=c) (bytes:=1) hA4 (g4.ok Ke) (by omega) (by decide) hsb (lc _) (eO (by rw[List.length_map,List.length_map,hbl,hbx];omega) (by rw[List.length_map,List.length_map,hbl,hbx];omega))).mono ?_);rintro v' M5 c5 ⟨b5,hA5,Y2,le5,old5⟩;have q9:bu .add (.i .i64 (i:Int)) (.i .i64 2)=some (.i .i64 ((i+2:Nat):Int)):=by rw[bA _ _ (by omega) (by omega)];simp
       simp only[WX,b47,Xd,q8,q9];obtain⟨R,k5,hR⟩:=hsp2;refine⟨s.length+1-(i+1),by omega,(hI _ _).2 ⟨i+1,i+2,c5,b5,v',M5,Ls++[⟨op,d,a,b,im⟩],[none,_,none,_,_,_,none,none,none,_,_,_,_,_,_,_,_,_,_,_,_,_,_,_,_,_,_,_,_,_,_,_,_,_,_,_,_,_,_,_,_,_,_,_,_,_,_,_,_,_,_,_,_,_,_,_,_,_,_,_,_,_,_,_,_,_,_,_,_,_,_,_,_,_,_,_,_,_,_,_,_,_,_,_,_,_,_,_,_,_,_,_,_,_,_,_,_,_,_,_,_,_,_,_,_,_,_,_,_,_,_,_,_,_,_,_,_,_,_,_,_,_,_,_,_,_,_],rfl,rfl,Y2,by omega,fun x hx=>?_,?_,fun x hx=>?_,?_,?_⟩⟩
       ·rw[old5 x hx,g24.old x (by omega),g2.old x (by omega),old1 x hx]
       ·rw[show cB (Ls++[(⟨op,d,a,b,im⟩:nc)])=cB Ls++iT (cw op d a b im)from sO _ _,List.map_append];exact hA5
       ·rcases List.mem_append.1 hx with hx|hx
        ·exact hm x hx
        ·rw[List.mem_singleton.1 hx];exact hmy
       ·rw[bE,List.length_singleton];omega
       ·have hmp:(Ls++[(⟨op,d,a,b,im⟩:nc)]).map kh=Ls.map kh++[t]:=by rw[List.map_append,←htx];rfl
        rw[hmp,k5];rcases hR with⟨e1,e2⟩|⟨e1,e2,e3⟩
        ·exact .inr (.inr ⟨by omega,by rw[e2]⟩)
        ·exact .inr (.inl ⟨rfl,e1,e2,by rw[e3,kz];rfl⟩)
     ·have d4:decide ((4:Int)≠0)=true:=rfl;simp only[WX,Nat.reduceAdd,Nat.reduceLeDiff,IK,Xc,IL,d4];exact⟨.inr ⟨hbad fun op d a b im h1 h2=>absurd h2 (hno op d a b im h1),rfl⟩,(gM.trans g2).set c2 _ (by omega) (by omega) (by omega)⟩
  by_cases h0:0<s.length
  ·have d0:decide ((0:Int)<(s.length:Int))=true:=af (by omega);have x0:=tU s .i64 0 h0;rw[Int.ofNat_zero,bV]at x0
   have hb:s[0].toNat≠58:=fun e=>by
    have e':s[0]=58:=UInt8.toNat_inj.1 e;have:=eS h0;rw[List.drop_zero,e']at this;exact h59 _ this
   have d1:decide ((s[0].toNat:Int)=58)=false:=ag (by omega);simp only[WX,e7,bn3,bn4,bn5,d0,x0,d1];exact start [none,_,none,none,_,_,_,_,_,_,_,_,_,_,_,_,_,_,_,_,_,_,_,_,_,_,_,_,_,_,_,_,_,_,_,_,_,_,_,_,_,_,_,_,_,_,_,_,_,_,_,_,_,_,_,_,_,_,_,_,_,_,_,_,_,_,_,_,_,_,_,_,_,_,_,_,_,_,_,_,_,_,_,_,_,_,_,_,_,_,_,_,_,_,_,_,_,_,_,_,_,_,_,_,_,_,_,_,_,_,_,_,_,_,_,_,_,_,_,_,_,_,_,_,_,_,_]
  ·have d0:decide ((0:Int)<(s.length:Int))=false:=ag (by omega);simp only[WX,e7,bn3,bn4,bn5,d0];exact start [none,_,none,none,_,_,_,_,_,_,_,_,_,_,_,_,_,_,_,_,_,_,_,_,_,_,_,_,_,_,_,_,_,_,_,_,_,_,_,_,_,_,_,_,_,_,_,_,_,_,_,_,_,_,_,_,_,_,_,_,_,_,_,_,_,_,_,_,_,_,_,_,_,_,_,_,_,_,_,_,_,_,_,_,_,_,_,_,_,_,_,_,_,_,_,_,_,_,_,_,_,_,_,_,_,_,_,_,_,_,_,_,_,_,_,_,_,_,_,_,_,_,_,_,_,_,_]
def bB6:CC:=(.reg [(qq a3 (.mv z0)),(qq a2 (.mv z3))])
def bB7:CC:=(.seq (.reg [(qq a2 (.mv (x6 0)))]) (.seq bB6 .ret))
def c9:CF:= .mk 3 [.t a2] bB7
theorem e9(v0:V):aS 3 [v0]=(.n mN (some v0) mN):=rfl
def B9:=ai @e9 (ai (wu bB6.eq_1) (wu bB7.eq_1))
def bx6:CC:=(.reg [(qq a4 (.mv xF))])
def cB5:=wu bx6.eq_1
def bx7:CC:=(.reg [(qq cH (.mv z0)),(qq db (.ln .slice cR)),(qq du (.bi .gtr dD (x6 9000))),(qq dE (.mv dj)),(aL dO (.mv z1) dE),(aL dY (.ln .str dM) dE),(aL eg (.bi .gtr ey (x6 60000)) dE),(qq eQ (.pk dQ xT eV))])
def cB6:=wu bx7.eq_1
def bx8:CC:=(.reg [(ee dP (.call 4 [])),(qq a4 (.mv fm))])
def cB7:=wu bx8.eq_1
def bx9:CC:=(.seq bx7 (.cond eW (.seq bx8 .ret) .skip))
def cB8:=wu bx9.eq_1
def by0:CC:=(.reg [(qq eB (.mv z0)),(ee ec (.app 5 1 1 (.c .l0) eX)),(aa dH (.bsl 5 1 1 [(.i .u8 0)] [(0,(.c (.i .u8 119)))])),(ee eR (.app 5 1 1 fG fH)),(qq a5 (.mv fJ))])
def cB9:=wu by0.eq_1
def by1:CC:=(.reg [(qq eD (.mv z5)),(qq eJ (.mv z0)),(qq fk (.ln .slice fL)),(qq eE (.slL 1 fK none (some g9) none)),(ee eY (.call 5 [gA])),(qq a6 (.mv gC))])
def cC0:=wu by1.eq_1
def by2:CC:=(.reg [(qq fo (.mv z1)),(ee gu (.call 6 [iE])),(qq gH (.mv j1)),(qq gh (.ex 0 gD)),(qq iq (.ex 1 gD)),(qq a7 (.mv ji)),(qq a8 (.mv jj))])
def cC1:=wu by2.eq_1
def by3:CC:=(.reg [(qq iO (.mv z1)),(ee ib (.call 7 [jk])),(qq j3 (.mv kf)),(qq j4 (.ex 0 jz)),(qq gJ (.ex 1 jz)),(qq a9 (.mv kq)),(qq cg (.mv kO))])
def cC2:=wu by3.eq_1
def by4:CC:=(.reg [(qq jL (.mv z5)),(qq ja (.bs kr)),(qq jA (.mv z0)),(qq jB (.bs lJ)),(qq kl (.bi .add lM (.c (.s 1 119)))),(qq kg (.bi .neq l5 mE)),(qq km (.mv mR)),(aL jb (.mv z6) km),(aL ga (.mv z0) km),(tM mU (.call 8 [mS]) km),(aL ko (.bi .neq n6 oG) km),(qq jC (.pk lN xT oH)),(qq ig (.mv pq)),(aL lK (.mv z7) ig),(aL nh (.bs qc) ig),(aL ky (.mv z9) ig),(aL l6 (.bs oM) ig),(aL lL (.bi .neq pv qd) ig),(qq oO (.pk oL xT qf)),(qq n7 (.mv rv)),(aL l7 (.mv z8) n7),(tM oJ (.call 9 [rB]) n7),(aL ni (.mv cj) n7),(aL oP (.bi .neq ry rz) n7),(qq oK (.pk rx xT ww)),(qq nj (.mv sE)),(aL oQ (.mv cj) nj),(aL lP (.bi .eql uu (x6 0)) nj),(aL nk (.mv uv) nj),(ak sI (.mv z7) nk),(ed sJ (.call 5 [uw]) nk),(ak rF (.mv z1) nk),(ak uE (.bi .neq wy wU) nk),(aL wC (.pk u7 wV xF) nj),(qq wH (.pk u6 xT A2))])
def cC3:=wu by4.eq_1
def ay0:CC:=(.reg [(qq a4 (.mv xF))])
def bZ8:=wu ay0.eq_1
def ay1:CC:=(.cond A3 (.seq ay0 .ret) .skip)
def X4:=wu ay1.eq_1
def PL:CC:=(.reg [(qq sK (.mv z0)),(qq x5 (.ln .slice A4)),(qq Ad (.bi .gtr C2 (x6 8192)))])
def bZ9:=wu PL.eq_1
def ay2:CC:=(.reg [(qq Ae (.mv z6)),(qq yG (.bi .eql IY (.c (.s 0 0)))),(qq yH (.mv IZ)),(ed Cm (.call 4 []) yH),(qq Cn (.pk XQ Lk xF)),(qq a4 (.mv XR))])
def c00:=wu ay2.eq_1
def PM:CC:=(.cond ER (.seq ay2 .ret) .skip)
def c01:=wu PM.eq_1
def PN:CC:=(.reg [(qq EY (.mv z6)),(ee EZ (.call 6 [Lw])),(qq uF (.mv Lm)),(qq F2 (.ex 0 Ll)),(qq F3 (.ex 1 Ll)),(qq cI (.mv XS)),(qq de (.mv XT))])
def c02:=wu PN.eq_1
def PO:CC:=(.reg [(qq A1 (.mv cD)),(qq F4 (.bs XU)),(qq F5 (.mv z0)),(qq F6 (.bs Ln)),(qq F7 (.bi .eql XV XW)),(qq Co (.mv XX)),(ak F8 (.mv cS) Co),(ed Lq (.call 9 [z95]) Co),(ak Lr (.bi .eql XY (x6 0)) Co),(qq Lt (.pk Y4 z97 xF)),(qq Jk (.mv z98)),(ed tB (.call 4 []) Jk),(qq oI (.pk Y5 A0 xF)),(qq a4 (.mv wv))])
def c03:=wu PO.eq_1
def ay3:CC:=(.seq (.seq by4 ay1) (.seq (.seq PL PM) (.seq PN (.seq PO .ret))))
def c04:=wu ay3.eq_1
def ay4:CC:=(.seq bx9 (.seq by0 (.seq by1 (.seq by2 (.seq by3 ay3)))))
def c05:=wu ay4.eq_1
def c3:CF:= .mk 7 [.t a4] (.seq bx6 ay4)
theorem e3(v0 v1:V):aS 7 [v0,v1]=(.n (.n mr (some v1) mr) (some v0) tk):=rfl
def B3:=ai @e3 (ai @cB5 (ai @cB6 (ai @cB7 (ai @cB8 (ai @cB9 (ai @cC0 (ai @cC1 (ai @cC2 (ai @cC3 (ai @bZ8 (ai @X4 (ai @bZ9 (ai @c00 (ai @c01 (ai @c02 (ai @c03 (ai @c04 (@c05))))))))))))))))))
theorem l9.take{F:RO}{M:Mem}{c:Nat}{v:V}{l:List UInt8}(h:l9 F M c v l)(k:Nat)(hk:k≤l.length):∃v',zN 1 v none (some (.i .i64 (k:Int))) none=some v'∧l9 F M c v' (l.take k):=by
 obtain⟨v3,⟨_,hsl,_,_⟩,hs3⟩:=E7 (lo:=0) (hi:=k) h (aM _) (by simp;exact hk)
 refine⟨v3,congrArg QR.val (hsl rfl),?_⟩
 rw[List.drop_zero,←List.map_take]at hs3;exact hs3
theorem t9(Φ:Nat→Option CF)(h:Φ 9=some c9)(z:Int)(ct:Nat):To Φ 9 [.i .i64 z] ct (.i .i64 z):=by
 refine bL h ?_
 simp only[WX,B9]
def h9:List V→Option V
 |[.i .i64 z]=>some (.i .i64 z)
 |_=>none
theorem bM5(z:Int):h9 [.i .i64 z]=some (.i .i64 z):=rfl
theorem Kp{l:List UInt8}(hl:l.length≤8192):(da l).length≤400000:=by
 rcases k8 hl with e|⟨L,h1,h2,h3,e⟩
 ·rw[e,bk];unfold gG;split
  ·simp
  ·rw[gS];omega
 ·rw[e];have k1:=ot [44,32] (L.map kh);have k2:=zR L h2;have k3:=ft L;rw[h3]at k3;rw[List.length_map,show[(44:UInt8),32].length=2 from rfl]at k1;omega
theorem Wx{F:RO}{M M':Mem}{c c':Nat}{s:List UInt8}{r r':V}(h:UnP F M c s r)(h':UnP F M' c' s r'):(∃v v' l,r= .t [v,.i .i64 0]∧r'= .t [v',.i .i64 0]∧l9 F M c v l∧l9 F M' c' v' l∧l.length≤8192∧da l=s)∨(r= .t [.l0,.i .i64 4]∧r'= .t [.l0,.i .i64 4]):=by
 rcases h with⟨v,l,e,h1,h2,h3⟩|⟨h1,e⟩<;>rcases h' with⟨v',l',e',h1',h2',h3'⟩|⟨h1',e'⟩
 ·have:=Bc h2 h2' (h3.trans h3'.symm);subst this;exact .inl ⟨v,v',l,e,e',h1,h1',h2,h3⟩
 ·exact absurd h3 (h1' l h2)
 ·exact absurd h3' (h1 l' h2')
 ·exact .inr ⟨e,e'⟩
theorem l3(Φ:Nat→Option CF)(h:Φ 3=some c3){L:List gF}{KN:RO→List V→Mem→Nat→RC}(h4:Φ 4=some (.orc KN))(h9':Φ 9=some (.orc (aj h9)))(p:SP Φ L)(p6:Φ 6=some c6)(p7:Φ 7=some c7)(pr:RP Φ L){F:RO}{M:Mem}{c:Nat}{v:V}{bs s:List UInt8}(hkn:∀M c,KN F [] M c= .k (.b true) M c)(ok:eA F M c)(hs:l9 F M c v bs)(hlow:∀g,g<1000→M.get g=none)(ht:bB F L=true)(hE1:bF F 1)(hE2:bF F 2)(hX:Cb F):
 Calls Φ F 3 [v,sV s] M c fun r _ _=>r= .b true:=by
 refine ax h ?_
 have hln:=hs.len
 by_cases h1:9000<bs.length
 ·have d1:decide ((9000:Int)<(bs.length:Int))=true:=af (by omega);simp only[WX,B3,hln,d1,h4,hkn]
 have d1:decide ((9000:Int)<(bs.length:Int))=false:=ag (by omega)
 by_cases h2:60000<s.length
 ·have d2:decide ((60000:Int)<(s.length:Int))=true:=af (by omega);simp only[WX,B3,hln,d1,d2,h4,hkn]
 have d2:decide ((60000:Int)<(s.length:Int))=false:=ag (by omega)
 have q0:∀t:List UInt8,bu .neq (sV t) (sV t)=some (.b false):=fun t=>by have:=np t t;rwa [af rfl]at this
 have q1:bu .add (sV bs) (.s 1 119)=some (sV (bs++[119])):=eK bs [119] (by rw[List.length_singleton];omega)
 simp only[WX,B3,hln,d1,d2]
 refine aB ((od (c0:=c) (b:=0) (es:=[]) cu.nil ok (ah _) (by decide) hs (lc _) (eO (by rw[List.length_map,cF];omega) (by rw[List.length_map,cF];omega))).mono ?_)
 rintro v1 M1 c1 ⟨b1,hA1,ok1,le1,o1⟩
 rw[List.nil_append]at hA1
 have gX:=(Gr.refl ok1).set c1 (eU [.i .u8 0] 5 [.i .u8 119]) (ah _) (bD _) (bU _)
 have hy:cU F (M1.set c1 (eU [.i .u8 0] 5 [.i .u8 119])) (c1+1) 1 (.l c1 0 1 1) ([(119:UInt8)].map fun x=>[bV x]):=E6 (d:=[.i .u8 0]) (ty:=5) (aw _ _ _) (by omega) (fun e he=>by obtain⟨x,_,rfl⟩:=List.mem_map.1 he;rfl) rfl
 simp only[WX]
 refine aB ((od (c0:=c) (hA1.gr gX) (gX.ok ok1) (by omega) (by decide) hy rfl (eO (by rw[List.length_map,List.length_map,List.length_singleton];omega) (by rw[List.length_map,List.length_map,List.length_singleton];omega))).mono ?_)
 rintro v2 M2 c2 ⟨b2,hA2,ok2,le2,o2⟩
 rw[←List.map_append]at hA2
 have g2:Gr c M c2 M2:=⟨by omega,fun x hx=>(o2 x hx).trans ((gX.old x (by omega)).trans (o1 x hx)),ok2.hiM⟩
 have hv2:l9 F M2 c2 v2 (bs++[119]):=hA2.sl
 obtain⟨v4,e4,hs4⟩:=hv2.take bs.length (by simp)
 rw[List.take_left]at hs4
 simp only[WX,B3,hln,e4]
 refine aB ((r5 Φ p.h5 p.toLP ok2 ht hs4).mono ?_)
 rintro r M3 c3 ⟨rfl,g3⟩
 have Ke:=g3.ok ok2
 have g23:=g2.trans g3
 simp only[WX,B3]
 refine aB ((r6 Φ p6 p Ke ht hE1 hE2 hX (fun g hg=>(g23.old g (by have:=ok.ge;omega)).trans (hlow g hg)) s (by omega)).mono ?_)
 rintro r M4 c4 ⟨u1,g4⟩
 have ok4:=g4.ok Ke
 have g24:=g23.trans g4
 have hl4:∀g,g<1000→M4.get g=none:=fun g hg=>(g24.old g (by have:=ok.ge;omega)).trans (hlow g hg)
 have uf:∃v5 e,r= .t [v5,.i .i64 e]:=by
  rcases u1 with⟨a,l,e,_⟩|⟨_,e⟩
  ·exact⟨_,_,e⟩
  ·exact⟨_,_,e⟩
 obtain⟨v5,z5,rfl⟩:=uf
 simp only[WX,B3]
 refine aB ((r7 Φ p7 pr ok4 ht hE1 hE2 hl4 s (by omega)).mono ?_)
 rintro r M5 c5 ⟨u2,g5⟩
 have Y2:=g5.ok ok4
 have g25:=g24.trans g5
 have uf:∃v6 e,r= .t [v6,.i .i64 e]:=by
  rcases u2 with⟨a,l,e,_⟩|⟨_,e⟩
  ·exact⟨_,_,e⟩
  ·exact⟨_,_,e⟩
 obtain⟨v6,z6,rfl⟩:=uf
 have bo:=oW (hv2.grow ((g3.trans g4).trans g5))
 have bb:=oW (hs.grow g25)
 simp only[WX,B3,bo,bb,q0,q1]
 refine aB ((r8 Φ pr Y2 ht (hs.grow g25)).mono ?_)
 rintro r M6 c6 ⟨rfl,g6⟩
 have ok6:=g6.ok Y2
 have g26:=g25.trans g6
 have e9:=bM5
 have k0:decide ((0:Int)≠0)=false:=rfl
 have k4:decide ((4:Int)≠4)=false:=rfl
 have z0:decide ((0:Int)=0)=true:=rfl
 have z4:decide ((4:Int)=0)=false:=rfl
 have fin:∀(u:List (Option V)) M7 c7,Gr c6 M6 c7 M7→Wp ((PL.seq PM).seq (PN.seq (PO.seq .ret))) (K Φ none 3 F) (.mk ((.n (.n (.n (.n (ay u 63 31 95 15 79 47 111) (uO u 7) (ay u 71 39 103 23 87 55 119)) (uO u 3) (.n (ay u 67 35 99 19 83 51 115) (uO u 11) (ay u 75 43 107 27 91 59 123))) (some (sV s)) (.n (.n (ay u 65 33 97 17 81 49 113) (uO u 9) (ay u 73 41 105 25 89 57 121)) (uO u 5) (.n (ay u 69 37 101 21 85 53 117) (uO u 13) (ay u 77 45 109 29 93 61 125)))) (some (v)) (.n (.n (.n (ay u 64 32 96 16 80 48 112) (uO u 8) (ay u 72 40 104 24 88 56 120)) (uO u 4) (.n (ay u 68 36 100 20 84 52 116) (uO u 12) (ay u 76 44 108 28 92 60 124))) (uO u 2) (.n (.n (ay u 66 34 98 18 82 50 114) (uO u 10) (ay u 74 42 106 26 90 58 122)) (some (sV (da bs))) (.n (ay u 70 38 102 22 86 54 118) (uO u 14) (ay u 78 46 110 30 94 62 126)))))) [] M7 c7) (j5 F [.t (.r (.l .h))] fun r _ _=>r= .b true):=by
  intro u M7 c7 g7;have ok7:=g7.ok ok6;have g27:=g26.trans g7;by_cases hb:8192<bs.length
  ·have d3:decide ((8192:Int)<(bs.length:Int))=true:=af (by omega);have hp:sV (da bs)= .s 0 0:=by unfold da;rw[ac hb];rfl
   have zz:bu .eql (.s 0 0) (.s 0 0)=some (.b true):=(by have:=lU [] [];rwa [af rfl]at this)
   rw[hp];simp only[WX,B3,hln,d3,zz,h4,hkn]
  ·have d3:decide ((8192:Int)<(bs.length:Int))=false:=ag (by omega);simp only[WX,B3,hln,d3];refine aB ((r6 Φ p6 p ok7 ht hE1 hE2 hX (fun g hg=>(g27.old g (by have:=ok.ge;omega)).trans (hlow g hg)) (da bs) (Kp (by omega))).mono ?_);rintro r M8 c8 ⟨u3,g8⟩;rcases u3 with⟨v8,l,rfl,y1,y2,y3⟩|⟨h,_⟩
   ·have:=Bc y2 (by omega) y3;subst this;have b8:=oW y1;have b9:=oW (hs.grow (g27.trans g8));have e0:bu .eql (sV l) (sV l)=some (.b true):=(by have:=lU l l;rwa [af rfl]at this)
    simp only[WX,B3,b8,b9,e0,h9',e9,h4,hkn]
   ·exact absurd rfl (h bs (by omega))
 rcases Wx u1 u2 with⟨w5,w6,l,e1,e2,y1,y2,y3,y4⟩|⟨e1,e2⟩
 ·injection e1 with e1;injection e1 with e1 e1';injection e1' with e1' _;injection e1' with _ e1'
  injection e2 with e2;injection e2 with e2 e2';injection e2' with e2' _;injection e2' with _ e2'
  subst e1 e1' e2 e2';have b5:=oW (y1.grow (g5.trans g6));have b6:=oW (y2.grow g6);simp only[WX,q0,b5,b6,h9',e9,k0];refine aB ((r5 Φ p.h5 p.toLP ok6 ht (y1.grow (g5.trans g6))).mono ?_);rintro r M7 c7 ⟨rfl,g7⟩;rw[y4];simp only[WX,X4,q0];rw[←ke,←ke];exact fin [none,none,_,_,_,_,none,_,_,_,_,_,_,_,_,_,_,_,_,_,_,_,_,_,_,_,_,_,_,_,_,_,_,_,_,_,_,_,_,_,_,_,_,_,_,_,_,_,_,_,_,_,_,_,_,_,_,_,_,_,_,_,_,_,_,_,_,_,_,_,_,_,_,_,_,_,_,_,_,_,_,_,_,_,_,_,_,_,_,_,_,_,_,_,_,_,_,_,_,_,_,_,_,_,_,_,_,_,_,_,_,_,_,_,_,_,_,_,_,_,_,_,_,_,_,_,_] _ _ g7
 ·injection e1 with e1;injection e1 with e1 e1';injection e1' with e1' _;injection e1' with _ e1'
  injection e2 with e2;injection e2 with e2 e2';injection e2' with e2' _;injection e2' with _ e2'
  subst e1 e1' e2 e2';have b0:∀M,bsV F M .l0=some (sV []):=fun M=>oW (c:=0) (l:=[]) (cu.nil (ty:=5) (b:=0) (c0:=0)).sl;simp only[WX,Int.reduceEq,X4,q0,b0,h9',e9,k4];rw[←ke,←ke];exact fin [none,none,_,_,_,_,none,_,_,_,_,_,_,_,_,_,_,_,_,_,_,_,_,_,_,_,_,_,_,_,_,_,_,_,_,_,_,_,_,_,_,_,_,_,_,_,_,_,_,_,_,_,_,_,_,_,_,_,_,_,_,_,_,_,_,_,_,_,_,_,_,_,_,_,_,_,_,_,_,_,_,_,_,_,_,_,_,_,_,_,_,_,_,_,_,_,_,_,_,_,_,_,_,_,_,_,_,_,_,_,_,_,_,_,_,_,_,_,_,_,_,_,_,_,_,_,_] _ _ (Gr.refl ok6)
theorem Ap(l:List UInt8):bd (fun _=>False) (iR l):=by
 unfold iR
 split
 ·split<;>exact⟨trivial,trivial,trivial⟩
 ·exact⟨trivial,trivial,trivial⟩
theorem ZY{F:RO}(h:(rZ F).isSome=true):Cb F:=Vq h
section
variable{P:Program}(hm:P.follows .mixedOrders=true){Φ:Nat→Option CF}(hΦ:eC P Φ)
include hm hΦ
theorem o9(h:Φ 9=some c9):bg P 9 (aj h9):=bK hm hΦ (by
 intro args v ct hv hct;unfold h9 at hv;split at hv
 ·obtain rfl:=ae hv;exact⟨trivial,t9 Φ h _ _⟩
 ·cases hv)
theorem o56(h:Φ 56=some c56):bg P 56 (aj h56):=bK hm hΦ (by
 intro args v ct hv hct;unfold h56 at hv;split at hv
 ·obtain⟨b,rfl,hv1⟩:=Ub hv;obtain rfl:=ae hv1;exact⟨trivial,t56 Φ h _ _⟩
 ·cases hv)
theorem o47(h:Φ 47=some c47)(xO:Φ 83=some (.orc (aj xO))):bg P 47 (aj HG):=bK hm hΦ (by
 intro args v ct hv hct;unfold HG at hv;split at hv
 ·obtain⟨l,rfl,hv1⟩:=jc hv;obtain rfl:=ae hv1;exact⟨Ap _,t47 Φ h xO _ _⟩
 ·cases hv)
theorem o17(h:Φ 17=some c17)(h47':Φ 47=some (.orc (aj HG))):bg P 17 (aj HG):=bK hm hΦ (by
 intro args v ct hv hct;unfold HG at hv;split at hv
 ·obtain⟨l,rfl,hv1⟩:=jc hv;obtain rfl:=ae hv1;exact⟨Ap _,t17 Φ h h47' _ _⟩
 ·cases hv)
end
end
end Go.Proofs.YtkcelmimbmbfkaaGreatDoor.Ev
