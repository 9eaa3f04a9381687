/- What is proved here: pieces of the evaluator's soundness: if the evaluator comes to a value, the model's run comes to it, for every world and tape; no conditions beyond the hypotheses of each theorem. -/
import Derived.Test.YtakeaojhkcbheaaGreatDoorEv6
set_option linter.unusedSimpArgs false
set_option linter.unusedVariables false
set_option linter.defProp false
set_option maxRecDepth 10000
set_option maxHeartbeats 8000000
namespace Go.Proofs.YtakeaojhkcbheaaGreatDoor.Ev
open Go
noncomputable section
def uL(t:T)(n:Nat):List (Option V):=List.rec [] (fun i _ r=>t.get i::r) (List.range n)
def bd8:CC:= .seq b8_1 b8_40
def bd9:CC:= .seq b9_1 (.seq b9_4 b9_18)
def bd7:CC:= .seq b7_2 (.seq b7_3 (.seq b7_4 (.seq b7_5 b7_26)))
theorem ck_rd{Φ:Nat→Option CF}{tabs:List Tab}{fuel:Nat}{s:Rd}{w:Ws}{bx ab n:Nat}{line:List UInt8}{row:List V}{y0 y1 y2 y3 y4:V}(h9:Φ 9=some c9)
 (h27:∀F M c,Calls Φ F 27 [.g row] M c fun v M' c'=>v= .t [sV line,.b true]∧M'=M∧c'=c) (hrow:row.length=5) (hr1:allOne row=true)
 (hrun:∀ty,pcRun Φ fuel 9 (tabF tabs ty) (pre 1 bd9) (ws0 6 s) .nrm w=true)
 (ht:∀u,u=uL w.t 64→treq w.t ((.n (.n (.n (uv7 u 31 15 47 7 39 23 55) (uO u 3) (uv7 u 35 19 51 11 43 27 59)) (some (.p bx 0)) (.n (uv7 u 33 17 49 9 41 25 57) (uO u 5) (uv7 u 37 21 53 13 45 29 61))) (uO u 0) (.n (.n (uv7 u 32 16 48 8 40 24 56) (uO u 4) (uv7 u 36 20 52 12 44 28 60)) (uO u 2) (.n (uv7 u 34 18 50 10 42 26 58) (uO u 6) (uv7 u 38 22 54 14 46 30 62)))))=true)
 (tb:tabB tabs=true) (nm:nmB 1000 s.c s.m0=true) (hc:Nat.ble 1000 s.c=true) (h0:holds (setAll .e s.m0) s.m0=true) (hg:grB s.m0 w s.c=true) (hbx:Nat.blt bx w.c=true) (hab:Nat.blt ab s.c=true)
 (hx:holds (w.mem) [(bx,rowB 40 [y0,y1,y2,y3,y4,.u ab 0 n 0 n])]=true) (ha:holds (setAll .e s.m0) [(ab,rowU 45 (List.replicate n row).flatten)]=true)
 (hn:n≤1048576) (hv:s.v=if n≤4096 then .t [.i .i64 0,.i .i64 0]else .t [.i .i64 0,.i .i64 3]):RdOk Φ tabs 9 s:=by
 intro ty
 have hC:Calls Φ (tabF tabs ty) 9 s.args (setAll .e s.m0) s.c fun v M' c'=>v=(if n≤4096 then .t [.i .i64 0,.i .i64 0]else .t [.i .i64 0,.i .i64 3])∧Gr s.c (setAll .e s.m0) c' M':=by
  refine calls_walk h9 ?_;refine wp_pre (cc:=bd9) 1 (s:=(ws0 6 s)) (hrun ty) ?_;have e:w.st= .mk w.t [] (w.mem) w.c:=rfl;rw[e,treq_eq _ _ (ht _ rfl)];rw[bltN]at hbx;exact ck_end Φ (F:=tabF tabs ty) (h27 _) hrow hr1 (okm_w tb nm hc) (gr_w hg) (of_decide_eq_true hbx) (load_row (get_w hx) 5) (sl_w ha hab hrow) hn (uL w.t 64)
 exact hC.mono fun v M' c' ⟨e,g⟩=>⟨e.trans hv.symm,kept_w g nm h0⟩
theorem tx_rd{Φ:Nat→Option CF}{tabs:List Tab}{fuel:Nat}{s:Rd}{w:Ws}{bx b bb ab n len x cap:Nat}{line:List UInt8}{row:List V}{y0 y1 y2 y3 y4:V}(h8:Φ 8=some c8)(h21:Φ 21=some c21)(h22:Φ 22=some c22)(h23:Φ 23=some c23)(h52:Φ 52=some c52)(h28:Φ 28=some c28)(h29:Φ 29=some c29)
 (h27:∀F M c,Calls Φ F 27 [.g row] M c fun v M' c'=>v= .t [sV line,.b true]∧M'=M∧c'=c) (hrow:row.length=5) (hr1:allOne row=true)
 (hrun:∀ty,pcRun Φ fuel 8 (tabF tabs ty) (pre 7 bd8) (ws0 7 s) .nrm w=true)
 (ht:∀u,u=uL w.t 128→treq w.t ((.n (.n (.n (.n (uv7 u 63 31 95 15 79 47 111) (some (.f 21 [] [.p b 0])) (uv7 u 71 39 103 23 87 55 119)) (uO u 3) (.n (uv7 u 67 35 99 19 83 51 115) (uO u 11) (uv7 u 75 43 107 27 91 59 123))) (some (.p bx 0)) (.n (.n (uv7 u 65 33 97 17 81 49 113) (uO u 9) (uv7 u 73 41 105 25 89 57 121)) (uO u 5) (.n (uv7 u 69 37 101 21 85 53 117) (uO u 13) (uv7 u 77 45 109 29 93 61 125)))) (uO u 0) (.n (.n (.n (uv7 u 64 32 96 16 80 48 112) (uO u 8) (uv7 u 72 40 104 24 88 56 120)) (uO u 4) (.n (uv7 u 68 36 100 20 84 52 116) (uO u 12) (uv7 u 76 44 108 28 92 60 124))) (uO u 2) (.n (.n (uv7 u 66 34 98 18 82 50 114) (uO u 10) (uv7 u 74 42 106 26 90 58 122)) (some (.p b 0)) (.n (uv7 u 70 38 102 22 86 54 118) (uO u 14) (uv7 u 78 46 110 30 94 62 126))))))=true)
 (tb:tabB tabs=true) (nm:nmB 1000 s.c s.m0=true) (hc:Nat.ble 1000 s.c=true) (h0:holds (setAll .e s.m0) s.m0=true) (hg:grB s.m0 w s.c=true) (hab:Nat.blt ab s.c=true)
 (hx:holds (w.mem) [(bx,rowB 40 [y0,y1,y2,y3,y4,.u ab 0 n 0 n])]=true) (ha:holds (setAll .e s.m0) [(ab,rowU 45 (List.replicate n row).flatten)]=true)
 (hb:holds (w.mem) [(b,rowB 69 [.p b 0,.u bb 0 len 0 cap])]=true) (hbb:holds (w.mem) [(bb,rowP 5 cap ((bl len x).map bV))]=true)
 (nb:(Nat.ble s.c b&&Nat.blt b w.c)&&((Nat.ble s.c bb&&Nat.blt bb w.c)&&(Nat.ble len cap&&(Nat.blt 0 cap&& !Nat.beq b bb)))=true)
 (hn:n≤1048576) (hsz:len+n*(line.length+1)≤1073741823) (hv:s.v=if len+n*(line.length+1)≤1048576 then .t [sV (bl len x++(List.replicate n (line++[10])).flatten),.i .i64 0]else .t [.s 0 0,.i .i64 3]):RdOk Φ tabs 8 s:=by
 intro ty
 have hC:Calls Φ (tabF tabs ty) 8 s.args (setAll .e s.m0) s.c fun v M' c'=>v=(if len+n*(line.length+1)≤1048576 then .t [sV (bl len x++(List.replicate n (line++[10])).flatten),.i .i64 0]else .t [.s 0 0,.i .i64 3])∧Gr s.c (setAll .e s.m0) c' M':=by
  refine calls_walk h8 ?_;refine wp_pre (cc:=bd8) 7 (s:=(ws0 7 s)) (hrun ty) ?_;have e:w.st= .mk w.t [] (w.mem) w.c:=rfl;rw[e,treq_eq _ _ (ht _ rfl)];simp only[Bool.and_eq_true,bltN,bleN,decide_eq_true_eq,Bool.not_eq_true',beqN,decide_eq_false_iff_not]at nb;obtain⟨⟨n1,n2⟩,⟨n3,n4⟩,n5,n6,n7⟩:=nb;have hB:BldAt (w.mem) s.c w.c b bb (bl len x):=⟨n1,n2,n7,.p b 0,.u bb 0 len 0 cap,get_w hb,.inr rfl,.inr ⟨n3,n4,cap,⟨by rw[bl_length];exact n5,n6⟩,by rw[bl_length],get_w hbb⟩⟩
  have hq:=tx_end Φ (F:=tabF tabs ty) h21 h22 h23 h52 h28 h29 (h27 _) hrow hr1 (okm_w tb nm hc) (gr_w hg) hB (load_row (get_w hx) 5) (sl_w ha hab hrow) hn (by rw[bl_length];exact hsz) (uL w.t 128);rw[bl_length]at hq;exact hq
 exact hC.mono fun v M' c' ⟨e,g⟩=>⟨e.trans hv.symm,kept_w g nm h0⟩
theorem ps_rd{Φ:Nat→Option CF}{tabs:List Tab}{fuel:Nat}{s:Rd}{w1 w:Ws}{b2 b5 b6 n0 rn rx:Nat}{line:List UInt8}{row r2 r6:List V}{x0 x1 x2 x3 x4:V}(h7:Φ 7=some c7)(h19:Φ 19=some c19)(h47:Φ 47=some c47)(h69:Φ 69=some c69)(h96:Φ 96=some c96)
 (h20:∀F M c,Calls Φ F 20 [sV line] M c fun v M' c'=>v= .t [.g row,.i .i64 0]∧M'=M∧c'=c) (hrow:row.length=5) (hr1:allOne row=true) (hl:(10:UInt8)∉line) (hl2:line.length≤20000)
 (hm0:s.m0=[])
 (hrun1:∀ty,pcRun Φ fuel 7 (tabF tabs ty) b7_1 (ws0 6 s) .nrm w1=true)
 (hrun:∀ty,pcRun Φ fuel 7 (tabF tabs ty) (pre 7 bd7) w1 .nrm w=true)
 (hrest:sV (List.replicate 4097 (line++[10])).flatten= .s rn rx)
 (ht:∀u,u=uL w.t 64→treq w.t ((.n (.n (.n (uv7 u 31 15 47 7 39 23 55) (uO u 3) (.n (uv3 u 35 19 51) (some (.s rn rx)) (uv3 u 43 27 59))) (uO u 1) (.n (uv7 u 33 17 49 9 41 25 57) (some (.p b5 0)) (uv7 u 37 21 53 13 45 29 61))) (uO u 0) (.n (.n (uv7 u 32 16 48 8 40 24 56) (uO u 4) (uv7 u 36 20 52 12 44 28 60)) (some (.p b2 0)) (.n (.n (uv3 u 34 18 50) (some (.i .i64 (.ofNat n0))) (uv3 u 42 26 58)) (some (.p b6 0)) (uv7 u 38 22 54 14 46 30 62)))))=true)
 (tb:tabB tabs=true) (hc:Nat.ble 1000 s.c=true) (hg:grB s.m0 w s.c=true)
 (m2:holds (w.mem) [(b2,rowB 40 r2)]=true) (l2:r2.length=6) (m5:holds (w.mem) [(b5,rowB 40 [x0,x1,x2,x3,x4,.l0])]=true) (m6:holds (w.mem) [(b6,rowB 45 r6)]=true) (l6:r6.length=5)
 (nb:(Nat.ble s.c b2&&Nat.blt b2 b5)&&((Nat.blt b5 b6&&Nat.blt b6 w.c)&&Nat.ble n0 100000)=true)
 (hv:s.v= .t [.g [.i .i64 0,.i .i64 0,.l0,.l0,.l0,.l0],.i .i64 ((n0+4096:Nat):Int),.i .i64 4]):RdOk Φ tabs 7 s:=by
 intro ty
 have nm:nmB 1000 s.c s.m0=true:=by rw[hm0];rfl
 have hC:Calls Φ (tabF tabs ty) 7 s.args (setAll .e s.m0) s.c fun v M' c'=>v= .t [.g [.i .i64 0,.i .i64 0,.l0,.l0,.l0,.l0],.i .i64 ((n0+4096:Nat):Int),.i .i64 4]:=by
  refine calls_walk h7 ?_;show Wp (.seq b7_1 b7_28) _ _ _;rw[wp_seq];refine wp_kr (s:=(ws0 6 s)) (hrun1 ty) ?_;show Wp (.scope bd7 _) _ _ _;simp only[Bool.and_eq_true,bltN,bleN,decide_eq_true_eq]at nb;obtain⟨⟨n1,n2⟩,⟨n3,n4⟩,n5⟩:=nb;obtain⟨I,hI⟩:∃I:Nat→Nat→St→Prop,∀n l st,I n l st↔(n=0∧l=0∧ ∃(u:List (Option V)) (M':Mem) (c':Nat),st= .mk ((.n (.n (.n (uv7 u 31 15 47 7 39 23 55) (uO u 3) (uv7 u 35 19 51 11 43 27 59)) (uO u 1) (.n (uv7 u 33 17 49 9 41 25 57) (uO u 5) (uv7 u 37 21 53 13 45 29 61))) (uO u 0) (.n (.n (uv7 u 32 16 48 8 40 24 56) (uO u 4) (uv7 u 36 20 52 12 44 28 60)) (some (.p b2 0)) (.n (.n (uv3 u 34 18 50) (some (.i .i64 ((n0+4096:Nat):Int))) (uv3 u 42 26 58)) (uO u 6) (uv7 u 38 22 54 14 46 30 62))))) [] M' c'∧M'.get b2=some (rowB 40 r2)):=⟨fun n l st=>_,fun _ _ _=>Iff.rfl⟩
  refine wp_scopes I ?_ 1 bd7 w1.st ?_
  ·intro n l st hst;obtain⟨rfl,rfl,u,M',c',rfl,g2⟩:=(hI _ _ _).1 hst;refine⟨.seq .skip (.seq b7_27 .ret),rfl,?_⟩
   have hz:∀r:List V,r.length=6→ ∃r0 r1 r2 r3 r4 r5,r=[r0,r1,r2,r3,r4,r5]:=fun r h=>by
    match r,h with
    |[r0,r1,r2,r3,r4,r5],_=>exact⟨_,_,_,_,_,_,rfl⟩
   obtain⟨q0,q1,q2,q3,q4,q5,rfl⟩:=hz r2 l2;have st2:=store_row g2 0 [.i .i64 0,.i .i64 0,.l0,.l0,.l0,.l0] (by simp) rfl;rw[show over [q0,q1,q2,q3,q4,q5] 0 [.i .i64 0,.i .i64 0,.l0,.l0,.l0,.l0]=[.i .i64 0,.i .i64 0,.l0,.l0,.l0,.l0]from rfl]at st2;have ld2:loadN (tabF tabs ty) (M'.set b2 (rowB 40 [.i .i64 0,.i .i64 0,.l0,.l0,.l0,.l0])) b2 0 6=some [.i .i64 0,.i .i64 0,.l0,.l0,.l0,.l0]:=loadN_row (get_same _ _ _) 6 rfl;have sr:∀s Q,scopeQ I 0 Q .ret s=Q .ret s:=fun s Q=>Eq.trans rfl (Eq.refl _);simp only[WX,Nat.reduceAdd,B7,st2,ld2,sr]
  ·refine wp_pre (cc:=bd7) 7 (s:=w1) (hrun ty) ?_;have e:w.st= .mk w.t [] (w.mem) w.c:=rfl;rw[e,treq_eq _ _ (ht _ rfl),←hrest];exact ps_end Φ (F:=tabF tabs ty) h19 h47 h69 h96 (h20 _) hrow hr1 hl hl2 (okm_w tb nm hc) (gr_w hg) (get_w m2) l2 (get_w m5) (get_w m6) l6 ⟨n1,by omega⟩ ⟨by omega,by omega⟩ ⟨by omega,by omega⟩ (by omega) (by omega) (by omega) n5 _ (fun u M' c' _ g2=>⟨0,by omega,(hI _ _ _).2 ⟨rfl,rfl,u,M',c',rfl,g2⟩⟩) (uL w.t 64)
 exact hC.mono fun v M' c' e=>⟨e.trans hv.symm,fun b blk hb=>by rw[hm0]at hb;cases hb⟩
end
end Go.Proofs.YtakeaojhkcbheaaGreatDoor.Ev
