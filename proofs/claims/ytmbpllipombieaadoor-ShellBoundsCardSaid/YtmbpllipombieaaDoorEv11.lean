/- What is proved here: pieces of the evaluator's soundness: if the evaluator comes to a value, the model's run comes to it, for every world and tape; no conditions beyond the hypotheses of each theorem. -/
import Derived.Test.YtmbpllipombieaaDoorEv10
set_option linter.unusedSimpArgs false
set_option linter.unusedVariables false
set_option linter.defProp false
set_option maxRecDepth 10000
set_option maxHeartbeats 16000000
namespace Go.Proofs.YtmbpllipombieaaDoor.Ev
open Go
noncomputable section
theorem l7(Φ:Nat→Option CF)(h:Φ 7=some c7){L:List BE}(h9:Φ 9=some (.orc (uX L)))(h10:Φ 10=some d7)(h28:Φ 28=some c28)(h56:Φ 56=some c56)(h74:Φ 74=some PV)(h29:Φ 29=some c29)(h30:Φ 30=some OU)(h31:Φ 31=some Eb)(h32:Φ 32=some PR)(h17:Φ 17=some KV)(h40:Φ 40=some c40)(h63:Φ 63=some PU)(h62:Φ 62=some KW)(h80:Φ 80=some L0)(h81:Φ 81=some L4)(h82:Φ 82=some OY)(h90:Φ 90=some L5)(h83:Φ 83=some FX)(h61:Φ 61=some Ec)(h39:Φ 39=some c39)(h33:Φ 33=some OV)(h57:Φ 57=some wz)(h58:Φ 58=some PT)(h59:Φ 59=some C3)(h60:Φ 60=some OX)(h79:Φ 79=some PW)(h89:Φ 89=some OZ)(h52:Φ 52=some yB)(h54:Φ 54=some yC)(h71:Φ 71=some vW)(h13:Φ 13=some c13)(h25:Φ 25=some c25)(h23:Φ 23=some fR)(h46:Φ 46=some c46)(h47:Φ 47=some c47)(h49:Φ 49=some c49)(h50:Φ 50=some XJ)(h51:Φ 51=some PS)(h48:Φ 48=some OW)(h70:Φ 70=some KZ)(h24:Φ 24=some (.orc (bh Ev.h24)))(h55:Φ 55=some (.orc (bh Ev.h55)))(h73:Φ 73=some (.orc (bh Ev.h73)))(h75:Φ 75=some (.orc (bh Ev.h75)))(h76:Φ 76=some (.orc (bh Ev.h88)))(h77:Φ 77=some (.orc (bh Ev.h77))){F:RO}{M:Mem}{c:Nat}(ok:cU F M c)(ht:fi F L=true):
 Calls Φ F 7 [] M c fun r _ _=>r= .b true:=by
 have hkn:=fun M c=>Ae ht M c
 refine aM h ?_
 simp only[WX,e7,b70,Ze]
 refine n7a Φ (G2 (G1 (cF (cF (cF (cH (ce (X8 (X4 []))))))))) _ ?_
 intro u
 simp only[WX,b85]
 refine n7b Φ (G2 (G1 (X1 (G1 (cF (cF (cF (cH (ce (X8 (X2 []))))))))))) _ ?_
 intro u
 obtain⟨PA,hPA⟩:∃x,x=sj jF (59::jF) 15:=⟨_,rfl⟩
 obtain⟨PC,hPC⟩:∃x,x=sj nH (124::nH) 5:=⟨_,rfl⟩
 have xA:=aX6
 have xB:=aX7
 have xC:=aX8
 have xD:=aX9
 have lA:PA.length=79:=by rw[hPA,nu];rfl
 have lC:PC.length=23:=by rw[hPC,nu];rfl
 rw[←hPA]at xA xB⊢
 rw[←hPC]at xC xD⊢
 obtain⟨A1,hA1⟩:∃x,x=rx 4091:=⟨_,rfl⟩
 obtain⟨S5,hS5⟩:∃x,x=lq 4091 []:=⟨_,rfl⟩
 have a1:Ev.h24 [.i .i64 4091]=some (sV A1):=by rw[hA1];exact uS 4091 (by decide) (by decide)
 have qa1:cZ .add (.s 5 139308065637) (sV A1)=some (sV S5):=by
  rw[hA1,hS5,←kL,bP];exact d9 [101,99,104,111,32] (rx 4091) (by rw[jn];decide)
 have l5:S5.length=4096:=by rw[hS5,kM];rfl
 have x5:(kZ S5).2=0:=by rw[hS5];exact aY0 (by decide) (by decide)
 obtain⟨A2,hA2⟩:∃x,x=rx 4087:=⟨_,rfl⟩
 obtain⟨S6,hS6⟩:∃x,x=lq 4087 [59,99,97,116]:=⟨_,rfl⟩
 have a2:Ev.h24 [.i .i64 4087]=some (sV A2):=by rw[hA2];exact uS 4087 (by decide) (by decide)
 obtain⟨B2,hB2⟩:∃x,x=[101,99,104,111,32]++A2:=⟨_,rfl⟩
 have qa2:cZ .add (.s 5 139308065637) (sV A2)=some (sV B2):=by rw[hB2];exact d9 [101,99,104,111,32] A2 (by rw[hA2,jn];decide)
 have qa3:cZ .add (sV B2) (.s 4 1952539451)=some (sV S6):=by
  rw[hB2,hA2,hS6,←kL,←bM];exact d9 ([101,99,104,111,32]++rx 4087) [59,99,97,116] (by rw[aO,jn];decide)
 have x6:(kZ S6).2=4:=by rw[hS6];exact aY3 (by decide) (by decide) (by decide)
 have hPB:∀s:List UInt8,s.length≤4096→(∀p∈(dA 0 (dh s)).1,Gl p)∧dq (nJ (dA 0 (dh s)).1)≤1000000:=fun s h=>⟨(MH h).1,(MH h).2.1⟩
 have hG:∀v,flatten (V.g [v])=[v]:=fun _=>rfl
 have BOX:∀(M:Mem) (c:Nat) (v:V),cU F M c→aE [v]=true→bN (M.set c (af 25 [.l0])) c 0 [v]=some (M.set c (af 25 [v]))∧Gr c M (c+1) (M.set c (af 25 [v])):=fun M c v ok h1=>⟨fh rfl h1,(Gr.refl ok).set c _ (ah _) (aA _) (aG _)⟩
 have qb:cZ .add (sV PA) (.s 5 435762132027)=some (sV (PA++(59::jF))):=d9 PA (59::jF) (by rw[lA];decide)
 have qd:cZ .add (sV PC) (.s 4 1952539516)=some (sV (PC++(124::nH))):=d9 PC (124::nH) (by rw[lC];decide)
 have qf:cZ .add (sV S5) (.s 1 120)=some (sV (S5++[120])):=d9 S5 [120] (by rw[l5];decide)
 have xf:(kZ (S5++[120])).2=3:=aY1 (by rw[aO,l5];decide)
 obtain⟨S7,hS7⟩:∃x,x=lq 4090 [124]:=⟨_,rfl⟩
 have x7:(kZ S7).2=4:=by rw[hS7];exact aY2 (by decide) (by decide)
 have qs1:cZ .sub (.i .i64 (S5.length:Int)) (.i .i64 1)=some (.i .i64 ((4095:Nat):Int)):=by rw[l5];rfl
 have qs2:xW (sV S5) none (some (.i .i64 ((4095:Nat):Int)))=some (sV (S5.take 4095)):=Yj S5 .i64 4095 (by rw[l5];decide)
 have qs3:cZ .add (sV (S5.take 4095)) (.s 1 124)=some (sV S7):=by
  have:=d9 (S5.take 4095) [124] (by rw[List.length_take,l5];decide);rw[show S5.take 4095++[124]=S7 by
   rw[hS5,hS7,←kL,←kL,bP,List.take_append];rw[show[101,99,104,111,32].take 4095=([101,99,104,111,32]:List UInt8)from rfl,bM];exact congrArg (fun x=>[101,99,104,111,32]++(x++[124])) (List.take_replicate (i:=4090) (n:=4091) (a:=(120:UInt8)))]at this
  exact this
 obtain⟨A3,hA3⟩:∃x,x=rx 4086:=⟨_,rfl⟩
 obtain⟨S8,hS8⟩:∃x,x=lq 4086 [32,59,99,97,116]:=⟨_,rfl⟩
 have a3:Ev.h24 [.i .i64 4086]=some (sV A3):=by rw[hA3];exact uS 4086 (by decide) (by decide)
 obtain⟨B3,hB3⟩:∃x,x=[101,99,104,111,32]++A3:=⟨_,rfl⟩
 have qj1:cZ .add (.s 5 139308065637) (sV A3)=some (sV B3):=by rw[hB3];exact d9 [101,99,104,111,32] A3 (by rw[hA3,jn];decide)
 have qj2:cZ .add (sV B3) (.s 5 499850099488)=some (sV S8):=by
  rw[hB3,hA3,hS8,←kL,←bM];exact d9 ([101,99,104,111,32]++rx 4086) [32,59,99,97,116] (by rw[aO,jn];decide)
 have x8:(kZ S8).2=4:=by rw[hS8];exact aY4 (by decide) (by decide) (by decide)
 obtain⟨A4,hA4⟩:∃x,x=rx 4085:=⟨_,rfl⟩
 obtain⟨S9,hS9⟩:∃x,x=lq 4085 [32,59,99,97,116]:=⟨_,rfl⟩
 have a4:Ev.h24 [.i .i64 4085]=some (sV A4):=by rw[hA4];exact uS 4085 (by decide) (by decide)
 obtain⟨B4,hB4⟩:∃x,x=[101,99,104,111,32]++A4:=⟨_,rfl⟩
 have qk1:cZ .add (.s 5 139308065637) (sV A4)=some (sV B4):=by rw[hB4];exact d9 [101,99,104,111,32] A4 (by rw[hA4,jn];decide)
 have qk2:cZ .add (sV B4) (.s 5 499850099488)=some (sV S9):=by
  rw[hB4,hA4,hS9,←kL,←bM];exact d9 ([101,99,104,111,32]++rx 4085) [32,59,99,97,116] (by rw[aO,jn];decide)
 have x9:(kZ S9).2=0:=by rw[hS9];exact aY5 (by decide) (by decide)
 clear hS9 hS8 hS7 hS6 hS5 hB2 hB3 hB4 hA1 hA2 hA3 hA4
 simp only[WX,YP,YQ,Zd,h24,a1,qa1,a2,qa2,qa3]
 simp only[WX,YR]
 have okN0:=ok
 refine av ((FZ Φ h10 h28 h56 h55 h73 h75 h76 h74 h29 h30 h31 h32 h17 h40 h63 h62 h80 h81 h82 h90 h83 h61 h39 h33 h57 h58 h59 h60 h79 h89 h77 h52 h54 h71 okN0 PA (hPB _)).mono ?_)
 rintro r M1 c1 ⟨v1,rfl,hL1,g1⟩
 rw[xA]
 have ok1:=g1.ok okN0
 obtain⟨y1,y2,y3⟩:=(hL1 M1 fun _ _ _=>rfl).ln.one
 obtain⟨s1,b1⟩:=BOX M1 c1 v1 ok1 y3
 simp only[WX,hG,s1]
 have okN1:=b1.ok ok1
 generalize M1.set c1 (af 25 [v1])=N1 at b1 okN1⊢
 clear hL1 y1 y2 y3 s1
 simp only[WX,YS,qb]
 refine av ((FZ Φ h10 h28 h56 h55 h73 h75 h76 h74 h29 h30 h31 h32 h17 h40 h63 h62 h80 h81 h82 h90 h83 h61 h39 h33 h57 h58 h59 h60 h79 h89 h77 h52 h54 h71 okN1 (PA++(59::jF)) (hPB _)).mono ?_)
 rintro r M2 c2 ⟨v2,rfl,hL2,g2⟩
 rw[xB]
 have ok2:=g2.ok okN1
 obtain⟨y1,y2,y3⟩:=(hL2 M2 fun _ _ _=>rfl).ln.one
 obtain⟨s2,b2⟩:=BOX M2 c2 v2 ok2 y3
 simp only[WX,hG,s2]
 have okN2:=b2.ok ok2
 generalize M2.set c2 (af 25 [v2])=N2 at b2 okN2⊢
 clear hL2 y1 y2 y3 s2
 simp only[WX,YT]
 refine av ((FZ Φ h10 h28 h56 h55 h73 h75 h76 h74 h29 h30 h31 h32 h17 h40 h63 h62 h80 h81 h82 h90 h83 h61 h39 h33 h57 h58 h59 h60 h79 h89 h77 h52 h54 h71 okN2 PC (hPB _)).mono ?_)
 rintro r M3 c3 ⟨v3,rfl,hL3,g3⟩
 rw[xC]
 have ok3:=g3.ok okN2
 obtain⟨y1,y2,y3⟩:=(hL3 M3 fun _ _ _=>rfl).ln.one
 obtain⟨s3,b3⟩:=BOX M3 c3 v3 ok3 y3
 simp only[WX,Zc,hG,s3]
 have okN3:=b3.ok ok3
 generalize M3.set c3 (af 25 [v3])=N3 at b3 okN3⊢
 clear hL3 y1 y2 y3 s3
 simp only[WX,YU,qd]
 refine av ((FZ Φ h10 h28 h56 h55 h73 h75 h76 h74 h29 h30 h31 h32 h17 h40 h63 h62 h80 h81 h82 h90 h83 h61 h39 h33 h57 h58 h59 h60 h79 h89 h77 h52 h54 h71 okN3 (PC++(124::nH)) (hPB _)).mono ?_)
 rintro r M4 c4 ⟨v4,rfl,hL4,g4⟩
 rw[xD]
 have ok4:=g4.ok okN3
 obtain⟨y1,y2,y3⟩:=(hL4 M4 fun _ _ _=>rfl).ln.one
 obtain⟨s4,b4⟩:=BOX M4 c4 v4 ok4 y3
 simp only[WX,hG,s4]
 have okN4:=b4.ok ok4
 generalize M4.set c4 (af 25 [v4])=N4 at b4 okN4⊢
 clear hL4 y1 y2 y3 s4
 simp only[WX,YV]
 refine av ((FZ Φ h10 h28 h56 h55 h73 h75 h76 h74 h29 h30 h31 h32 h17 h40 h63 h62 h80 h81 h82 h90 h83 h61 h39 h33 h57 h58 h59 h60 h79 h89 h77 h52 h54 h71 okN4 S5 (hPB _)).mono ?_)
 rintro r M5 c5 ⟨v5,rfl,hL5,g5⟩
 rw[x5]
 have ok5:=g5.ok okN4
 obtain⟨y1,y2,y3⟩:=(hL5 M5 fun _ _ _=>rfl).ln.one
 obtain⟨s5,b5⟩:=BOX M5 c5 v5 ok5 y3
 simp only[WX,hG,s5]
 have okN5:=b5.ok ok5
 generalize M5.set c5 (af 25 [v5])=N5 at b5 okN5⊢
 clear hL5 y1 y2 y3 s5
 simp only[WX,YW,qf]
 refine av ((FZ Φ h10 h28 h56 h55 h73 h75 h76 h74 h29 h30 h31 h32 h17 h40 h63 h62 h80 h81 h82 h90 h83 h61 h39 h33 h57 h58 h59 h60 h79 h89 h77 h52 h54 h71 okN5 (S5++[120]) (hPB _)).mono ?_)
 rintro r M6 c6 ⟨v6,rfl,hL6,g6⟩
 rw[xf]
 have ok6:=g6.ok okN5
 obtain⟨y1,y2,y3⟩:=(hL6 M6 fun _ _ _=>rfl).ln.one
 obtain⟨s6,b6⟩:=BOX M6 c6 v6 ok6 y3
 simp only[WX,hG,s6]
 have okN6:=b6.ok ok6
 generalize M6.set c6 (af 25 [v6])=N6 at b6 okN6⊢
 clear hL6 y1 y2 y3 s6
 simp only[WX,YX,qs1,qs2,qs3]
 refine av ((FZ Φ h10 h28 h56 h55 h73 h75 h76 h74 h29 h30 h31 h32 h17 h40 h63 h62 h80 h81 h82 h90 h83 h61 h39 h33 h57 h58 h59 h60 h79 h89 h77 h52 h54 h71 okN6 S7 (hPB _)).mono ?_)
 rintro r M7 c7 ⟨v7,rfl,hL7,g7⟩
 rw[x7]
 have ok7:=g7.ok okN6
 obtain⟨y1,y2,y3⟩:=(hL7 M7 fun _ _ _=>rfl).ln.one
 obtain⟨s7,b7⟩:=BOX M7 c7 v7 ok7 y3
 simp only[WX,hG,s7]
 have okN7:=b7.ok ok7
 generalize M7.set c7 (af 25 [v7])=N7 at b7 okN7⊢
 clear hL7 y1 y2 y3 s7
 simp only[WX,YY]
 refine av ((FZ Φ h10 h28 h56 h55 h73 h75 h76 h74 h29 h30 h31 h32 h17 h40 h63 h62 h80 h81 h82 h90 h83 h61 h39 h33 h57 h58 h59 h60 h79 h89 h77 h52 h54 h71 okN7 S6 (hPB _)).mono ?_)
 rintro r M8 c8 ⟨v8,rfl,hL8,g8⟩
 rw[x6]
 have ok8:=g8.ok okN7
 obtain⟨y1,y2,y3⟩:=(hL8 M8 fun _ _ _=>rfl).ln.one
 obtain⟨s8,b8⟩:=BOX M8 c8 v8 ok8 y3
 simp only[WX,Zb,hG,s8]
 have okN8:=b8.ok ok8
 generalize M8.set c8 (af 25 [v8])=N8 at b8 okN8⊢
 clear hL8 y1 y2 y3 s8
 simp only[WX,YZ,h24,a3,qj1,qj2]
 refine av ((FZ Φ h10 h28 h56 h55 h73 h75 h76 h74 h29 h30 h31 h32 h17 h40 h63 h62 h80 h81 h82 h90 h83 h61 h39 h33 h57 h58 h59 h60 h79 h89 h77 h52 h54 h71 okN8 S8 (hPB _)).mono ?_)
 rintro r M9 c9 ⟨v9,rfl,hL9,g9⟩
 rw[x8]
 have ok9:=g9.ok okN8
 obtain⟨y1,y2,y3⟩:=(hL9 M9 fun _ _ _=>rfl).ln.one
 obtain⟨s9,b9⟩:=BOX M9 c9 v9 ok9 y3
 simp only[WX,hG,s9]
 have okN9:=b9.ok ok9
 generalize M9.set c9 (af 25 [v9])=N9 at b9 okN9⊢
 clear hL9 y1 y2 y3 s9
 simp only[WX,Z0,h24,a4,qk1,qk2]
 refine av ((FZ Φ h10 h28 h56 h55 h73 h75 h76 h74 h29 h30 h31 h32 h17 h40 h63 h62 h80 h81 h82 h90 h83 h61 h39 h33 h57 h58 h59 h60 h79 h89 h77 h52 h54 h71 okN9 S9 (hPB _)).mono ?_)
 rintro r M10 d7 ⟨v10,rfl,hL10,g10⟩
 rw[x9]
 have QW:=g10.ok okN9
 obtain⟨y1,y2,y3⟩:=(hL10 M10 fun _ _ _=>rfl).ln.one
 obtain⟨s10,b10⟩:=BOX M10 d7 v10 QW y3
 simp only[WX,hG,s10]
 have okN10:=b10.ok QW
 generalize M10.set d7 (af 25 [v10])=N10 at b10 okN10⊢
 clear hL10 y1 y2 y3 s10
 simp only[WX,Nat.reduceAdd,Nat.reduceLeDiff,Z1,hG]
 have gN:=(((((Gr.refl okN10).set (d7+1) (bK [V.s 0 0,V.b false] 64 [V.s 4 1702195828,V.b false]) (ah _) (aA _) (aG _)).set (d7+2) (bK [V.l0] 36 [V.l (d7+1) 0 1 1]) (by omega) (aA _) (aG _)).set (d7+3) (bK [V.l0] 42 [V.l (d7+2) 0 1 1]) (by omega) (aA _) (aG _)).set (d7+4) (bK [V.i IntKind.i64 0,V.b false,V.l0,V.l0,V.b false,V.l0] 39 [V.i IntKind.i64 1,V.b false,V.l0,V.l0,V.b false,V.l (d7+3) 0 1 1]) (by omega) (aA _) (aG _)).set (d7+5) (af 25 [V.l (d7+4) 0 1 1]) (by omega) (aA _) (aG _)
 have m5:=am ((((N10.set (d7+1) (bK [V.s 0 0,V.b false] 64 [V.s 4 1702195828,V.b false])).set (d7+2) (bK [V.l0] 36 [V.l (d7+1) 0 1 1])).set (d7+3) (bK [V.l0] 42 [V.l (d7+2) 0 1 1])).set (d7+4) (bK [V.i IntKind.i64 0,V.b false,V.l0,V.l0,V.b false,V.l0] 39 [V.i IntKind.i64 1,V.b false,V.l0,V.l0,V.b false,V.l (d7+3) 0 1 1])) (d7+5) (af 25 [V.l (d7+4) 0 1 1])
 obtain⟨N11,hN11⟩:∃x,x=((((N10.set (d7+1) (bK [V.s 0 0,V.b false] 64 [V.s 4 1702195828,V.b false])).set (d7+2) (bK [V.l0] 36 [V.l (d7+1) 0 1 1])).set (d7+3) (bK [V.l0] 42 [V.l (d7+2) 0 1 1])).set (d7+4) (bK [V.i IntKind.i64 0,V.b false,V.l0,V.l0,V.b false,V.l0] 39 [V.i IntKind.i64 1,V.b false,V.l0,V.l0,V.b false,V.l (d7+3) 0 1 1])).set (d7+5) (af 25 [V.l (d7+4) 0 1 1]):=⟨_,rfl⟩
 have m1:N11.get (d7+1)=some (bK [V.s 0 0,V.b false] 64 [V.s 4 1702195828,V.b false]):=by rw[hN11,ag _ _ (by omega),ag _ _ (by omega),ag _ _ (by omega),ag _ _ (by omega),am]
 have m2:N11.get (d7+2)=some (bK [V.l0] 36 [V.l (d7+1) 0 1 1]):=by rw[hN11,ag _ _ (by omega),ag _ _ (by omega),ag _ _ (by omega),am]
 have m3:N11.get (d7+3)=some (bK [V.l0] 42 [V.l (d7+2) 0 1 1]):=by rw[hN11,ag _ _ (by omega),ag _ _ (by omega),am]
 have m4:N11.get (d7+4)=some (bK [V.i IntKind.i64 0,V.b false,V.l0,V.l0,V.b false,V.l0] 39 [V.i IntKind.i64 1,V.b false,V.l0,V.l0,V.b false,V.l (d7+3) 0 1 1]):=by rw[hN11,ag _ _ (by omega),am]
 rw[←hN11]at gN m5⊢
 clear hN11
 have ok11:=gN.ok okN10
 have w1:dt F N11 (d7+6) (.l (d7+1) 0 1 1) [(jF,false)]:=vG m1 (by omega) rfl (by decide)
 have w2:eM F N11 (d7+6) (.l (d7+2) 0 1 1) [[(jF,false)]]:=gh m2 (by omega) rfl ⟨_,rfl,w1⟩
 have w3:iw F N11 (d7+6) (.l (d7+3) 0 1 1) [[[(jF,false)]]]:=gh m3 (by omega) rfl ⟨_,rfl,w2⟩
 have w4:iG F N11 (d7+6) (.l (d7+4) 0 1 1) [⟨1,false,[],[],false,[[[(jF,false)]]]⟩]:=gh m4 (by omega) rfl ⟨_,_,_,rfl,Zf,Zf,w3⟩
 have hP:∀(j:Int) (b:Bool) (p:fm),p∈[(⟨j,false,[],[],b,[[[(jF,false)]]]⟩:fm)]→Gl p:=fun j b p hp=>by
  rw[List.mem_singleton]at hp;subst hp;show(∀q∈([]:List Pc),q.1.length≤1000000)∧(∀q∈([]:List Pc),q.1.length≤1000000)∧(∀x∈[[[(jF,false)]]],Gh x)∧0≤1000000∧0≤1000000;unfold Gh;decide
 have k27:loadN F N11 (d7+5) 0 1=some [.l (d7+4) 0 1 1]:=bj m5 1 rfl
 simp only[WX,B7,k27]
 refine av ((w17 Φ h17 h40 h63 h62 h80 h81 h82 h90 h83 h61 h39 h33 h57 h58 h59 h60 h79 h89 h77 h52 h54 h71 ok11 w4 (hP 1 false) (by decide)).mono ?_)
 rintro r N12 c12 ⟨rfl,g12⟩
 rw[show pN [(⟨1,false,[],[],false,[[[(jF,false)]]]⟩:fm)]=false by decide+kernel,show Q5 false= .i .i64 2 from rfl]
 have i12:=g12.le
 have ok12:=g12.ok ok11
 have k5:load1 F N12 (d7+5) 0=some (.l (d7+4) 0 1 1):=aq ((g12.old _ (by omega)).trans m5) 0
 have hia:=LQ 6 (d7+4) 0 1 1 0 .i64 (by decide)
 rw[show((0:Nat):Int)=0 from rfl,Nat.zero_mul,aW]at hia
 have m4':=(g12.old (d7+4) (by omega)).trans m4
 have st4:=Bb m4' 0 [.i .i64 0] (by simp) rfl
 have ho4:over [V.i IntKind.i64 1,V.b false,V.l0,V.l0,V.b false,V.l (d7+3) 0 1 1] 0 [.i .i64 0]=[V.i IntKind.i64 0,V.b false,V.l0,V.l0,V.b false,V.l (d7+3) 0 1 1]:=rfl
 rw[ho4]at st4
 simp only[WX,Z2,Za,k5,hia,st4]
 have Mq:cU F (N12.set (d7+4) (bK [V.i IntKind.i64 0,V.b false,V.l0,V.l0,V.b false,V.l0] 39 [V.i IntKind.i64 0,V.b false,V.l0,V.l0,V.b false,V.l (d7+3) 0 1 1])) c12:=ok12.put (by omega) m4'
 have p1:(N12.set (d7+4) (bK [V.i IntKind.i64 0,V.b false,V.l0,V.l0,V.b false,V.l0] 39 [V.i IntKind.i64 0,V.b false,V.l0,V.l0,V.b false,V.l (d7+3) 0 1 1])).get (d7+1)=_:=(ag _ _ (by omega)).trans ((g12.old _ (by omega)).trans m1)
 have p2:(N12.set (d7+4) (bK [V.i IntKind.i64 0,V.b false,V.l0,V.l0,V.b false,V.l0] 39 [V.i IntKind.i64 0,V.b false,V.l0,V.l0,V.b false,V.l (d7+3) 0 1 1])).get (d7+2)=_:=(ag _ _ (by omega)).trans ((g12.old _ (by omega)).trans m2)
 have p3:(N12.set (d7+4) (bK [V.i IntKind.i64 0,V.b false,V.l0,V.l0,V.b false,V.l0] 39 [V.i IntKind.i64 0,V.b false,V.l0,V.l0,V.b false,V.l (d7+3) 0 1 1])).get (d7+3)=_:=(ag _ _ (by omega)).trans ((g12.old _ (by omega)).trans m3)
 have p5:(N12.set (d7+4) (bK [V.i IntKind.i64 0,V.b false,V.l0,V.l0,V.b false,V.l0] 39 [V.i IntKind.i64 0,V.b false,V.l0,V.l0,V.b false,V.l (d7+3) 0 1 1])).get (d7+5)=_:=(ag _ _ (by omega)).trans ((g12.old _ (by omega)).trans m5)
 have p4:=am N12 (d7+4) (bK [V.i IntKind.i64 0,V.b false,V.l0,V.l0,V.b false,V.l0] 39 [V.i IntKind.i64 0,V.b false,V.l0,V.l0,V.b false,V.l (d7+3) 0 1 1])
 generalize N12.set (d7+4) (bK [V.i IntKind.i64 0,V.b false,V.l0,V.l0,V.b false,V.l0] 39 [V.i IntKind.i64 0,V.b false,V.l0,V.l0,V.b false,V.l (d7+3) 0 1 1])=N13 at Mq p1 p2 p3 p4 p5⊢
 clear st4 m4' k5 w4 w3 w2 w1 m1 m2 m3 m4 m5 gN
 have w1:dt F N13 c12 (.l (d7+1) 0 1 1) [(jF,false)]:=vG p1 (by omega) rfl (by decide)
 have w2:eM F N13 c12 (.l (d7+2) 0 1 1) [[(jF,false)]]:=gh p2 (by omega) rfl ⟨_,rfl,w1⟩
 have w3:iw F N13 c12 (.l (d7+3) 0 1 1) [[[(jF,false)]]]:=gh p3 (by omega) rfl ⟨_,rfl,w2⟩
 have w4:iG F N13 c12 (.l (d7+4) 0 1 1) [⟨0,false,[],[],false,[[[(jF,false)]]]⟩]:=gh p4 (by omega) rfl ⟨_,_,_,rfl,Zf,Zf,w3⟩
 have k27:loadN F N13 (d7+5) 0 1=some [.l (d7+4) 0 1 1]:=bj p5 1 rfl
 have dn0:decide (¬((0:Int)=0))=false:=ak (fun h=>h rfl)
 have dn2:decide (¬((2:Int)=2))=false:=ak (fun h=>h rfl)
 have dn4:decide (¬((4:Int)=4))=false:=ak (fun h=>h rfl)
 have de0:decide ((0:Int)=0)=true:=rfl
 have de3:decide ((3:Int)=3)=true:=rfl
 have de4:decide ((4:Int)=4)=true:=rfl
 simp only[WX,B7]
 refine av ((yH Φ h13 4).mono ?_)
 rintro r X1 y1 ⟨rfl,rfl,rfl⟩
 simp only[WX,dn4]
 refine av ((yH Φ h13 0).mono ?_)
 rintro r X2 y2 ⟨rfl,rfl,rfl⟩
 simp only[WX,dn0]
 refine av ((yH Φ h13 2).mono ?_)
 rintro r X3 y3 ⟨rfl,rfl,rfl⟩
 simp only[WX,dn2,k27]
 refine av ((w17 Φ h17 h40 h63 h62 h80 h81 h82 h90 h83 h61 h39 h33 h57 h58 h59 h60 h79 h89 h77 h52 h54 h71 Mq w4 (hP 0 false) (by decide)).mono ?_)
 rintro r N14 c14 ⟨rfl,g14⟩
 rw[show pN [(⟨0,false,[],[],false,[[[(jF,false)]]]⟩:fm)]=true by decide+kernel,show Q5 true= .i .i64 0 from rfl]
 have i14:=g14.le
 have ok14:=g14.ok Mq
 simp only[WX]
 refine av ((yH Φ h13 0).mono ?_)
 rintro r X4 y4 ⟨rfl,rfl,rfl⟩
 simp only[WX,Z3,dn0]
 have k5:load1 F X4 (d7+5) 0=some (.l (d7+4) 0 1 1):=aq ((g14.old _ (by omega)).trans p5) 0
 have k45:load1 F X4 (d7+4) 5=some (.l (d7+3) 0 1 1):=(CW ((g14.old _ (by omega)).trans p4)).load1 5
 simp only[WX,Nat.reduceAdd,Nat.reduceLeDiff,Z4,k5,hia,k45]
 have gN:=((Gr.refl ok14).set y4 (bK [V.i IntKind.i64 0,V.b false,V.l0,V.l0,V.b false,V.l0] 39 [V.i IntKind.i64 0,V.b false,V.l0,V.l0,V.b true,V.l (d7+3) 0 1 1]) (ah _) (aA _) (aG _)).set (y4+1) (af 25 [V.l y4 0 1 1]) (by omega) (aA _) (aG _)
 have m2:=am (X4.set y4 (bK [V.i IntKind.i64 0,V.b false,V.l0,V.l0,V.b false,V.l0] 39 [V.i IntKind.i64 0,V.b false,V.l0,V.l0,V.b true,V.l (d7+3) 0 1 1])) (y4+1) (af 25 [V.l y4 0 1 1])
 have m1:((X4.set y4 (bK [V.i IntKind.i64 0,V.b false,V.l0,V.l0,V.b false,V.l0] 39 [V.i IntKind.i64 0,V.b false,V.l0,V.l0,V.b true,V.l (d7+3) 0 1 1])).set (y4+1) (af 25 [V.l y4 0 1 1])).get y4=some (bK [V.i IntKind.i64 0,V.b false,V.l0,V.l0,V.b false,V.l0] 39 [V.i IntKind.i64 0,V.b false,V.l0,V.l0,V.b true,V.l (d7+3) 0 1 1]):=by rw[ag _ _ (by omega),am]
 generalize(X4.set y4 (bK [V.i IntKind.i64 0,V.b false,V.l0,V.l0,V.b false,V.l0] 39 [V.i IntKind.i64 0,V.b false,V.l0,V.l0,V.b true,V.l (d7+3) 0 1 1])).set (y4+1) (af 25 [V.l y4 0 1 1])=N15 at gN m1 m2⊢
 have ok15:=gN.ok ok14
 have w5:iG F N15 (y4+2) (.l y4 0 1 1) [⟨0,false,[],[],true,[[[(jF,false)]]]⟩]:=gh m1 (by omega) rfl ⟨_,_,_,rfl,Zf,Zf,(w3.grow g14).grow gN⟩
 simp only[WX,Z5]
 refine av ((FZ Φ h10 h28 h56 h55 h73 h75 h76 h74 h29 h30 h31 h32 h17 h40 h63 h62 h80 h81 h82 h90 h83 h61 h39 h33 h57 h58 h59 h60 h79 h89 h77 h52 h54 h71 ok15 [101,99,104,111,32,36,63,39,39] (hPB _)).mono ?_)
 rintro r M16 c16 ⟨v16,rfl,hL16,g16⟩
 rw[Ct.1,Ct.2]
 have QX:=g16.ok ok15
 have hl16:=(hL16 M16 fun _ _ _=>rfl).ln
 obtain⟨y1,y2,y3⟩:=hl16.one
 obtain⟨s16,b16⟩:=BOX M16 c16 v16 QX y3
 simp only[WX,hG,s16]
 have q16:=am M16 c16 (af 25 [v16])
 have okN16:=b16.ok QX
 have i16:=g16.le
 generalize M16.set c16 (af 25 [v16])=N16 at b16 okN16 q16⊢
 rw[Ct.1]at hl16
 simp only[WX,Z6]
 refine av ((FZ Φ h10 h28 h56 h55 h73 h75 h76 h74 h29 h30 h31 h32 h17 h40 h63 h62 h80 h81 h82 h90 h83 h61 h39 h33 h57 h58 h59 h60 h79 h89 h77 h52 h54 h71 okN16 [101,99,104,111,32,36,63] (hPB _)).mono ?_)
 rintro r M17 KV ⟨v17,rfl,hL17,g17⟩
 rw[Ct.2]
 have QY:=g17.ok okN16
 have hl17:=(hL17 M17 fun _ _ _=>rfl).ln
 obtain⟨y1,y2,y3⟩:=hl17.one
 obtain⟨s17,b17⟩:=BOX M17 KV v17 QY y3
 simp only[WX,Z9,hG,s17]
 have q17:=am M17 KV (af 25 [v17])
 have okN17:=b17.ok QY
 have i17:=g17.le
 generalize M17.set KV (af 25 [v17])=N17 at b17 okN17 q17⊢
 have e29:loadN F N17 (y4+1) 0 1=some [.l y4 0 1 1]:=bj ((b17.old _ (by omega)).trans ((g17.old _ (by omega)).trans ((b16.old _ (by omega)).trans ((g16.old _ (by omega)).trans m2)))) 1 rfl
 simp only[WX,B7,e29]
 refine av ((w17 Φ h17 h40 h63 h62 h80 h81 h82 h90 h83 h61 h39 h33 h57 h58 h59 h60 h79 h89 h77 h52 h54 h71 okN17 ((((w5.grow g16).grow b16).grow g17).grow b17) (hP 0 true) (by decide)).mono ?_)
 rintro r N18 c18 ⟨rfl,g18⟩
 rw[show pN [(⟨0,false,[],[],true,[[[(jF,false)]]]⟩:fm)]=false by decide+kernel,show Q5 false= .i .i64 2 from rfl]
 have i18:=g18.le
 have ok18:=g18.ok okN17
 simp only[WX]
 refine av ((yH Φ h13 2).mono ?_)
 rintro r X5 y5 ⟨rfl,rfl,rfl⟩
 simp only[WX,dn2]
 refine av ((yH Φ h13 0).mono ?_)
 rintro r X6 y6 ⟨rfl,rfl,rfl⟩
 simp only[WX]
 refine av ((yH Φ h13 0).mono ?_)
 rintro r X7 y7 ⟨rfl,rfl,rfl⟩
 have q00:cZ .add (.i .i64 0) (.i .i64 0)=some (.i .i64 0):=rfl
 have e30:loadN F X7 c16 0 1=some [v16]:=bj ((g18.old _ (by omega)).trans ((b17.old _ (by omega)).trans ((g17.old _ (by omega)).trans q16))) 1 rfl
 have e32:loadN F X7 KV 0 1=some [v17]:=bj ((g18.old _ (by omega)).trans q17) 1 rfl
 simp only[WX,q00,dn0,e30,e32]
 refine av ((w23 Φ h23 h46 h47 h49 h50 h51 h48 h70 ok18 ((((hl16.grow b16).grow g17).grow b17).grow g18) ((hl17.grow b17).grow g18)).mono ?_)
 rintro r M19 c19 ⟨rfl,g19⟩
 have ok19:=g19.ok ok18
 rw[show decide ((kZ [101,99,104,111,32,36,63]).1=(kZ [101,99,104,111,32,36,63]).1)=true from aj rfl]
 simp only[WX,Nat.reduceAdd,Nat.reduceLeDiff]
 refine av ((w25 Φ h25 ok19 3 0 false false .l0 .l0 .l0 rfl rfl rfl).mono ?_)
 rintro r M20 c20 ⟨rfl,g20⟩
 have ok20:=g20.ok ok19
 rw[show vr 3 0=false by decide]
 simp only[WX,Nat.reduceAdd,Nat.reduceLeDiff]
 refine av ((w25 Φ h25 ok20 2 0 false false .l0 .l0 .l0 rfl rfl rfl).mono ?_)
 rintro r M21 c21 ⟨rfl,g21⟩
 have ok21:=g21.ok ok20
 rw[show vr 2 0=true by decide]
 simp only[WX,Nat.reduceAdd,Nat.reduceLeDiff]
 refine av ((w25 Φ h25 ok21 4 0 false false .l0 .l0 .l0 rfl rfl rfl).mono ?_)
 rintro r M22 c22 ⟨rfl,g22⟩
 have ok22:=g22.ok ok21
 rw[show vr 4 0=false by decide]
 simp only[WX]
 refine av ((w25 Φ h25 ok22 0 0 false false .l0 .l0 .l0 rfl rfl rfl).mono ?_)
 rintro r M23 fR ⟨rfl,g23⟩
 have QZ:=g23.ok ok22
 rw[show vr 0 0=false by decide]
 simp only[WX,Nat.reduceAdd,Nat.reduceLeDiff,Z7,Z8]
 have gT:=(((((((Gr.refl QZ).set fR (bK [V.s 0 0,V.b false] 64 [V.s 4 1869112165,V.b false]) (by omega) (aA _) (aG _)).set (fR+1) (bK [V.s 0 0,V.b false] 64 [V.s 1 97,V.b false,V.s 1 98,V.b false]) (by omega) (aA _) (aG _)).set (fR+2) (bK [V.l0] 36 [V.l fR 0 1 1,V.l (fR+1) 0 2 2]) (by omega) (aA _) (aG _)).set (fR+3) (bK [V.l0] 42 [V.l (fR+2) 0 2 2]) (by omega) (aA _) (aG _)).set (fR+4) (bK [V.i IntKind.i64 0,V.b false,V.l0,V.l0,V.b false,V.l0] 39 [V.i IntKind.i64 0,V.b false,V.l0,V.l0,V.b false,V.l (fR+3) 0 1 1]) (by omega) (aA _) (aG _)).set (fR+5) (af 25 [V.l (fR+4) 0 1 1]) (by omega) (aA _) (aG _))
 obtain⟨N24,hN⟩:∃x,x=((((((M23.set fR (bK [V.s 0 0,V.b false] 64 [V.s 4 1869112165,V.b false])).set (fR+1) (bK [V.s 0 0,V.b false] 64 [V.s 1 97,V.b false,V.s 1 98,V.b false])).set (fR+2) (bK [V.l0] 36 [V.l fR 0 1 1,V.l (fR+1) 0 2 2])).set (fR+3) (bK [V.l0] 42 [V.l (fR+2) 0 2 2])).set (fR+4) (bK [V.i IntKind.i64 0,V.b false,V.l0,V.l0,V.b false,V.l0] 39 [V.i IntKind.i64 0,V.b false,V.l0,V.l0,V.b false,V.l (fR+3) 0 1 1])).set (fR+5) (af 25 [V.l (fR+4) 0 1 1])):=⟨_,rfl⟩
 have t0:N24.get fR=some (bK [V.s 0 0,V.b false] 64 [V.s 4 1869112165,V.b false]):=by rw[hN,ag _ _ (by omega),ag _ _ (by omega),ag _ _ (by omega),ag _ _ (by omega),ag _ _ (by omega),am]
 have t1:N24.get (fR+1)=some (bK [V.s 0 0,V.b false] 64 [V.s 1 97,V.b false,V.s 1 98,V.b false]):=by rw[hN,ag _ _ (by omega),ag _ _ (by omega),ag _ _ (by omega),ag _ _ (by omega),am]
 have t2:N24.get (fR+2)=some (bK [V.l0] 36 [V.l fR 0 1 1,V.l (fR+1) 0 2 2]):=by rw[hN,ag _ _ (by omega),ag _ _ (by omega),ag _ _ (by omega),am]
 have t3:N24.get (fR+3)=some (bK [V.l0] 42 [V.l (fR+2) 0 2 2]):=by rw[hN,ag _ _ (by omega),ag _ _ (by omega),am]
 have t4:N24.get (fR+4)=some (bK [V.i IntKind.i64 0,V.b false,V.l0,V.l0,V.b false,V.l0] 39 [V.i IntKind.i64 0,V.b false,V.l0,V.l0,V.b false,V.l (fR+3) 0 1 1]):=by rw[hN,ag _ _ (by omega),am]
 have t5:N24.get (fR+5)=some (af 25 [V.l (fR+4) 0 1 1]):=by rw[hN,am]
 rw[←hN]at gT⊢
 clear hN
 have af9:=gT.ok QZ
 have u1:dt F N24 (fR+6) (.l fR 0 1 1) [(sD,false)]:=vG t0 (by omega) rfl (by decide)
 have u2:dt F N24 (fR+6) (.l (fR+1) 0 2 2) [([97],false),([98],false)]:=vG t1 (by omega) rfl (by decide)
 have u3:eM F N24 (fR+6) (.l (fR+2) 0 2 2) [[(sD,false)],[([97],false),([98],false)]]:=Mk (es:=[[V.l fR 0 1 1],[V.l (fR+1) 0 2 2]]) t2 (by omega) (by intro e he;simp only[be,List.not_mem_nil,or_false]at he;rcases he with rfl|rfl<;>rfl) rfl rfl (by decide) (fun i h h'=>by
  match i,h with
  |0,_=>exact⟨_,rfl,u1⟩
  |1,_=>exact⟨_,rfl,u2⟩)
 have u4:iw F N24 (fR+6) (.l (fR+3) 0 1 1) [[[(sD,false)],[([97],false),([98],false)]]]:=gh t3 (by omega) rfl ⟨_,rfl,u3⟩
 have u5:iG F N24 (fR+6) (.l (fR+4) 0 1 1) [⟨0,false,[],[],false,[[[(sD,false)],[([97],false),([98],false)]]]⟩]:=gh t4 (by omega) rfl ⟨_,_,_,rfl,Zf,Zf,u4⟩
 have e34:loadN F N24 (fR+5) 0 1=some [.l (fR+4) 0 1 1]:=bj t5 1 rfl
 have hP2:∀p∈[(⟨0,false,[],[],false,[[[(sD,false)],[([97],false),([98],false)]]]⟩:fm)],Gl p:=by
  intro p hp;rw[List.mem_singleton]at hp;subst hp;show(∀q∈([]:List Pc),q.1.length≤1000000)∧(∀q∈([]:List Pc),q.1.length≤1000000)∧(∀x∈[[[(sD,false)],[(([97]:List UInt8),false),([98],false)]]],Gh x)∧0≤1000000∧0≤1000000;unfold Gh;decide
 simp only[WX,B7,e34]
 refine av ((w17 Φ h17 h40 h63 h62 h80 h81 h82 h90 h83 h61 h39 h33 h57 h58 h59 h60 h79 h89 h77 h52 h54 h71 af9 u5 hP2 (by decide)).mono ?_)
 rintro r N25 c25 ⟨rfl,g25⟩
 rw[show pN [(⟨0,false,[],[],false,[[[(sD,false)],[([97],false),([98],false)]]]⟩:fm)]=false by decide+kernel,show Q5 false= .i .i64 2 from rfl]
 simp only[WX]
 refine av ((yH Φ h13 2).mono ?_)
 rintro r X8 y8 ⟨rfl,rfl,rfl⟩
 simp only[WX,B7,dn2]
 refine av ((yH Φ h13 0).mono ?_)
 rintro r X9 y9 ⟨rfl,rfl,rfl⟩
 simp only[WX]
 refine av ((yH Φ h13 0).mono ?_)
 rintro r X10 y10 ⟨rfl,rfl,rfl⟩
 simp only[WX,q00]
 refine av ((yH Φ h13 0).mono ?_)
 rintro r X11 y11 ⟨rfl,rfl,rfl⟩
 simp only[WX,q00]
 refine av ((yH Φ h13 4).mono ?_)
 rintro r X12 y12 ⟨rfl,rfl,rfl⟩
 simp only[WX]
 refine av ((yH Φ h13 4).mono ?_)
 rintro r X13 y13 ⟨rfl,rfl,rfl⟩
 simp only[WX]
 refine av ((yH Φ h13 3).mono ?_)
 rintro r X14 y14 ⟨rfl,rfl,rfl⟩
 simp only[WX]
 refine av ((yH Φ h13 4).mono ?_)
 rintro r X15 y15 ⟨rfl,rfl,rfl⟩
 simp only[WX]
 refine av ((yH Φ h13 4).mono ?_)
 rintro r ce y16 ⟨rfl,rfl,rfl⟩
 simp only[WX,h9,hkn]
end
end Go.Proofs.YtmbpllipombieaaDoor.Ev
