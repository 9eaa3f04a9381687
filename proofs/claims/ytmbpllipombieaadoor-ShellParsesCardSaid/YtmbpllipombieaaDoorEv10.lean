/- What is proved here: pieces of the evaluator's soundness: if the evaluator comes to a value, the model's run comes to it, for every world and tape; no conditions beyond the hypotheses of each theorem. -/
import Derived.Test.YtmbpllipombieaaDoorEv9
set_option linter.unusedSimpArgs false
set_option linter.unusedVariables false
set_option linter.defProp false
set_option maxRecDepth 10000
set_option maxHeartbeats 16000000
namespace Go.Proofs.YtmbpllipombieaaDoor.Ev
open Go
noncomputable section
abbrev rE(u:List (Option V))(x0 x2 x4 x6 x7 x8 x9:V):T:=(.n (.n (.n (.n (aq u 63 31 95 15 79 47 111) (some x7) (aq u 71 39 103 23 87 55 119)) (uO u 3) (.n (aq u 67 35 99 19 83 51 115) (uO u 11) (aq u 75 43 107 27 91 59 123))) (uO u 1) (.n (.n (aq u 65 33 97 17 81 49 113) (some x9) (aq u 73 41 105 25 89 57 121)) (uO u 5) (.n (aq u 69 37 101 21 85 53 117) (uO u 13) (aq u 77 45 109 29 93 61 125)))) (some x0) (.n (.n (.n (aq u 64 32 96 16 80 48 112) (some x8) (aq u 72 40 104 24 88 56 120)) (some x4) (.n (aq u 68 36 100 20 84 52 116) (uO u 12) (aq u 76 44 108 28 92 60 124))) (some x2) (.n (.n (aq u 66 34 98 18 82 50 114) (uO u 10) (aq u 74 42 106 26 90 58 122)) (some x6) (.n (aq u 70 38 102 22 86 54 118) (uO u 14) (aq u 78 46 110 30 94 62 126)))))
theorem aX1(Φ:Nat→Option CF)(h34:Φ 34=some RH)(h35:Φ 35=some c35)(h36:Φ 36=some J6){F:RO}{lo cs c c1 c2:Nat}{Ms M1 M2:Mem}{v:V}{TT ts:List T2}{s:List UInt8}{j:Int}{nt:Bool}{vi vc:V}{cl:List eB}(hT:zA lo cs Ms v TT)(h:RR F lo cs Ms v TT M1 c1 M2 c2 ts)(hlo:lo≤cs)(h3:cs+2≤c1)(hc:c1<c2)(hi:bC vi=true)(mp:M2.get c1=some (ae 39 [.i .i64 j,.b nt,vi,.l0,.b false,vc]))(hca:zx F lo cs Ms M2 (c1+1) c2 vc cl)(hcl:cl.length+ts.length≤500000)(hne:1≤cl.length)(b10:V)(u:List (Option V))(Q:Ex→St→Prop)
 (hQ:∀(u:List (Option V)) M' c' vc,RR F lo cs Ms v TT M1 c1 M' c' (cm (bI ts).2).2→zx F lo cs Ms M' (c1+1) c' vc (cl++(bI ts).1::(cm (bI ts).2).1)→M'.get c1=some (ae 39 [.i .i64 j,.b nt,vi,.l0,.b false,vc])→c2≤c'→Q (.ext 2) (.mk ((rD u (sV s) (.p c 0) v (.p cs 0) (.p (cs+1) 0) (.i .i64 j) (.p c1 0) b10)) [] M' c')):
 Wp nS (K Φ none 11 F) (.mk ((rD u (sV s) (.p c 0) v (.p cs 0) (.p (cs+1) 0) (.i .i64 j) (.p c1 0) b10)) [] M2 c2) Q:=by
 have c124:V.s 1 124=sV [124]:=rfl
 simp only[Un]
 obtain⟨I,hI⟩:∃I:Nat→St→Prop,∀n s',I n s'↔(∃(c3:Nat) (M3:Mem) (tr:List T2) (vc':V) (cw:List eB) (u:List (Option V)),n=tr.length∧s'= .mk ((rD u (sV s) (.p c 0) v (.p cs 0) (.p (cs+1) 0) (.i .i64 j) (.p c1 0) b10)) [] M3 c3∧RR F lo cs Ms v TT M1 c1 M3 c3 tr∧c2≤c3∧cw.length+tr.length≤500000∧1≤cw.length∧M3.get c1=some (ae 39 [.i .i64 j,.b nt,vi,.l0,.b false,vc'])∧zx F lo cs Ms M3 (c1+1) c3 vc' cw∧cl++(bI ts).1::(cm (bI ts).2).1=cw++(bI tr).1::(cm (bI tr).2).1∧(cm (bI ts).2).2=(cm (bI tr).2).2):=⟨fun n s'=>_,fun _ _=>Iff.rfl⟩
 refine bw I ?_ ts.length _ ((hI _ _).2 ⟨_,_,_,_,_,(G1 (X1 (G1 (X1 (G1 (X1 (G4 (G1 (bf (bA (br (X4 [])))))))))))),rfl,rfl,h,aj _,hcl,hne,mp,hca,rfl,rfl⟩)
 intro n s' hIs
 obtain⟨c3,M3,tr,vc',cw,u,rfl,rfl,hR,hle,hcw,hne3,mp3,hca3,he1,he2⟩:=(hI _ _).1 hIs
 clear hIs
 simp only[WX]
 refine bK4 Φ h35 h36 hT hR hlo h3 (by omega) (by omega) mp3 hca3 (by omega) b10 (G1 (X1 (G1 (X1 (G1 (X1 (G4 (G1 (bf (bA (br (X4 [])))))))))))) _ ?_
 intro u M4 c4 vc4 hR4 hca4 mp4 hle4
 have hwl:=gK tr
 have l5:load1 F M4 c1 5=some vc4:=au mp4 5
 have nc:=hca4.len
 rw[aH,List.length_singleton]at nc
 have d1:decide (((cw.length+1:Nat):Int)=1)=false:=af (by omega)
 simp only[WX,su,l5,nc,d1]
 rw[c124]
 refine az ((Y9 Φ h34 hT hR4 (by omega) [124] (by decide)).mono ?_)
 rintro r M5 c5 ⟨hle5,hf5,⟨rs,e1,rfl,hR5⟩|⟨e1,rfl,hR5⟩⟩
 ·have hrl:=dK e1;have hp:=oa e1;simp only[WX];exact⟨rs.length,by omega,(hI _ _).2 ⟨c5,M5,rs,vc4,cw++[(bI tr).1],(G1 (X1 (G1 (X1 (G1 (X1 (G4 (G1 (bf (bA (br (X4 [])))))))))))),rfl,rfl,hR5,by omega,by rw[aH,List.length_singleton];omega,by rw[aH];omega,(hf5 c1 (by omega) (by omega)).trans mp4,hca4.keep hle5 fun x a b=>hf5 x b (by omega),by rw[he1,hp];simp,by rw[he2,hp]⟩⟩
 ·rw[kr e1]at he1 he2;simp only[WX,Nat.reduceEqDiff];rw[he1,he2]at hQ;exact hQ (G1 (X1 (G1 (X1 (G1 (X1 (G4 (G1 (bf (bA (br (X4 [])))))))))))) _ _ vc4 hR5 (hca4.keep hle5 fun x a b=>hf5 x b (by omega)) ((hf5 c1 (by omega) (by omega)).trans mp4) (by omega)
theorem n23(Φ:Nat→Option CF)(h34:Φ 34=some RH)(h35:Φ 35=some c35)(h36:Φ 36=some J6){F:RO}{lo cs c c1 c2:Nat}{Ms M1 M2:Mem}{v:V}{TT ts:List T2}{s:List UInt8}{j:Int}{nt:Bool}(hT:zA lo cs Ms v TT)(h:RR F lo cs Ms v TT M1 c1 M2 c2 ts)(hlo:lo≤cs)(hcc:c<cs)(h3:cs+2≤c1)(hc:c1<c2)(mc:M1.get c=some (ae 25 [.l0]))(mp:M2.get c1=some (ae 39 [.i .i64 j,.b nt,.l0,.l0,.b false,.l0]))(hml:ts.length≤490000)(b10:V)(u:List (Option V))(Q:Ex→St→Prop)
 (hQ:(cA (bI ts).2).2.1=false→ ∀(u:List (Option V)) M' c' vi vc,RR F lo cs Ms v TT M1 c1 M' c' (cm (cA (bI ts).2).2.2).2→bC vi=true→rP lo cs Ms vi (cA (bI ts).2).1→zx F lo cs Ms M' (c1+1) c' vc ((bI ts).1::(cm (cA (bI ts).2).2.2).1)→M'.get c1=some (ae 39 [.i .i64 j,.b nt,vi,.l0,.b false,vc])→c2≤c'→Q (.ext 2) (.mk ((rE u (sV s) (.p c 0) v (.p cs 0) (.p (cs+1) 0) (.i .i64 j) (.p c1 0))) [] M' c'))
 (hE:(cA (bI ts).2).2.1=true→ ∀(u:List (Option V)) M' c' rs,RR F lo cs Ms v TT M1 c1 M' c' rs→Q .ret (.mk ((nM u (.p c 0) (.i .i64 4))) [] M' c')):
 Wp nS (K Φ none 11 F) (.mk ((rD u (sV s) (.p c 0) v (.p cs 0) (.p (cs+1) 0) (.i .i64 j) (.p c1 0) b10)) [] M2 c2) Q:=by
 have c124:V.s 1 124=sV [124]:=rfl
 have J7:V.s 1 60=sV [60]:=rfl
 rw[show nS= .loop (.block 3 (.seq t5 (.seq (.seq xD xE) t8)))from rfl,iC]
 simp only[WX]
 refine bK4 Φ h35 h36 (cl:=[]) hT h hlo h3 (by omega) (by omega) mp ⟨0,[],aX.nil,rfl,aD _,fun i hi=>(by cases hi)⟩ (aD _) b10 (G1 (X1 (G1 (X1 (G1 (X1 (G4 (G1 (bf (bA (br (X4 [])))))))))))) _ ?_
 intro u M4 c4 vc4 hR4 hca4 mp4 hle4
 have hwl:=gK ts
 have l5:load1 F M4 c1 5=some vc4:=au mp4 5
 have nc:pf vc4=some (.i .i64 1):=hca4.len
 have BAR:∀(M6:Mem) (c6:Nat) (t6:List T2) (vi:V) (b:V) (u:List (Option V)),(cA (bI ts).2).2.1=false→t6=(cA (bI ts).2).2.2→RR F lo cs Ms v TT M1 c1 M6 c6 t6→c4≤c6→bC vi=true→rP lo cs Ms vi (cA (bI ts).2).1→zx F lo cs Ms M6 (c1+1) c6 vc4 [(bI ts).1]→M6.get c1=some (ae 39 [.i .i64 j,.b nt,vi,.l0,.b false,vc4])→
  Wp t8 (K Φ none 11 F) (.mk ((rD u (sV s) (.p c 0) v (.p cs 0) (.p (cs+1) 0) (.i .i64 j) (.p c1 0) b)) [] M6 c6) (d8 3 (Aj (.block 3 (.seq t5 (.seq (.seq xD xE) t8))) (K Φ none 11 F) Q)):=by
  intro M6 c6 t6 vi b u hb ht hR6 hle6 i1 hvi hca6 mp6;subst ht;have hil:=tS (bI ts).2;simp only[WX,su];rw[c124];refine az ((Y9 Φ h34 hT hR6 (by omega) [124] (by decide)).mono ?_);rintro r M7 c7 ⟨hle7,hf7,⟨rs,e1,rfl,hR7⟩|⟨e1,rfl,hR7⟩⟩
  ·have hrl:=dK e1;have hp:=oa e1;simp only[WX];refine(show Wp nS _ _ _ from aX1 Φ h34 h35 h36 hT hR7 hlo h3 (by omega) i1 ((hf7 c1 (by omega) (by omega)).trans mp6) (hca6.keep hle7 fun x a b=>hf7 x b (by omega)) (by simp only[aA,aM];omega) (aj _) b (G1 (X1 (G1 (X1 (G1 (X1 (G4 (G1 (bf (bA (br (X4 [])))))))))))) _ ?_);intro u M8 c8 vc8 hR8 hca8 mp8 hle8;rw[hp]at hQ;exact hQ hb (G1 (X1 (G1 (X1 (G1 (X1 (G4 (bf (bA (br (X4 (X1 [])))))))))))) _ _ vi vc8 hR8 i1 hvi hca8 mp8 (by omega)
  ·rw[kr e1]at hQ;simp only[WX,Nat.reduceEqDiff];exact hQ hb (G1 (X1 (G1 (X1 (G1 (X1 (G4 (bf (bA (br (X4 (X1 [])))))))))))) _ _ vi vc4 hR7 i1 hvi (hca6.keep hle7 fun x a b=>hf7 x b (by omega)) ((hf7 c1 (by omega) (by omega)).trans mp6) (by omega)
 simp only[WX,Uk,l5,nc]
 rw[J7]
 refine az ((Y9 Φ h34 hT hR4 (by omega) [60] (by decide)).mono ?_)
 rintro r M5 c5 ⟨hle5,hf5,⟨rs,e1,rfl,hR5⟩|⟨e1,rfl,hR5⟩⟩
 ·have hrl:=dK e1;have hi:cA (bI ts).2=redir rs:=by unfold cA;rw[e1]
  simp only[WX,Ul,Et];refine az ((bZ8 Φ h36 hT hR5 (by omega)).mono ?_);rintro r M6 c6 ⟨pv,rfl,p1,hw,hR6,hf6,hle6⟩;have mp6:M6.get c1=some (ae 39 [.i .i64 j,.b nt,.l0,.l0,.b false,vc4]):=(hf6 c1 (by omega) (by omega)).trans ((hf5 c1 (by omega) (by omega)).trans mp4);have hG:flatten (V.g [pv])=[pv]:=rfl;have st:=aC mp6 2 [pv] (by simp) (by rw[av,bO,p1];rfl);have ho:over [.i .i64 j,.b nt,.l0,.l0,.b false,vc4] 2 [pv]=[.i .i64 j,.b nt,pv,.l0,.b false,vc4]:=rfl;rw[ho]at st;have hR7:=hR6.put (by omega) (aj _) (z:=ae 39 [.i .i64 j,.b nt,pv,.l0,.b false,vc4]) (by omega) mp6;cases hbd:(redir rs).2.1 with
  |true=>
   have mc7:(M6.set c1 (ae 39 [.i .i64 j,.b nt,pv,.l0,.b false,vc4])).get c=some (ae 25 [.l0]):=(hR7.g.old c (by omega) (by omega)).trans mc;have stc:=aC mc7 0 [V.l0] (by simp) rfl;have hovc:over [V.l0] 0 [V.l0]=[V.l0]:=rfl;rw[hovc,←cq mc7]at stc;have hG0:flatten (V.g [V.l0])=[V.l0]:=rfl;simp only[WX,Er,Um,Es,hG,st,hG0,stc];exact hE (by rw[hi,hbd]) (X2 (G2 (bf (bA (br (X8 (X2 (X1 [])))))))) _ _ _ hR7
  |false=>
   simp only[WX,Er,Es,hG,st];exact BAR _ _ _ pv (.b true) (G1 (X1 (G1 (X1 (G1 (X1 (G4 (G1 (bf (bA (br (X4 [])))))))))))) (by rw[hi,hbd]) (by rw[hi]) hR7 (by omega) p1 (by rw[hi];exact hw) (hca4.keep (by omega) fun x a b=>(ak _ _ (by omega)).trans ((hf6 x (by omega) (by omega)).trans (hf5 x b (by omega)))) (am _ _ _)
 ·have hi:cA (bI ts).2=([],false,(bI ts).2):=by unfold cA;rw[e1]
  simp only[WX,Et];exact BAR _ _ _ .l0 b10 (G1 (X1 (G1 (X1 (G1 (X1 (G4 (G1 (bf (bA (br (X4 [])))))))))))) (by rw[hi]) (by rw[hi]) hR5 hle5 rfl (by rw[hi];exact sM lo cs Ms) (hca4.keep hle5 fun x a b=>hf5 x b (by omega)) ((hf5 c1 (by omega) (by omega)).trans mp4)
abbrev Gn(u:List (Option V))(x0 x2 x4 x6 x7 x8:V):T:=(.n (.n (.n (.n (aq u 63 31 95 15 79 47 111) (some x7) (aq u 71 39 103 23 87 55 119)) (uO u 3) (.n (aq u 67 35 99 19 83 51 115) (uO u 11) (aq u 75 43 107 27 91 59 123))) (uO u 1) (.n (.n (aq u 65 33 97 17 81 49 113) (uO u 9) (aq u 73 41 105 25 89 57 121)) (uO u 5) (.n (aq u 69 37 101 21 85 53 117) (uO u 13) (aq u 77 45 109 29 93 61 125)))) (some x0) (.n (.n (.n (aq u 64 32 96 16 80 48 112) (some x8) (aq u 72 40 104 24 88 56 120)) (some x4) (.n (aq u 68 36 100 20 84 52 116) (uO u 12) (aq u 76 44 108 28 92 60 124))) (some x2) (.n (.n (aq u 66 34 98 18 82 50 114) (uO u 10) (aq u 74 42 106 26 90 58 122)) (some x6) (.n (aq u 70 38 102 22 86 54 118) (uO u 14) (aq u 78 46 110 30 94 62 126)))))
theorem bK5(Φ:Nat→Option CF)(h34:Φ 34=some RH)(h36:Φ 36=some J6){F:RO}{lo cs c c1 c2:Nat}{Ms M1 M2:Mem}{v:V}{TT ts:List T2}{s:List UInt8}{j:Int}{nt beh:Bool}{vi vc:V}(hT:zA lo cs Ms v TT)(h:RR F lo cs Ms v TT M1 c1 M2 c2 ts)(hlo:lo≤cs)(hcc:c<cs)(h3:cs+2≤c1)(hc:c1<c2)(mc:M1.get c=some (ae 25 [.l0]))(mp:M2.get c1=some (ae 39 [.i .i64 j,.b nt,vi,.l0,.b beh,vc]))(u:List (Option V))(Q:Ex→St→Prop)
 (hQ:(redir ts).2.1=false→ ∀(u:List (Option V)) M' c' vo,RR F lo cs Ms v TT M1 c1 M' c' (redir ts).2.2→bC vo=true→rP lo cs Ms vo (redir ts).1→M'.get c1=some (ae 39 [.i .i64 j,.b nt,vi,vo,.b beh,vc])→c2≤c'→(∀x,c1<x→x<c2→M'.get x=M2.get x)→Q .nrm (.mk ((rE u (sV s) (.p c 0) v (.p cs 0) (.p (cs+1) 0) (.i .i64 j) (.p c1 0))) [] M' c'))
 (hE:(redir ts).2.1=true→ ∀(u:List (Option V)) M' c' rs,RR F lo cs Ms v TT M1 c1 M' c' rs→Q .ret (.mk ((nM u (.p c 0) (.i .i64 4))) [] M' c')):
 Wp Ch (K Φ none 11 F) (.mk ((rE u (sV s) (.p c 0) v (.p cs 0) (.p (cs+1) 0) (.i .i64 j) (.p c1 0))) [] M2 c2) (eg (.seq Ci Cj) (K Φ none 11 F) Q):=by
 simp only[WX,su]
 refine az ((bZ8 Φ h36 hT h (by omega)).mono ?_)
 rintro r M6 c6 ⟨pv,rfl,p1,hw,hR6,hf6,hle6⟩
 have mp6:=(hf6 c1 (by omega) (by omega)).trans mp
 have hG:flatten (V.g [pv])=[pv]:=rfl
 have st:=aC mp6 3 [pv] (by simp) (by rw[av,bO,p1];rfl)
 have ho:over [.i .i64 j,.b nt,vi,.l0,.b beh,vc] 3 [pv]=[.i .i64 j,.b nt,vi,pv,.b beh,vc]:=rfl
 rw[ho]at st
 have hR7:=hR6.put (by omega) (aj _) (z:=ae 39 [.i .i64 j,.b nt,vi,pv,.b beh,vc]) (by omega) mp6
 cases hbd:(redir ts).2.1 with
 |true=>
  have mc7:(M6.set c1 (ae 39 [.i .i64 j,.b nt,vi,pv,.b beh,vc])).get c=some (ae 25 [.l0]):=(hR7.g.old c (by omega) (by omega)).trans mc;have stc:=aC mc7 0 [V.l0] (by simp) rfl;have hovc:over [V.l0] 0 [V.l0]=[V.l0]:=rfl;rw[hovc,←cq mc7]at stc;have hG0:flatten (V.g [V.l0])=[V.l0]:=rfl;simp only[WX,su,hG,st,hG0,stc];exact hE hbd (X2 (G2 (bf (bA (br (X8 (X2 (X1 [])))))))) _ _ _ hR7
 |false=>
  simp only[WX,su,hG,st];exact hQ hbd (G1 (X1 (G1 (X1 (G1 (X1 (G4 (bf (bA (br (X4 (X1 [])))))))))))) _ _ pv hR7 p1 hw (am _ _ _) hle6 fun x a b=>(ak _ _ (by omega)).trans (hf6 x b (by omega))
theorem ch5(Φ:Nat→Option CF)(h34:Φ 34=some RH)(h36:Φ 36=some J6){F:RO}{lo cs c c1 c2:Nat}{Ms M1 M2:Mem}{v:V}{TT ts:List T2}{s:List UInt8}{j:Int}{nt:Bool}{vi vc:V}(hT:zA lo cs Ms v TT)(h:RR F lo cs Ms v TT M1 c1 M2 c2 ts)(hlo:lo≤cs)(hcc:c<cs)(h3:cs+2≤c1)(hc:c1<c2)(mc:M1.get c=some (ae 25 [.l0]))(mp:M2.get c1=some (ae 39 [.i .i64 j,.b nt,vi,.l0,.b false,vc]))(u:List (Option V))(Q:Ex→St→Prop)
 (hQ:(dm ts).2.2.1=false→ ∀(u:List (Option V)) M' c' vo,RR F lo cs Ms v TT M1 c1 M' c' (dm ts).2.2.2→bC vo=true→rP lo cs Ms vo (dm ts).2.1→M'.get c1=some (ae 39 [.i .i64 j,.b nt,vi,vo,.b (dm ts).1,vc])→c2≤c'→(∀x,c1<x→x<c2→M'.get x=M2.get x)→Q .nrm (.mk ((rE u (sV s) (.p c 0) v (.p cs 0) (.p (cs+1) 0) (.i .i64 j) (.p c1 0))) [] M' c'))
 (hE:(dm ts).2.2.1=true→ ∀(u:List (Option V)) M' c' rs,RR F lo cs Ms v TT M1 c1 M' c' rs→Q .ret (.mk ((nM u (.p c 0) (.i .i64 4))) [] M' c')):
 Wp xG (K Φ none 11 F) (.mk ((rE u (sV s) (.p c 0) v (.p cs 0) (.p (cs+1) 0) (.i .i64 j) (.p c1 0))) [] M2 c2) (eg (.seq tc td) (K Φ none 11 F) Q):=by
 have Ho:V.s 1 62=sV [62]:=rfl
 have cgg:V.s 2 15934=sV [62,62]:=rfl
 simp only[WX,su]
 rw[cgg]
 refine az ((Y9 Φ h34 hT h (by omega) [62,62] (by decide)).mono ?_)
 rintro r M3 c3 ⟨hle3,hf,⟨rs,e1,rfl,hR⟩|⟨e1,rfl,hR⟩⟩
 ·have ho:dm ts=(true,redir rs):=by unfold dm;rw[e1]
  rw[ho]at hQ hE;have m3:=(hf c1 (by omega) (by omega)).trans mp;have st:=aC m3 4 [V.b true] (by simp) rfl;have hov:over [.i .i64 j,.b nt,vi,.l0,.b false,vc] 4 [V.b true]=[.i .i64 j,.b nt,vi,.l0,.b true,vc]:=rfl;rw[hov]at st;have m4:=am M3 c1 (ae 39 [.i .i64 j,.b nt,vi,.l0,.b true,vc]);have l4:load1 F (M3.set c1 (ae 39 [.i .i64 j,.b nt,vi,.l0,.b true,vc])) c1 4=some (.b true):=au m4 4;have hR4:=hR.put (by omega) (aj _) (z:=ae 39 [.i .i64 j,.b nt,vi,.l0,.b true,vc]) (by omega) m3;simp only[WX,Eu,yQ,st,l4];exact bK5 Φ h34 h36 hT hR4 hlo hcc h3 (by omega) mc m4 (G1 (X1 (G1 (X1 (G1 (X1 (G4 (bf (bA (br (X4 (X1 [])))))))))))) _ (fun hb u M5 c5 vo hR5 o1 o2 m5 hle hf5=>hQ hb u M5 c5 vo hR5 o1 o2 m5 (by omega) fun x a b=>(hf5 x a (by omega)).trans ((ak _ _ (by omega)).trans (hf x b (by omega)))) hE
 ·have m3:=(hf c1 (by omega) (by omega)).trans mp;have st:=aC m3 4 [V.b false] (by simp) rfl;have hov:over [.i .i64 j,.b nt,vi,.l0,.b false,vc] 4 [V.b false]=[.i .i64 j,.b nt,vi,.l0,.b false,vc]:=rfl;rw[hov]at st;have m4:=am M3 c1 (ae 39 [.i .i64 j,.b nt,vi,.l0,.b false,vc]);have l4:load1 F (M3.set c1 (ae 39 [.i .i64 j,.b nt,vi,.l0,.b false,vc])) c1 4=some (.b false):=au m4 4;have hR4:=hR.put (by omega) (aj _) (z:=ae 39 [.i .i64 j,.b nt,vi,.l0,.b false,vc]) (by omega) m3;simp only[WX,Eu,st,l4];rw[Ho];refine az ((Y9 Φ h34 hT hR4 (by omega) [62] (by decide)).mono ?_);rintro r M5 c5 ⟨hle5,hf5,⟨rs,e2,rfl,hR5⟩|⟨e2,rfl,hR5⟩⟩
  ·have ho:dm ts=(false,redir rs):=by unfold dm;rw[e1,e2]
   rw[ho]at hQ hE;simp only[WX,yQ];exact bK5 Φ h34 h36 hT hR5 hlo hcc h3 (by omega) mc ((hf5 c1 (by omega) (by omega)).trans m4) (G1 (X1 (G1 (X1 (G1 (X1 (G4 (bf (bA (br (X4 (X1 [])))))))))))) _ (fun hb u M6 c6 vo hR6 o1 o2 m6 hle hf6=>hQ hb u M6 c6 vo hR6 o1 o2 m6 (by omega) fun x a b=>(hf6 x a (by omega)).trans ((hf5 x (by omega) (by omega)).trans ((ak _ _ (by omega)).trans (hf x b (by omega))))) hE
  ·have ho:dm ts=(false,[],false,ts):=by unfold dm;rw[e1,e2]
   rw[ho]at hQ;simp only[WX,yQ];exact hQ rfl (G1 (X1 (G1 (X1 (G1 (X1 (G4 (bf (bA (br (X4 (X1 [])))))))))))) _ _ .l0 hR5 rfl (sM lo cs Ms) ((hf5 c1 (by omega) (by omega)).trans m4) (by omega) fun x a b=>(hf5 x (by omega) (by omega)).trans ((ak _ _ (by omega)).trans (hf x b (by omega)))
theorem ch6(Φ:Nat→Option CF){F:RO}{lo cs c c1 c2:Nat}{Ms M1 M2:Mem}{v:V}{TT ts:List T2}{s:List UInt8}{j:Int}{nt beh:Bool}{vi vo vc vl:V}{w1 w2:List Pc}{cl:List eB}{dn:List fD}(h:RR F lo cs Ms v TT M1 c1 M2 c2 ts)(hlo:lo≤cs)(h3:cs+2≤c1)(hc:c1<c2)(h9:M1.get (cs+1)=some (ae 25 [vl]))(hL:li F lo cs Ms M1 (cs+2) c1 vl dn)(hdn:dn.length≤900000)
 (mp:M2.get c1=some (ae 39 [.i .i64 j,.b nt,vi,vo,.b beh,vc])) (i1:bC vi=true) (o1:bC vo=true) (hvi:rP lo cs Ms vi w1) (hvo:rP lo cs Ms vo w2) (hca:zx F lo cs Ms M2 (c1+1) c2 vc cl) (u:List (Option V)) (Q:Ex→St→Prop)
 (hQ:∀(u:List (Option V)) M' c' vl',RR F lo cs Ms v TT M' c' M' c' ts→M'.get (cs+1)=some (ae 25 [vl'])→li F lo cs Ms M' (cs+2) c' vl' (dn++[⟨j,nt,w1,w2,beh,cl⟩])→(∀x,x<cs→M'.get x=M1.get x)→c1≤c'→Q .nrm (.mk ((rE u (sV s) (.p c 0) v (.p cs 0) (.p (cs+1) 0) (.i .i64 j) (.p c1 0))) [] M' c')):
 Wp tf (K Φ none 11 F) (.mk ((rE u (sV s) (.p c 0) v (.p cs 0) (.p (cs+1) 0) (.i .i64 j) (.p c1 0))) [] M2 c2) Q:=by
 have m9:M2.get (cs+1)=some (ae 25 [vl]):=(h.g.old _ (by omega) (by omega)).trans h9
 have l9:load1 F M2 (cs+1) 0=some vl:=au m9 0
 have ln:loadN F M2 c1 0 6=some [.i .i64 j,.b nt,vi,vo,.b beh,vc]:=aP mp 6 rfl
 obtain⟨v1,v2,v3⟩:=hca.one
 have hG:flatten (V.g [.i .i64 j,.b nt,vi,vo,.b beh,vc])=[.i .i64 j,.b nt,vi,vo,.b beh,vc]:=rfl
 have hall:=AD (j:=j) (nt:=nt) (beh:=beh) i1 o1 v1
 have gZ:=(Gr.refl h.ok).set c2 (cL [.i .i64 0,.b false,.l0,.l0,.b false,.l0] 39 [.i .i64 j,.b nt,vi,vo,.b beh,vc]) (aj _) (ay _) (aJ _)
 have okZ:=gZ.ok h.ok
 have hys:cE F (M2.set c2 (cL [.i .i64 0,.b false,.l0,.l0,.b false,.l0] 39 [.i .i64 j,.b nt,vi,vo,.b beh,vc])) (c2+1) 6 (.l c2 0 1 1) [[.i .i64 j,.b nt,vi,vo,.b beh,vc]]:=II (d:=[.i .i64 0,.b false,.l0,.l0,.b false,.l0]) (ty:=39) (by rw[am];rfl) (ay _) (fun e he=>by rw[List.mem_singleton]at he;subst he;rfl) rfl
 have hPO:rO lo cs Ms M2 c1 c2 fun M'=>J5 F c1 M' c2 [.i .i64 j,.b nt,vi,vo,.b beh,vc] ⟨j,nt,w1,w2,beh,cl⟩:=by
  intro M' hB hM;refine⟨vi,vo,vc,rfl,(hvi F M' hB).upc (by omega),(hvo F M' hB).upc (by omega),?_⟩;exact(hca.own M' hB fun x a1 a2=>hM x (by omega) a2).up (by omega) (aj _)
 have hL2:li F lo cs Ms M2 (cs+2) c1 vl dn:=hL.keep (aj _) fun x a1 a2=>h.g.old x a2 (by omega)
 obtain⟨b,es,hA,q1,q2,q3⟩:=hL2
 obtain⟨b1,hA1,hb1⟩:∃b1,aX (M2.set c2 (cL [.i .i64 0,.b false,.l0,.l0,.b false,.l0] 39 [.i .i64 j,.b nt,vi,vo,.b beh,vc])) (cs+2) (c2+1) b1 39 6 vl es∧((b1=b∧cs+2≤b∧b<c1∧M2.get b=some (pC 39 es.flatten))∨(es=[]∧c2+1≤b1)):=by
  rcases hA with⟨a0,⟨a1,a2⟩|⟨a1,a2,a3,a4⟩⟩
  ·exact⟨c2+1,⟨a0,.inl ⟨a1,a2⟩⟩,.inr ⟨a1,aj _⟩⟩
  ·exact⟨b,⟨a0,.inr ⟨a1,by omega,a3,by rw[ak _ _ (by omega)];exact a4⟩⟩,.inl ⟨rfl,a1,a2,a4⟩⟩
 have gA:Gr (cs+2) M2 (c2+1) (M2.set c2 (cL [.i .i64 0,.b false,.l0,.l0,.b false,.l0] 39 [.i .i64 j,.b nt,vi,vo,.b beh,vc])):=⟨by omega,fun x hx=>gZ.old x (by omega),gZ.new⟩
 simp only[WX,Nat.reduceAdd,su,l9,ln,hG,i1,o1,v1,Bool.and_self,aB]
 refine az ((fO (bytes:=96) hA1 gA (by decide) hys (by show aK [.i .i64 j,.b nt,vi,vo,.b beh,vc]=true;exact hall) (eP (by simp only[aA,aM];omega) (by simp only[aA,aM];omega))).mono ?_)
 rintro vl' M3 c3 ⟨b',hA3,g3,hle3,hfr,hb'⟩
 obtain⟨k1,k2,k3⟩:=jj (hA3.sl (F:=F))
 have m93:M3.get (cs+1)=some (ae 25 [vl]):=(g3.old _ (by omega)).trans m9
 have st:=aC m93 0 [vl'] (by simp) k3
 simp only[WX,k2,st]
 have OLD:∀x,x<c2→x≠cs+1→x≠b1→(M3.set (cs+1) (ae 25 [vl'])).get x=M2.get x:=fun x a1 a2 a3=>by
  rw[ak _ _ a2,hfr x (by omega) a3];exact gZ.old x a1
 have gF:eW (fun x=>x=cs+1∨x=b1) c2 M2 c3 (M3.set (cs+1) (ae 25 [vl'])):=⟨by omega,fun x a1 a2=>OLD x a1 (fun e=>a2 (.inl e)) (fun e=>a2 (.inr e)),fun x hx=>by rw[ak _ _ (by omega)];exact g3.new x hx⟩
 have okF:cR F (M3.set (cs+1) (ae 25 [vl'])) c3:=gF.ok h.ok fun x a e=>by
  rcases e with rfl|rfl
  ·exact⟨_,m9⟩
  ·rcases hb1 with⟨rfl,_,_,hm⟩|⟨_,a2⟩
   ·exact⟨_,hm⟩
   ·omega
 have NB:∀x,x<cs+2→x≠b1:=fun x a e=>by
  rcases hb1 with⟨rfl,_,_⟩|⟨_,a2⟩<;>omega
 refine hQ (G1 (X1 (G1 (X1 (G1 (X1 (G4 (bf (bA (br (X4 (X1 [])))))))))))) _ _ vl' ⟨eW.of (Gr.refl okF),okF,h.cu.get (OLD cs (by omega) (by omega) (NB _ (by omega))),fun x a1 a2=>(OLD x (by omega) (by omega) (NB _ (by omega))).trans (h.bk x a1 a2)⟩ (am _ _ _) ?_ (fun x a1=>(OLD x (by omega) (by omega) (NB x (by omega))).trans (h.g.old x (by omega) (by omega))) (by omega)
 refine⟨b',es++[[.i .i64 j,.b nt,vi,vo,.b beh,vc]],fL hA3 (by omega),by rw[aH,aH,q1];rfl,by rw[aH,List.length_singleton];omega,fun i hi hi'=>?_⟩
 by_cases hie:i<es.length
 ·obtain⟨l,h2,e2,e3,e4,e5,e6⟩:=q3 i hie (by omega);have hb1':b1<l∨h2≤b1:=by
   rcases hb1 with⟨rfl,_,_⟩|⟨_,a2⟩<;>omega
  refine⟨l,h2,e2,e3,by omega,by omega,?_⟩;have:=e6.up (M2:=M3.set (cs+1) (ae 25 [vl'])) fun x a1 a2=>OLD x (by omega) (by omega) (by omega);rw[dC (by omega)];rw[dC (by omega)];exact this
 ·rw[aH]at hi;simp only[aA,aM]at hi;obtain rfl:i=es.length:=by omega
  have hb1':b1<c1∨c2≤b1:=by
   rcases hb1 with⟨rfl,_,a,_⟩|⟨_,a2⟩<;>omega
  refine⟨c1,c2,by omega,by omega,by omega,by omega,?_⟩;have:=hPO.up (M2:=M3.set (cs+1) (ae 25 [vl'])) fun x a1 a2=>OLD x (by omega) (by omega) (by omega);rw[dB (aj _)];rw[dB (by omega)];simp only[q1,Nat.sub_self,List.getElem_cons_zero];exact this
theorem ch7(Φ:Nat→Option CF)(h34:Φ 34=some RH){F:RO}{lo cs c c1 c2:Nat}{Ms M1 M2:Mem}{v:V}{TT ts:List T2}{s:List UInt8}{j:Int}(hT:zA lo cs Ms v TT)(h:RR F lo cs Ms v TT M2 c2 M2 c2 ts)(h3:cs<c2)(u:List (Option V))(Q:Ex→St→Prop)
 (hQ0:dU ts=none→ ∀(u:List (Option V)) M' c',RR F lo cs Ms v TT M2 c2 M' c' ts→Q (.ext 0) (.mk ((Gn u (sV s) (.p c 0) v (.p cs 0) (.p (cs+1) 0) (.i .i64 j))) [] M' c'))
 (hQ1:∀n rs,dU ts=some (n,rs)→ ∀(u:List (Option V)) M' c',RR F lo cs Ms v TT M2 c2 M' c' rs→Q .nrm (.mk ((Gn u (sV s) (.p c 0) v (.p cs 0) (.p (cs+1) 0) (.i .i64 n))) [] M' c')):
 Wp tg (K Φ none 11 F) (.mk ((rE u (sV s) (.p c 0) v (.p cs 0) (.p (cs+1) 0) (.i .i64 j) (.p c1 0))) [] M2 c2) (eg th (K Φ none 11 F) Q):=by
 have ca:V.s 1 59=sV [59]:=rfl
 have cb:V.s 2 9766=sV [38,38]:=rfl
 have cd:V.s 2 31868=sV [124,124]:=rfl
 simp only[WX,su]
 rw[ca]
 refine az ((Y9 Φ h34 hT h h3 [59] (by decide)).mono ?_)
 rintro r M5 c5 ⟨hle5,_,⟨rs,e1,rfl,hR⟩|⟨e1,rfl,hR⟩⟩
 ·simp only[WX,su];exact hQ1 1 rs (by unfold dU;rw[e1]) (G1 (X1 (G1 (X1 (G1 (X1 (G2 (G1 (bf (bA (br (X4 (X2 []))))))))))))) _ _ hR
 simp only[WX,su]
 rw[cb]
 refine az ((Y9 Φ h34 hT hR h3 [38,38] (by decide)).mono ?_)
 rintro r M6 c6 ⟨hle6,_,⟨rs,e2,rfl,hR⟩|⟨e2,rfl,hR⟩⟩
 ·simp only[WX,su];exact hQ1 2 rs (by unfold dU;rw[e1,e2]) (G1 (X1 (G1 (X1 (G1 (X1 (G2 (G1 (bf (bA (br (X4 (X2 []))))))))))))) _ _ hR
 simp only[WX,su]
 rw[cd]
 refine az ((Y9 Φ h34 hT hR h3 [124,124] (by decide)).mono ?_)
 rintro r M7 c7 ⟨hle7,_,⟨rs,e3,rfl,hR⟩|⟨e3,rfl,hR⟩⟩
 ·simp only[WX,su];exact hQ1 3 rs (by unfold dU;rw[e1,e2,e3]) (G1 (X1 (G1 (X1 (G1 (X1 (G2 (G1 (bf (bA (br (X4 (X2 []))))))))))))) _ _ hR
 ·simp only[WX,su];exact hQ0 (by unfold dU;rw[e1,e2,e3]) (G1 (X1 (G1 (X1 (G1 (X1 (G2 (G1 (bf (bA (br (X4 (X2 []))))))))))))) _ _ hR
theorem ci6(Φ:Nat→Option CF)(h18:Φ 18=some c18)(h41:Φ 41=some c41)(h64:Φ 64=some VQ)(h69:Φ 69=some (.orc (aG h78)))(h66:Φ 66=some VS)(h65:Φ 65=some (.orc (aG h65)))(h67:Φ 67=some Wv)(h84:Φ 84=some (.orc (aG h84)))(h19:Φ 19=some c19)(h42:Φ 42=some RI)(h68:Φ 68=some (.orc (aG h75))){F:RO}{lo cs c c1:Nat}{Ms M M1:Mem}{v vl:V}{TT tr:List T2}{s:List UInt8}{j:Int}{dn:List fD}{bad:Bool}(hT:zA lo cs Ms v TT)(h:RR F lo cs Ms v TT M1 c1 M1 c1 tr)(hlo:lo=c+1)(hlo2:lo≤cs)(h3:cs+2≤c1)(m9:M1.get (cs+1)=some (ae 25 [vl]))(hL:li F lo cs Ms M1 (cs+2) c1 vl dn)(mc:M1.get c=some (ae 25 [.l0]))(old:∀x,x<c→M1.get x=M.get x)
 (hlen:¬4096<s.length) (hto:uA s=true) (hbad:bad=false) (hLA:dv 0 (cD s)=(dn,bad,tr)) (hS:∀p∈dn,GQ p) (hz:(so 0 dn).length≤1000000) (u:List (Option V)):
 Wp ti (K Φ none 11 F) (.mk ((Gn u (sV s) (.p c 0) v (.p cs 0) (.p (cs+1) 0) (.i .i64 j))) [] M1 c1) (eg tj (K Φ none 11 F) (eg (.seq tn .ret) (K Φ none 11 F) (j6 F [.cn (.r .h) 1,.t (.l (.l .h))] fun r M' c'=>VL F s M c r M' c'))):=by
 have hprs:po s=if(decide (0<tr.length)|| !D7 dn)=true then([],4)else(dn,0):=by
  unfold po;rw[ab hlen,ab (by rw[hto];simp),hLA,hbad,Bool.false_or]
 have stc:=aC mc 0 [V.l0] (by simp) rfl
 have hovc:over [V.l0] 0 [V.l0]=[V.l0]:=rfl
 rw[hovc,←cq mc]at stc
 have lc:loadN F M1 c 0 1=some [V.l0]:=aP mc 1 rfl
 have hG:∀v,flatten (V.g [v])=[v]:=fun _=>rfl
 have ERR:∀M' c',Gr c1 M1 c' M'→po s=([],4)→VL F s M c (.t [.g [.l0],.i .i64 4]) M' c':=by
  intro M' c' g hp;have hle:=g.le;exact⟨.l0,by rw[hp],by rw[hp];exact km,by omega,fun x hx=>(g.old x (by omega)).trans (old x hx),g.new⟩
 obtain⟨k,mk,hk,htr⟩:=h.cu
 have lk:load1 F M1 cs 1=some (.i .i64 (k:Int)):=au mk 1
 have nt:=hT.len
 have htl:tr.length=TT.length-k:=by rw[htr,bu]
 cases hd:decide (0<tr.length)with
 |true=>
  have d0:decide ((k:Int)<(TT.length:Int))=true:=ah (by have:=bW hd;omega);simp only[WX,su,nP,ed,lk,nt,d0,hG,stc,lc];exact ERR _ _ (Gr.refl h.ok) (by rw[hprs,hd];rfl)
 |false=>
  have d0:decide ((k:Int)<(TT.length:Int))=false:=af (by have:=of_decide_eq_false hd;omega);have l9:loadN F M1 (cs+1) 0 1=some [vl]:=aP m9 1 rfl;have hLT:=hL.own M1 h.bk fun _ _ _=>rfl;simp only[WX,su,nP,ed,lk,nt,d0,l9];refine az ((w18 Φ h18 h41 h64 h69 h66 h65 h67 h84 h19 h42 h68 h.ok hLT.ln hS hz).mono ?_);rintro r M2 c2 ⟨rfl,g2⟩;rw[WH];have hle2:=g2.le;cases hkk:D7 dn with
  |false=>
   have e2:VV false= .i .i64 2:=rfl;have d2:decide (¬((2:Int)=0))=true:=rfl;have mc2:M2.get c=some (ae 25 [.l0]):=(g2.old c (by omega)).trans mc;have stc:=aC mc2 0 [V.l0] (by simp) rfl;rw[hovc,←cq mc2]at stc;have lc:loadN F M2 c 0 1=some [V.l0]:=aP mc2 1 rfl;simp only[WX,su,e2,d2,hG,stc,lc];exact ERR _ _ g2 (by rw[hprs,hd,hkk];rfl)
  |true=>
   have e2:VV true= .i .i64 0:=rfl;have d2:decide (¬((0:Int)=0))=false:=rfl;have mc2:M2.get c=some (ae 25 [.l0]):=(g2.old c (by omega)).trans mc;obtain⟨y1,y2,y3⟩:=hLT.ln.one;have stc:=aC mc2 0 [vl] (by simp) y3;have l92:loadN F M2 (cs+1) 0 1=some [vl]:=(g2.loadN (by omega) _ _).trans l9;have hov:over [V.l0] 0 [vl]=[vl]:=rfl;rw[hov]at stc;have lc:loadN F (M2.set c (ae 25 [vl])) c 0 1=some [vl]:=aP (am _ _ _) 1 rfl;simp only[WX,su,e2,d2,hG,l92,stc,lc];have hp:po s=(dn,0):=by rw[hprs,hd,hkk];rfl
   refine⟨vl,by rw[hp],?_,by omega,fun x hx=>by rw[ak _ _ (by omega)];exact(g2.old x (by omega)).trans (old x hx),fun x hx=>by rw[ak _ _ (by omega)];exact g2.new x hx⟩;rw[hp];intro M' hM';have hA:∀x,c<x→x<c1→M'.get x=M1.get x:=fun x a1 a2=>(hM' x (by omega) (by omega)).trans ((ak _ _ (by omega)).trans (g2.old x a2));exact(hL.own M' (fun x a1 a2=>(hA x (by omega) (by omega)).trans (h.bk x a1 a2)) fun x a1 a2=>hA x (by omega) a2).up (by omega) hle2
theorem r11(Φ:Nat→Option CF)(h:Φ 11=some c11)(h21:Φ 21=some c21)(h45:Φ 45=some c45)(h44:Φ 44=some (.orc (aG h44)))(h34:Φ 34=some RH)(h35:Φ 35=some c35)(h36:Φ 36=some J6)(h18:Φ 18=some c18)(h41:Φ 41=some c41)(h64:Φ 64=some VQ)(h69:Φ 69=some (.orc (aG h78)))(h66:Φ 66=some VS)(h65:Φ 65=some (.orc (aG h65)))(h67:Φ 67=some Wv)(h84:Φ 84=some (.orc (aG h84)))(h19:Φ 19=some c19)(h42:Φ 42=some RI)(h68:Φ 68=some (.orc (aG h75))){F:RO}{M:Mem}{c:Nat}(ok:cR F M c)(s:List UInt8):
 Calls Φ F 11 [sV s] M c fun r M' c'=>VL F s M c r M' c':=by
 refine aN h ?_
 have hG:∀v,flatten (V.g [v])=[v]:=fun _=>rfl
 have g1:=(Gr.refl ok).set c (ae 25 [.l0]) (aj _) (ay _) (aJ _)
 have mc1:=am M c (ae 25 [.l0])
 by_cases hlen:4096<s.length
 ·have d1:decide ((4096:Int)<(s.length:Int))=true:=ah (by omega);have stc:=aC mc1 0 [V.l0] (by simp) rfl;have hovc:over [V.l0] 0 [V.l0]=[V.l0]:=rfl;rw[hovc,←cq mc1]at stc;have lc:loadN F (M.set c (ae 25 [.l0])) c 0 1=some [V.l0]:=aP mc1 1 rfl;simp only[WX,su,d1,hG,stc,lc];have hp:po s=([],3):=by unfold po;rw[ac hlen]
  exact⟨.l0,by rw[hp],by rw[hp];exact km,g1⟩
 obtain⟨hPS,_,hPZ⟩:=DM (s:=s) (by omega)
 have d1:decide ((4096:Int)<(s.length:Int))=false:=af (by omega)
 simp only[WX,su,d1]
 generalize M.set c (ae 25 [.l0])=X at g1 mc1⊢
 have okX:=g1.ok ok
 have hTl:(cD s).length=(tk s 0).length:=List.length_map ..
 have htl:=Ud s 0
 refine az ((cq5 Φ h21 h45 h44 h68 h69 okX s (by omega)).mono ?_)
 rintro r M2 cs ⟨⟨ts,v,hmap,rfl,hO⟩,g2⟩
 have hle2:=g2.le
 have ok2:=g2.ok okX
 have mc2:=(g2.old c (ay _)).trans mc1
 have old2:∀x,x<c→M2.get x=M.get x:=fun x hx=>(g2.old x (by omega)).trans (g1.old x hx)
 have htsl:ts.length=(cD s).length:=by rw[hTl,←hmap,List.length_map]
 cases hto:uA s with
 |false=>
  have stc:=aC mc2 0 [V.l0] (by simp) rfl;have hovc:over [V.l0] 0 [V.l0]=[V.l0]:=rfl;rw[hovc,←cq mc2]at stc;have lc:loadN F M2 c 0 1=some [V.l0]:=aP mc2 1 rfl;simp only[WX,su,hG,stc,lc];have hp:po s=([],4):=by unfold po;rw[ab hlen,ac hto]
  exact⟨.l0,by rw[hp],by rw[hp];exact km,by omega,old2,g2.new⟩
 |true=>
  have hv1:=jj (hO F M2 fun _ _ _=>rfl).1;obtain⟨v1,v2,v3⟩:=hv1;have hG2:flatten (V.g [v,.i .i64 0])=[v,.i .i64 0]:=rfl;have hT:zA (c+1) cs M2 v (cD s):=by
   refine⟨Gq ts,fun G N hN=>(hO G N hN).1,by rw[na,htsl],by omega,fun i hi hi'=>?_⟩;have hi2:i<ts.length:=by rw[na]at hi;exact hi
   have e1:(cD s)[i]=ts[i].1.2:=by
    have:cD s=ts.map (·.1.2):=by unfold cD;rw[←hmap,List.map_map];rfl
    simp[this]
   have e2:(Gq ts)[i]=tkc ts[i]:=by simp[Gq]
   refine⟨.i .i64 (ts[i].1.1:Int),ts[i].2,by rw[e2,e1];rfl,fun G N hN=>⟨?_,?_⟩⟩
   ·rw[e1];exact(hO G N hN).2 _ (List.getElem_mem _)
   ·rw[e1];have hm:ts[i].1∈tk s 0:=by rw[←hmap];exact List.mem_map_of_mem (List.getElem_mem _)
    have:=uz (s.length+1) s 0 ts[i].1 hm;show _≤9223372036854775807;omega
  have hone:aK [v,.i .i64 0]=true:=by rw[av,av,bO,v1];rfl
  simp only[WX,Nat.reduceAdd,Nat.reduceLeDiff,su,v1,v2,hG2,Bool.and_self];have gY:Gr cs M2 (cs+2) ((M2.set cs (ae 80 [v,.i .i64 0])).set (cs+1) (ae 25 [.l0])):=((Gr.refl ok2).set cs _ (aj _) (ay _) (aJ _)).set (cs+1) _ (by omega) (by omega) (by omega);have y6:((M2.set cs (ae 80 [v,.i .i64 0])).set (cs+1) (ae 25 [.l0])).get cs=some (ae 80 [v,.i .i64 0]):=(ak _ _ (by omega)).trans (am _ _ _);have y9:((M2.set cs (ae 80 [v,.i .i64 0])).set (cs+1) (ae 25 [.l0])).get (cs+1)=some (ae 25 [.l0]):=am _ _ _;generalize(M2.set cs (ae 80 [v,.i .i64 0])).set (cs+1) (ae 25 [.l0])=Y at gY y6 y9⊢;have okY:=gY.ok ok2;have hRY:RR F (c+1) cs M2 v (cD s) Y (cs+2) Y (cs+2) (cD s):=⟨eW.of (Gr.refl okY),okY,⟨0,y6,aD _,rfl⟩,fun x a b=>gY.old x b⟩
  obtain⟨I,hI⟩:∃I:Nat→St→Prop,∀n s',I n s'↔(∃(c1:Nat) (M1:Mem) (tr:List T2) (j:Int) (dn:List fD) (vl:V) (u:List (Option V)),n=tr.length∧s'= .mk ((Gn u (sV s) (.p c 0) v (.p cs 0) (.p (cs+1) 0) (.i .i64 j))) [] M1 c1∧RR F (c+1) cs M2 v (cD s) M1 c1 M1 c1 tr∧cs+2≤c1∧M1.get (cs+1)=some (ae 25 [vl])∧li F (c+1) cs M2 M1 (cs+2) c1 vl dn∧dn.length+tr.length≤480000∧M1.get c=some (ae 25 [.l0])∧(∀x,x<c→M1.get x=M.get x)∧dv 0 (cD s)=(dn++(dv j tr).1,(dv j tr).2.1,(dv j tr).2.2)):=⟨fun n s'=>_,fun _ _=>Iff.rfl⟩
  refine bw I ?_ (cD s).length _ ((hI _ _).2 ⟨_,_,_,0,[],.l0,(G1 (X1 (G1 (X1 (G1 (X1 (G2 (G1 (bf (bA (br (X4 (X2 []))))))))))))),rfl,rfl,hRY,aj _,y9,⟨0,[],aX.nil,rfl,aD _,fun i h=>(by cases h)⟩,by simp only[aM];omega,(gY.old c (by omega)).trans mc2,fun x hx=>(gY.old x (by omega)).trans (old2 x hx),by simp⟩);intro n s' hIs;obtain⟨c1,M1,tr,j,dn,vl,u,rfl,rfl,hR,hcc1,m9,hL,hdl,mcc,old1,hLA⟩:=(hI _ _).1 hIs;clear hIs;have c33':V.s 1 33=sV [33]:=rfl
  have ERR:(dv j tr).2.1=true→ ∀(Mb:Mem) (cb:Nat),cs<cb→Mb.get c=some (ae 25 [.l0])→(∀x,x<c→Mb.get x=M.get x)→ ∀(u:List (Option V)) (M':Mem) (c':Nat) (rs:List T2),RR F (c+1) cs M2 v (cD s) Mb cb M' c' rs→j6 F [.cn (.r .h) 1,.t (.l (.l .h))] (fun r M' c'=>VL F s M c r M' c') .ret (.mk ((nM u (.p c 0) (.i .i64 4))) [] M' c'):=by
   intro hb Mb cb hcb mcb oldb u M' c' rs hR';have hle:=hR'.g.le;have mc':M'.get c=some (ae 25 [.l0]):=(hR'.g.old c (by omega) (by omega)).trans mcb;have lc:loadN F M' c 0 1=some [V.l0]:=aP mc' 1 rfl;simp only[WX,lc];have hp:po s=([],4):=by unfold po;rw[ab hlen,ab (by rw[hto];simp),hLA,hb];rfl
   exact⟨.l0,by rw[hp],by rw[hp];exact km,by omega,fun x hx=>(hR'.g.old x (by omega) (by omega)).trans (oldb x hx),hR'.g.new⟩
  simp only[WX,su];rw[c33'];refine az ((Y9 Φ h34 hT hR (by omega) [33] (by decide)).mono ?_)
  have STEP:∀(nt:Bool) (ts1:List T2) (Mb:Mem) (cb:Nat) (u:List (Option V)),jM tr=(nt,ts1)→RR F (c+1) cs M2 v (cD s) Mb cb Mb cb ts1→c1≤cb→(∀x,x<c1→x≠cs→Mb.get x=M1.get x)→ts1.length≤tr.length→
   Wp nS (K Φ none 11 F) (.mk ((rD u (sV s) (.p c 0) v (.p cs 0) (.p (cs+1) 0) (.i .i64 j) (.p cb 0) (.b true))) [] (Mb.set cb (ae 39 [.i .i64 j,.b nt,.l0,.l0,.b false,.l0])) (cb+1)) (d8 2 (eg (xG.seq Ck) (K Φ none 11 F) (d8 1 (gW I tr.length (d8 0 (eg ((ti.seq tj).seq (tn.seq .ret)) (K Φ none 11 F) (j6 F [.cn (.r .h) 1,.t (.l (.l .h))] fun r M' c'=>VL F s M c r M' c'))))))):=by
   intro nt ts1 Mb cb u hnt hRb hcb hfb hl1;have hp:cP j tr=(⟨j,nt,(cA (bI ts1).2).1,(dm (cm (cA (bI ts1).2).2.2).2).2.1,(dm (cm (cA (bI ts1).2).2.2).2).1,(bI ts1).1::(cm (cA (bI ts1).2).2.2).1⟩,(cA (bI ts1).2).2.1||(dm (cm (cA (bI ts1).2).2.2).2).2.2.1,(dm (cm (cA (bI ts1).2).2.2).2).2.2.2):=by unfold cP;rw[hnt]
   have hl4:=mY j tr;have m9b:Mb.get (cs+1)=some (ae 25 [vl]):=(hfb _ (by omega) (by omega)).trans m9;have hLb:li F (c+1) cs M2 Mb (cs+2) cb vl dn:=hL.keep hcb fun x a b=>hfb x b (by omega);have mcb:Mb.get c=some (ae 25 [.l0]):=(hfb _ (by omega) (by omega)).trans mcc;have oldb:∀x,x<c→Mb.get x=M.get x:=fun x hx=>(hfb x (by omega) (by omega)).trans (old1 x hx);have hBAD:(cA (bI ts1).2).2.1=true∨(dm (cm (cA (bI ts1).2).2.2).2).2.2.1=true→(dv j tr).2.1=true:=by
    intro hb;have hpb:(cP j tr).2.1=true:=by
     rw[hp];show(_||_)=true;rcases hb with hb|hb
     ·rw[hb];rfl
     ·rw[hb,Bool.or_true]
    cases hj:dU (cP j tr).2.2 with
    |none=>rw[o4 hj];exact hpb
    |some x=>obtain⟨j',r'⟩:=x;rw[o5 hj];show(_||_)=true;rw[hpb];rfl
   have hRb3:=hRb.grow (by omega) ((Gr.refl hRb.ok).set cb (ae 39 [.i .i64 j,.b nt,.l0,.l0,.b false,.l0]) (aj _) (ay _) (aJ _));refine n23 Φ h34 h35 h36 hT hRb3 (by omega) (by omega) (by omega) (ay _) mcb (am _ _ _) (by omega) (.b true) u _ ?_ ?_
   rotate_left
   ·intro hb u M' c' rs hR';exact ERR (hBAD (.inl hb)) Mb cb (by omega) mcb oldb u M' c' rs hR'
   ·intro hb u M4 c4 vi vc hR4 i1 hvi hca4 mp4 hle4;simp only[WX,Nat.reduceEqDiff,reduceCtorEq,Uo]
    refine Wp.mono (Q:=eg (.seq tc td) (K Φ none 11 F) (eg (.seq tf (.seq tg th)) (K Φ none 11 F) (d8 1 (gW I tr.length (d8 0 (eg ((ti.seq tj).seq (tn.seq .ret)) (K Φ none 11 F) (j6 F [.cn (.r .h) 1,.t (.l (.l .h))] fun r M' c'=>VL F s M c r M' c'))))))) ?_ fun e s' he=>(by
     cases e with
     |nrm=>show Wp (.seq (.seq tc td) (.seq tf (.seq tg th))) _ _ _;rw[yU];exact he
     |_=>exact he)
    refine ch5 Φ h34 h36 hT hR4 (by omega) (by omega) (by omega) (by omega) mcb mp4 (G1 (X1 (G1 (X1 (G1 (X1 (G4 (bf (bA (br (X4 (X1 [])))))))))))) _ ?_ ?_
    rotate_left
    ·intro hb2 u M' c' rs hR';exact ERR (hBAD (.inr hb2)) Mb cb (by omega) mcb oldb u M' c' rs hR'
    ·intro hb2 u M5 c5 vo hR5 o1 hvo mp5 hle5 hf5;simp only[WX];refine ch6 Φ hR5 (by omega) (by omega) (by omega) m9b hLb (by omega) mp5 i1 o1 hvi hvo (hca4.keep hle5 fun x a b=>hf5 x (by omega) b) (G1 (X1 (G1 (X1 (G1 (X1 (G4 (bf (bA (br (X4 (X1 [])))))))))))) _ ?_;intro u M6 c6 vl6 hR6 m96 hL6 hold6 hle6;simp only[WX];have K7:∀(M7:Mem) (c7:Nat) (t7:List T2),RR F (c+1) cs M2 v (cD s) M6 c6 M7 c7 t7→RR F (c+1) cs M2 v (cD s) M7 c7 M7 c7 t7∧cs+2≤c7∧M7.get (cs+1)=some (ae 25 [vl6])∧li F (c+1) cs M2 M7 (cs+2) c7 vl6 (dn++[(cP j tr).1])∧M7.get c=some (ae 25 [.l0])∧(∀x,x<c→M7.get x=M.get x):=by
      intro M7 c7 t7 hR7;have hle7:=hR7.g.le;refine⟨⟨eW.of (Gr.refl hR7.ok),hR7.ok,hR7.cu,hR7.bk⟩,by omega,(hR7.g.old _ (by omega) (by omega)).trans m96,?_,(hR7.g.old _ (by omega) (by omega)).trans ((hold6 c (by omega)).trans mcb),fun x hx=>(hR7.g.old _ (by omega) (by omega)).trans ((hold6 x (by omega)).trans (oldb x hx))⟩;rw[hp];exact hL6.keep hle7 fun x a b=>hR7.g.old x b (by omega)
     refine ch7 Φ h34 (M1:=M6) (c1:=cb) hT hR6 (by omega) (G1 (X1 (G1 (X1 (G1 (X1 (G4 (bf (bA (br (X4 (X1 [])))))))))))) _ ?_ ?_
     ·intro hj u M7 c7 hR7;obtain⟨k1,k2,k3,k4,k5,k6⟩:=K7 _ _ _ hR7;have hj2:dU (cP j tr).2.2=none:=by rw[hp];exact hj
      have hLA':dv 0 (cD s)=(dn++[(cP j tr).1],(cA (bI ts1).2).2.1||(dm (cm (cA (bI ts1).2).2.2).2).2.2.1,(dm (cm (cA (bI ts1).2).2.2).2).2.2.2):=by
       rw[hLA,o4 hj2,hp]
      rw[hLA']at hPS hPZ;simp only[WX,reduceCtorEq];exact ci6 Φ h18 h41 h64 h69 h66 h65 h67 h84 h19 h42 h68 hT k1 rfl (by omega) k2 k3 k4 k5 k6 hlen hto (by rw[hb,hb2];rfl) hLA' hPS hPZ (G1 (X1 (G1 (X1 (G1 (X1 (G2 (G1 (bf (bA (br (X4 (X2 [])))))))))))))
     ·intro n rs hj u M7 c7 hR7;obtain⟨k1,k2,k3,k4,k5,k6⟩:=K7 _ _ _ hR7;have hj2:dU (cP j tr).2.2=some (n,rs):=by rw[hp];exact hj
      have hjl:=mV hj2;simp only[WX];exact⟨rs.length,by omega,(hI _ _).2 ⟨c7,M7,rs,n,dn++[(cP j tr).1],vl6,(G1 (X1 (G1 (X1 (G1 (X1 (G2 (G1 (bf (bA (br (X4 (X2 []))))))))))))),rfl,rfl,k1,k2,k3,k4,by rw[aH,List.length_singleton];omega,k5,k6,by rw[hLA,o5 hj2,hp];simp only[hb,hb2,aT,List.singleton_append,Bool.or_self,Bool.false_or]⟩⟩
  have hG6:∀b:Bool,flatten (V.g [.i .i64 j,.b b,.l0,.l0,.b false,.l0])=[.i .i64 j,.b b,.l0,.l0,.b false,.l0]:=fun _=>rfl;have SN:∀(b:Bool) (M3:Mem) (c3:Nat),bR (M3.set c3 (ae 39 [.i .i64 0,.b false,.l0,.l0,.b false,.l0])) c3 0 [.i .i64 j,.b b,.l0,.l0,.b false,.l0]=some (M3.set c3 (ae 39 [.i .i64 j,.b b,.l0,.l0,.b false,.l0])):=fun b M3 c3=>dI rfl rfl;have SELF:∀(M3:Mem) (c3:Nat) (t3:List T2),RR F (c+1) cs M2 v (cD s) M1 c1 M3 c3 t3→RR F (c+1) cs M2 v (cD s) M3 c3 M3 c3 t3:=fun M3 c3 t3 h=>⟨eW.of (Gr.refl h.ok),h.ok,h.cu,h.bk⟩;rintro r M3 c3 ⟨hle3,hf,⟨rs,e1,rfl,hR3⟩|⟨e1,rfl,hR3⟩⟩
  ·have sn:=SN true M3 c3;have hl:=dK e1;simp only[WX,Nat.reduceAdd,Nat.reduceLeDiff,Ep,hG6,sn];exact STEP true rs M3 c3 (G1 (X1 (G1 (X1 (G1 (X1 (G4 (G1 (bf (bA (br (X4 [])))))))))))) (by unfold jM;rw[e1]) (SELF _ _ _ hR3) hle3 hf (by omega)
  ·have sn:=SN false M3 c3;simp only[WX,Nat.reduceAdd,Nat.reduceLeDiff,Ep,hG6,sn];exact STEP false tr M3 c3 (G1 (X1 (G1 (X1 (G1 (X1 (G4 (G1 (bf (bA (br (X4 [])))))))))))) (by unfold jM;rw[e1]) (SELF _ _ _ hR3) hle3 hf (aj _)
abbrev U6(u:List (Option V))(x3 x5 x7 x9 x10:V):T:=(.n (.n (.n (.n (aq u 63 31 95 15 79 47 111) (some x7) (aq u 71 39 103 23 87 55 119)) (some x3) (.n (aq u 67 35 99 19 83 51 115) (uO u 11) (aq u 75 43 107 27 91 59 123))) (uO u 1) (.n (.n (aq u 65 33 97 17 81 49 113) (some x9) (aq u 73 41 105 25 89 57 121)) (some x5) (.n (aq u 69 37 101 21 85 53 117) (uO u 13) (aq u 77 45 109 29 93 61 125)))) (uO u 0) (.n (.n (.n (aq u 64 32 96 16 80 48 112) (uO u 8) (aq u 72 40 104 24 88 56 120)) (uO u 4) (.n (aq u 68 36 100 20 84 52 116) (uO u 12) (aq u 76 44 108 28 92 60 124))) (uO u 2) (.n (.n (aq u 66 34 98 18 82 50 114) (some x10) (aq u 74 42 106 26 90 58 122)) (uO u 6) (.n (aq u 70 38 102 22 86 54 118) (uO u 14) (aq u 78 46 110 30 94 62 126)))))
abbrev aI4(u:List (Option V))(x3 x5 x7 x9 x10 x11:V):T:=(.n (.n (.n (.n (aq u 63 31 95 15 79 47 111) (some x7) (aq u 71 39 103 23 87 55 119)) (some x3) (.n (aq u 67 35 99 19 83 51 115) (some x11) (aq u 75 43 107 27 91 59 123))) (uO u 1) (.n (.n (aq u 65 33 97 17 81 49 113) (some x9) (aq u 73 41 105 25 89 57 121)) (some x5) (.n (aq u 69 37 101 21 85 53 117) (uO u 13) (aq u 77 45 109 29 93 61 125)))) (uO u 0) (.n (.n (.n (aq u 64 32 96 16 80 48 112) (uO u 8) (aq u 72 40 104 24 88 56 120)) (uO u 4) (.n (aq u 68 36 100 20 84 52 116) (uO u 12) (aq u 76 44 108 28 92 60 124))) (uO u 2) (.n (.n (aq u 66 34 98 18 82 50 114) (some x10) (aq u 74 42 106 26 90 58 122)) (uO u 6) (.n (aq u 70 38 102 22 86 54 118) (uO u 14) (aq u 78 46 110 30 94 62 126)))))
abbrev U7(u:List (Option V))(x3 x5 x7 x9:V):T:=(.n (.n (.n (.n (aq u 63 31 95 15 79 47 111) (some x7) (aq u 71 39 103 23 87 55 119)) (some x3) (.n (aq u 67 35 99 19 83 51 115) (uO u 11) (aq u 75 43 107 27 91 59 123))) (uO u 1) (.n (.n (aq u 65 33 97 17 81 49 113) (some x9) (aq u 73 41 105 25 89 57 121)) (some x5) (.n (aq u 69 37 101 21 85 53 117) (uO u 13) (aq u 77 45 109 29 93 61 125)))) (uO u 0) (.n (.n (.n (aq u 64 32 96 16 80 48 112) (uO u 8) (aq u 72 40 104 24 88 56 120)) (uO u 4) (.n (aq u 68 36 100 20 84 52 116) (uO u 12) (aq u 76 44 108 28 92 60 124))) (uO u 2) (.n (.n (aq u 66 34 98 18 82 50 114) (uO u 10) (aq u 74 42 106 26 90 58 122)) (uO u 6) (.n (aq u 70 38 102 22 86 54 118) (uO u 14) (aq u 78 46 110 30 94 62 126)))))
abbrev bQ4(u:List (Option V))(x3 x5 x7:V):T:=(.n (.n (.n (.n (aq u 63 31 95 15 79 47 111) (some x7) (aq u 71 39 103 23 87 55 119)) (some x3) (.n (aq u 67 35 99 19 83 51 115) (uO u 11) (aq u 75 43 107 27 91 59 123))) (uO u 1) (.n (.n (aq u 65 33 97 17 81 49 113) (uO u 9) (aq u 73 41 105 25 89 57 121)) (some x5) (.n (aq u 69 37 101 21 85 53 117) (uO u 13) (aq u 77 45 109 29 93 61 125)))) (uO u 0) (.n (.n (.n (aq u 64 32 96 16 80 48 112) (uO u 8) (aq u 72 40 104 24 88 56 120)) (uO u 4) (.n (aq u 68 36 100 20 84 52 116) (uO u 12) (aq u 76 44 108 28 92 60 124))) (uO u 2) (.n (.n (aq u 66 34 98 18 82 50 114) (uO u 10) (aq u 74 42 106 26 90 58 122)) (uO u 6) (.n (aq u 70 38 102 22 86 54 118) (uO u 14) (aq u 78 46 110 30 94 62 126)))))
def bz0:CC:=(.reg [(qq eU (.mv z0)),(qq eC (.ln .str ei)),(qq dR (.bi .gtr eb (x6 9000)))])
def cs5:=wu bz0.eq_1
def bz1:CC:=(.reg [(ee dA (.call 9 [])),(qq a2 (.mv gf))])
def cs6:=wu bz1.eq_1
def bz2:CC:=(.seq bz0 (.cond fG (.seq bz1 .ret) .skip))
def cs7:=wu bz2.eq_1
def bz3:CC:=(.reg [(qq gC (.mv z0)),(ee fK (.call 10 [gS])),(qq eX (.mv hU)),(qq i5 (.ex 0 gM)),(qq gh (.ex 1 gM)),(aa a3 (.al 25 [.l0])),(ez (.st 1 z3 jz)),(qq a4 (.mv k7))])
def cs8:=wu bz3.eq_1
def bz4:CC:=(.reg [(qq j9 (.mv z0)),(ee gO (.call 10 [kL])),(qq fE (.mv k8)),(qq jn (.ex 0 ju)),(qq gP (.ex 1 ju)),(aa a5 (.al 25 [.l0])),(ez (.st 1 z5 jA)),(qq a6 (.mv kM))])
def cs9:=wu bz4.eq_1
def bz5:CC:=(.reg [(qq gQ (.mv z0)),(ee kQ (.call 11 [lB])),(qq ja (.mv mH)),(qq gU (.ex 0 lw)),(qq jv (.ex 1 lw)),(aa a7 (.al 25 [.l0])),(ez (.st 1 z7 mI)),(qq a8 (.mv nv))])
def ct0:=wu bz5.eq_1
def bz6:CC:=(.reg [(qq jC (.ldn 1 z3)),(qq lz (.ldn 1 z7)),(ee lE (.call 12 [ny,oC])),(qq jx (.un .not pQ)),(qq iK (.mv pR)),(aw mK (.mv z4) iK),(jJ ka (.call 13 [pS]) iK),(aw mL (.mv z8) iK),(aw lA (.bi .neq oF qS) iK),(qq nj (.pk pM xT qT))])
def ct3:=wu bz6.eq_1
def bz7:CC:=(.seq (.reg [(qq a2 (.mv xF))]) .ret)
def ct4:=wu bz7.eq_1
def bz8:CC:=(.seq bz6 (.cond rJ bz7 .skip))
def ct5:=wu bz8.eq_1
def ag2:CC:=(.reg [(qq a9 (.mv (x6 0)))])
def aK3:=wu ag2.eq_1
def ag3:CC:=(.reg [(qq jb (.mv z9)),(qq kR (.fa 0 z3)),(qq oK (.ld1 rK)),(qq lF (.ln .slice rL)),(qq oL (.bi .lss pT qU))])
def aK4:=wu ag3.eq_1
def ag4:CC:=(.seq ag3 (.cond rM .skip (.exit 0)))
def aK5:=wu ag4.eq_1
def ag5:CC:=(.reg [(qq dJ (.mv (x6 0)))])
def aK6:=wu ag5.eq_1
def ag6:CC:=(.reg [(qq kb (.mv eK)),(qq lG (.fa 0 z3)),(qq qZ (.ld1 uN)),(qq r0 (.mv z9)),(qq mM (.iaS 6 uZ uP)),(qq sv (.fa 5 v7)),(qq uS (.ld1 vD)),(qq pO (.ln .slice wW)),(qq sZ (.bi .lss sq za))])
def aK7:=wu ag6.eq_1
def Nt:CC:=(.seq ag6 (.cond vE .skip (.exit 2)))
def aK8:=wu Nt.eq_1
def ag7:CC:=(.reg [(qq ey (.mv (x6 0)))])
def aK9:=wu ag7.eq_1
def ag8:CC:=(.reg [(qq sw (.mv dE)),(qq vP (.fa 0 z3)),(qq sy (.ld1 Bi)),(qq vQ (.mv z9)),(qq nA (.iaS 6 BI Bj)),(qq vR (.fa 5 zk)),(qq ve (.ld1 BJ)),(qq oN (.mv eK)),(qq rS (.iaS 1 zb zl)),(qq vf (.fa 0 vF)),(qq uT (.ld1 zd)),(qq uU (.ln .slice ze)),(qq oD (.bi .lss Bh zm))])
def bW0:=wu ag8.eq_1
def ag9:CC:=(.cond zf .skip (.exit 4))
def bW1:=wu ag9.eq_1
def ah0:CC:=(.reg [(qq pP (.fa 0 z3)),(qq vg (.ld1 zo)),(qq r4 (.mv z9)),(qq vT (.iaS 6 zq zr)),(qq vU (.fa 5 Bm)),(qq vV (.ld1 Bn)),(qq uW (.mv eK)),(qq xe (.iaS 1 Bo BK)),(qq oO (.fa 0 BL)),(qq t0 (.ld1 BM)),(qq zB (.mv dE)),(qq vW (.bld [.l0] [])),(qq Bv (.iaS 1 BN BO)),(ez (.st 1 GH ES))])
def bW2:=wu ah0.eq_1
def ah1:CC:=(.reg [(qq uV (.mv dE)),(qq fF (.bi .add zn (x6 1))),(qq ey (.mv ss))])
def bW3:=wu ah1.eq_1
def Nu:CC:=(.loop (.seq (.seq ag8 ag9) (.seq (.block 5 ah0) ah1)))
def bW4:=wu Nu.eq_1
def ah2:CC:=(.reg [(qq Bw (.fa 0 z3)),(qq rT (.ld1 ET)),(qq Bx (.mv z9)),(qq BU (.iaS 6 EU EV)),(qq BV (.fa 5 GI)),(qq BW (.ld1 EW)),(qq BX (.mv eK)),(qq BZ (.bld [.l0] [])),(qq Bz (.iaS 1 GJ GK)),(ez (.st 1 Ja GL))])
def bW5:=wu ah2.eq_1
def ah3:CC:=(.reg [(qq vN (.mv eK)),(qq vO (.bi .add BH (x6 1))),(qq dJ (.mv Bg))])
def bW6:=wu ah3.eq_1
def Nv:CC:=(.seq (.block 3 (.seq (.seq ag7 (.block 4 Nu)) ah2)) ah3)
def aL0:=wu Nv.eq_1
def ah4:CC:=(.reg [(qq xf (.fa 0 z3)),(qq H5 (.ld1 Jb)),(qq H6 (.mv z9)),(qq H7 (.bld [(.i .i64 0),(.b false),.l0,.l0,(.b false),.l0] [])),(qq oJ (.iaS 6 Jc Jd)),(ez (.st 6 qR Je))])
def bW7:=wu ah4.eq_1
def ah5:CC:=(.seq (.seq ag5 (.block 2 (.loop (.seq Nt Nv)))) ah4)
def aL1:=wu ah5.eq_1
def ah6:CC:=(.reg [(qq ll (.mv z9)),(qq oM (.bi .add sO (x6 1))),(qq a9 (.mv rN))])
def bW8:=wu ah6.eq_1
def Nw:CC:=(.block 0 (.loop (.seq ag4 (.seq (.block 1 ah5) ah6))))
def aL2:=wu Nw.eq_1
def ah7:CC:=(.reg [(qq ie (.ldn 1 z5)),(qq sU (.ldn 1 z7)),(ee sW (.call 12 [yZ,vz])),(qq rQ (.mv vA)),(p5 BS (.call 9 []) rQ),(qq v9 (.pk vC IW xF)),(qq a2 (.mv IX))])
def bW9:=wu ah7.eq_1
def ah8:CC:=(.seq bz5 (.seq bz8 (.seq (.seq ag2 Nw) (.seq ah7 .ret))))
def bX0:=wu ah8.eq_1
def ah9:CC:=(.seq (.reg [(qq a2 (.mv xF))]) (.seq bz2 (.seq bz3 (.seq bz4 ah8))))
def bX1:=wu ah9.eq_1
def c3:CF:= .mk 7 [.t a2] ah9
theorem e3(v0:V):bz 7 [v0]=(.n uY (some v0) uY):=rfl
def B3:=ai @e3 (ai @cs5 (ai @cs6 (ai @cs7 (ai @cs8 (ai @cs9 (ai @ct0 (ai @ct3 (ai @ct4 (ai @ct5 (ai @aK3 (ai @aK4 (ai @aK5 (ai @aK6 (ai @aK7 (ai @aK8 (ai @aK9 (ai @bW0 (ai @bW1 (ai @bW2 (ai @bW3 (ai @bW4 (ai @bW5 (ai @bW6 (ai @aL0 (ai @bW7 (ai @aL1 (ai @bW8 (ai @aL2 (ai @bW9 (ai @bX0 (@bX1)))))))))))))))))))))))))))))))
def Zr(T:Nat→Prop)(lo hi:Nat)(M M':Mem):Prop:=∀x,M'.get x=M.get x∨(lo≤x∧x<hi∧ ∃ty n ex d t t',T ty∧M.get x=some (.cells ty n ex 0 false d t)∧M'.get x=some (.cells ty n ex 0 false d t')∧(ty=42→ ∀k,k<n→cell n d t' k=cell n d t k∨cell n d t' k=some .l0))
theorem Zr.refl{T:Nat→Prop}{lo hi:Nat}{M:Mem}:Zr T lo hi M M:=fun _=> .inl rfl
theorem Zr.trans{T:Nat→Prop}{lo hi:Nat}{M M1 M2:Mem}(h:Zr T lo hi M M1)(g:Zr T lo hi M1 M2):Zr T lo hi M M2:=by
 intro x
 rcases g x with e2|⟨a1,a2,ty,n,ex,d,t,t',hT,b1,b2,b3⟩
 ·rcases h x with e1|⟨a1,a2,ty,n,ex,d,t,t',hT,b1,b2,b3⟩
  ·exact .inl (e2.trans e1)
  ·exact .inr ⟨a1,a2,ty,n,ex,d,t,t',hT,b1,e2.trans b2,b3⟩
 ·rcases h x with e1|⟨_,_,ty',n',ex',d',s,s',hT',c1,c2,c3⟩
  ·exact .inr ⟨a1,a2,ty,n,ex,d,t,t',hT,e1.symm.trans b1,b2,b3⟩
  ·rw[c2]at b1;injection b1 with b1
   injection b1 with e1 e2 e3 _ _ e4 e5
   subst e1 e2 e3 e4 e5;refine .inr ⟨a1,a2,ty',n',ex',d',s,t',hT,c1,b2,fun h42 k hk=>?_⟩;rcases b3 h42 k hk with h1|h1
   ·rcases c3 h42 k hk with h2|h2
    ·exact .inl (h1.trans h2)
    ·exact .inr (h1.trans h2)
   ·exact .inr h1
theorem Zr.wk{T T':Nat→Prop}{lo hi:Nat}{M M':Mem}(h:Zr T lo hi M M')(hT:∀x,T x→T' x):Zr T' lo hi M M':=fun x=>by
 rcases h x with e|⟨a1,a2,ty,n,ex,d,t,t',hh,r⟩
 ·exact .inl e
 ·exact .inr ⟨a1,a2,ty,n,ex,d,t,t',hT _ hh,r⟩
theorem Zr.out{T:Nat→Prop}{lo hi:Nat}{M M':Mem}(h:Zr T lo hi M M'){x:Nat}(hx:x<lo∨hi≤x):M'.get x=M.get x:=by
 rcases h x with e|⟨a1,a2,_⟩
 ·exact e
 ·omega
theorem Zr.ty{T:Nat→Prop}{lo hi:Nat}{M M':Mem}(h:Zr T lo hi M M'){x ty n fz:Nat}{ex str:Bool}{d:List V}{t:Ev.T}(hx:M.get x=some (.cells ty n ex fz str d t))(hT:¬T ty):M'.get x=M.get x:=by
 rcases h x with e|⟨a1,a2,ty',n',ex',d',s,s',hh,b1,_⟩
 ·exact e
 ·rw[hx]at b1;injection b1 with b1
  injection b1 with e1
  subst e1;exact absurd hh hT
theorem Zr.ok{T:Nat→Prop}{lo hi c:Nat}{F:RO}{M M':Mem}(h:Zr T lo hi M M')(hc:hi≤c)(ok:cR F M c):cR F M' c:=by
 refine⟨fun b hb=>by rw[h.out (by omega)];exact ok.hiM b hb,ok.hiF,fun b hb=>?_,ok.ge⟩
 rcases h b with e|⟨a1,a2,ty,n,ex,d,t,t',_,b1,_⟩
 ·rw[e];exact ok.ap b hb
 ·rw[ok.ap b hb]at b1;cases b1
theorem GS.z{T:Nat→Prop}{lo hi a b ty sz n:Nat}{M M':Mem}{v:V}(h:GS M a b ty sz v n)(z:Zr T lo hi M M'):GS M' a b ty sz v n:=by
 rcases h with h|⟨x,h1,h2,h3,ex,d,t,h4⟩
 ·exact .inl h
 ·refine .inr ⟨x,h1,h2,h3,?_⟩;rcases z x with e|⟨a1,a2,ty',n',ex',d',s,s',hh,b1,b2,_⟩
  ·exact⟨ex,d,t,e.trans h4⟩
  ·rw[h4]at b1;injection b1 with b1
   injection b1 with e1 e2 e3 _ _ e4 e5
   subst e1 e2 e3 e4 e5;exact⟨_,_,_,b2⟩
def ZW(M:Mem)(lo hi:Nat)(v:V):Prop:=∃n,n≤9223372036854775807∧GS M lo hi 36 1 v n
def ZC(M:Mem)(lo hi:Nat)(v:V):Prop:=∃n,n≤9223372036854775807∧((n=0∧v= .l0)∨ ∃b,lo≤b∧b<hi∧(v= .l b 0 n n∨v= .u b 0 n 0 n)∧ ∃ex d t,M.get b=some (.cells 42 n ex 0 false d t)∧ ∀k,k<n→ ∃x,cell n d t k=some x∧ZW M lo hi x)
theorem ZW.z{T:Nat→Prop}{lo hi:Nat}{M M':Mem}{v:V}(h:ZW M lo hi v)(z:Zr T lo hi M M'):ZW M' lo hi v:=by obtain⟨n,hn,h⟩:=h;exact⟨n,hn,h.z z⟩
theorem ZC.z{T:Nat→Prop}{lo hi:Nat}{M M':Mem}{v:V}(h:ZC M lo hi v)(z:Zr T lo hi M M'):ZC M' lo hi v:=by
 obtain⟨n,hn,h|⟨b,h1,h2,h3,ex,d,t,h4,h5⟩⟩:=h
 ·exact⟨n,hn,.inl h⟩
 ·refine⟨n,hn,.inr ⟨b,h1,h2,h3,?_⟩⟩;rcases z b with e|⟨a1,a2,ty',n',ex',d',s,s',hh,b1,b2,b3⟩
  ·refine⟨ex,d,t,e.trans h4,fun k hk=>?_⟩;obtain⟨x,e1,e2⟩:=h5 k hk;exact⟨x,e1,e2.z z⟩
  ·rw[h4]at b1;injection b1 with b1
   injection b1 with e1 e2 e3 _ _ e4 e5
   subst e1 e2 e3 e4 e5;refine⟨_,_,s',b2,fun k hk=>?_⟩;rcases b3 rfl k hk with e|e
   ·obtain⟨x,e1,e2⟩:=h5 k hk;exact⟨x,e.trans e1,e2.z z⟩
   ·exact⟨.l0,e,0,aD _,.inl ⟨rfl,rfl⟩⟩
theorem aZ3{M:Mem}{lo hi ty sz n:Nat}{v:V}(h:GS M lo hi ty sz v n):pf v=some (.i .i64 (n:Int)):=by
 rcases h with⟨rfl,rfl⟩|⟨b,_,_,rfl|rfl,_⟩
 ·exact o6
 ·exact Fv _ _ _ _
 ·exact(Ah _ _ _ _ _)
theorem TJ{M:Mem}{lo hi b n ty:Nat}{ex:Bool}{d:List V}{t:Ev.T}{i:Nat}(hM:M.get b=some (.cells ty n ex 0 false d t))(hin:i<n)(h1:lo≤b)(h2:b<hi){T:Nat→Prop}(hT:T ty):∃M',bR M b i [.l0]=some M'∧Zr T lo hi M M'∧M'.get b=some (.cells ty n ex 0 false d (bP [.l0] i t))∧ ∀x,x≠b→M'.get x=M.get x:=by
 refine⟨_,qJ (vs:=[.l0]) hM (by simp only[aA,aM];omega) (aD _) rfl,fun x=>?_,am _ _ _,fun x hx=>ak _ _ hx⟩
 by_cases hx:x=b
 ·subst hx;refine .inr ⟨h1,h2,ty,n,ex,d,t,_,hT,hM,am _ _ _,fun _ k hk=>?_⟩;rw[cH,ac hk,cH,ac hk,cY];simp only[aA,aM];by_cases hki:k=i
  ·right;rw[ac (by omega)];subst hki;simp
  ·left;rw[ab (by omega)]
 ·exact .inl (ak _ _ hx)
theorem Ge{b sz n i:Nat}{v:V}(h:v= .l b 0 n n∨v= .u b 0 n 0 n)(hi:i<n):eV sz v (.i .i64 (i:Int))=some (.p b (i*sz)):=by
 rcases h with rfl|rfl
 ·rw[aF5 _ _ _ _ _ _ _ hi,Nat.zero_add]
 ·rw[aF6 _ _ _ _ _ _ _ _ hi,Nat.zero_add]
theorem Ef{b n:Nat}{v:V}(h:v= .l b 0 n n∨v= .u b 0 n 0 n):pf v=some (.i .i64 (n:Int)):=by
 rcases h with rfl|rfl
 ·exact Fv _ _ _ _
 ·exact Ah _ _ _ _ _
theorem Ft{F:RO}{M:Mem}{b ty n fz o:Nat}{ex str:Bool}{d:List V}{t:Ev.T}{x:V}(h:M.get b=some (.cells ty n ex fz str d t))(hc:cell n d t o=some x):load1 F M b o=some x:=by
 unfold load1;rw[ax h];exact hc
theorem zW3(Φ:Nat→Option CF){F:RO}{lo hi c b3 b5 b7 bp op bc oc i k np nc:Nat}{M:Mem}{vl vc xw:V}{e1 e2:Bool}{d1 d2:List V}{t1 t2:Ev.T}(m3:M.get b3=some (ae 25 [vl]))(ia6:eV 6 vl (.i .i64 (i:Int))=some (.p bp op))(hp:M.get bp=some (.cells 39 np e1 0 false d1 t1))(A5:load1 F M bp (op+5)=some vc)(ia1:eV 1 vc (.i .i64 (k:Int))=some (.p bc oc))(hcb:M.get bc=some (.cells 42 nc e2 0 false d2 t2))(Ac:load1 F M bc oc=some xw)(hw:ZW M lo hi xw)(u:List (Option V))(Q:Ex→St→Prop)
 (hQ:∀(u:List (Option V)) M',Zr (fun x=>x=36) lo hi M M'→Q (.ext 4) (.mk ((U6 u (.p b3 0) (.p b5 0) (.p b7 0) (.i .i64 (i:Int)) (.i .i64 (k:Int)))) [] M' c)):
 Wp Nu (K Φ none 3 F) (.mk ((aI4 u (.p b3 0) (.p b5 0) (.p b7 0) (.i .i64 (i:Int)) (.i .i64 (k:Int)) (.i .i64 0))) [] M c) Q:=by
 obtain⟨n,hn,hw⟩:=hw
 have nw:=aZ3 hw
 simp only[B3]
 obtain⟨I,hI⟩:∃I:Nat→St→Prop,∀n' s',I n' s'↔(∃(m:Nat) (M1:Mem) (u:List (Option V)),n'=n-m∧m≤n∧s'= .mk ((aI4 u (.p b3 0) (.p b5 0) (.p b7 0) (.i .i64 (i:Int)) (.i .i64 (k:Int)) (.i .i64 (m:Int)))) [] M1 c∧Zr (fun x=>x=36) lo hi M M1):=⟨fun n s'=>_,fun _ _=>Iff.rfl⟩
 refine bw I ?_ n _ ((hI _ _).2 ⟨0,_,(X2 (X1 (G1 (X1 (G1 (X1 (G1 (X1 (G2 (G1 (bf (bA (br (X2 (X1 []))))))))))))))),rfl,aD _,rfl,Zr.refl⟩)
 intro n' s' hIs
 obtain⟨m,M1,u,rfl,hm,rfl,z⟩:=(hI _ _).1 hIs
 clear hIs
 have g3:load1 F M1 b3 0=some vl:=(lV (z.ty m3 (by decide)) 0).trans (au m3 0)
 have g5:load1 F M1 bp (op+5)=some vc:=(lV (z.ty hp (by decide)) _).trans A5
 have gc:load1 F M1 bc oc=some xw:=(lV (z.ty hcb (by decide)) _).trans Ac
 have hG:flatten (V.g [V.l0])=[V.l0]:=rfl
 by_cases hlt:m<n
 ·have q8:cB .add (.i .i64 (m:Int)) (.i .i64 1)=some (.i .i64 ((m+1:Nat):Int)):=by rw[be _ _ (by omega) (by omega)];simp
  have d1:decide ((m:Int)<(n:Int))=true:=ah (by omega);have hw1:=hw.z z;rcases hw1 with⟨h0,_⟩|⟨b,hb1,hb2,hv,ex,d,t,hM⟩
  ·omega
  have iw:=Ge (sz:=1) hv hlt;obtain⟨M2,st,z2,_,_⟩:=TJ (i:=m) (ty:=36) hM (by omega) hb1 hb2 (T:=fun x=>x=36) rfl;rw[show m*1=m from Nat.mul_one m]at iw;simp only[WX,B3,g3,ia6,g5,ia1,gc,nw,d1,iw,hG,st,q8,aB];exact⟨n-(m+1),by omega,(hI _ _).2 ⟨m+1,M2,(X2 (X1 (G1 (X1 (G1 (X1 (G1 (X1 (G2 (G1 (bf (bA (br (X2 (X1 []))))))))))))))),rfl,hlt,rfl,z.trans z2⟩⟩
 ·obtain rfl:m=n:=by omega
  have d1:decide ((m:Int)<(m:Int))=false:=af (by omega);simp only[WX,B3,g3,ia6,g5,ia1,gc,nw,d1,aB];exact hQ (X2 (X1 (G1 (X1 (G1 (X1 (G1 (X1 (G2 (bf (bA (br (X4 []))))))))))))) M1 z
def Jn(x:Nat):Prop:=x=36∨x=42
theorem zC3(Φ:Nat→Option CF){F:RO}{lo hi c b3 b5 b7 bp op i np:Nat}{M:Mem}{vl vc:V}{e1:Bool}{d1:List V}{t1:Ev.T}(m3:M.get b3=some (ae 25 [vl]))(ia6:eV 6 vl (.i .i64 (i:Int))=some (.p bp op))(hp:M.get bp=some (.cells 39 np e1 0 false d1 t1))(A5:load1 F M bp (op+5)=some vc)(hc:ZC M lo hi vc)(u:List (Option V))(Q:Ex→St→Prop)
 (hQ:∀(u:List (Option V)) M',Zr Jn lo hi M M'→Q (.ext 2) (.mk ((U7 u (.p b3 0) (.p b5 0) (.p b7 0) (.i .i64 (i:Int)))) [] M' c)):
 Wp (.loop (.seq Nt Nv)) (K Φ none 3 F) (.mk ((U6 u (.p b3 0) (.p b5 0) (.p b7 0) (.i .i64 (i:Int)) (.i .i64 0))) [] M c) Q:=by
 obtain⟨n,hn,hc⟩:=hc
 have nc:pf vc=some (.i .i64 (n:Int)):=by
  rcases hc with⟨rfl,rfl⟩|⟨b,_,_,hv,_⟩
  ·exact o6
  ·exact Ef hv
 obtain⟨I,hI⟩:∃I:Nat→St→Prop,∀n' s',I n' s'↔(∃(k:Nat) (M1:Mem) (u:List (Option V)),n'=n-k∧k≤n∧s'= .mk ((U6 u (.p b3 0) (.p b5 0) (.p b7 0) (.i .i64 (i:Int)) (.i .i64 (k:Int)))) [] M1 c∧Zr Jn lo hi M M1):=⟨fun n s'=>_,fun _ _=>Iff.rfl⟩
 refine bw I ?_ n _ ((hI _ _).2 ⟨0,_,(X2 (X1 (G1 (X1 (G1 (X1 (G1 (X1 (G2 (bf (bA (br (X4 []))))))))))))),rfl,aD _,rfl,Zr.refl⟩)
 intro n' s' hIs
 obtain⟨k,M1,u,rfl,hk,rfl,z⟩:=(hI _ _).1 hIs
 clear hIs
 have n25:¬Jn 25:=by unfold Jn;decide
 have n39:¬Jn 39:=by unfold Jn;decide
 have m31:M1.get b3=some (ae 25 [vl]):=(z.ty m3 n25).trans m3
 have hp1:M1.get bp=some (.cells 39 np e1 0 false d1 t1):=(z.ty hp n39).trans hp
 have g3:load1 F M1 b3 0=some vl:=au m31 0
 have g5:load1 F M1 bp (op+5)=some vc:=(lV (z.ty hp n39) _).trans A5
 have hG:flatten (V.g [V.l0])=[V.l0]:=rfl
 by_cases hlt:k<n
 ·have q8:cB .add (.i .i64 (k:Int)) (.i .i64 1)=some (.i .i64 ((k+1:Nat):Int)):=by rw[be _ _ (by omega) (by omega)];simp
  have d1:decide ((k:Int)<(n:Int))=true:=ah (by omega);have hc1:ZC M1 lo hi vc:=ZC.z ⟨n,hn,hc⟩ z;obtain⟨n2,_,hc1|⟨b,hb1,hb2,hv,ex,d,t,hM,hcl⟩⟩:=hc1
  ·rw[hc1.2]at nc;have:=nc.symm.trans o6;injection this with this;injection this with _ this;omega
  have hnn:n2=n:=by
   have:=(Ef hv).symm.trans nc;injection this with this;injection this with _ this;omega
  subst hnn;have ic:=Ge (sz:=1) hv hlt;rw[show k*1=k from Nat.mul_one k]at ic;obtain⟨x,hx,hxw⟩:=hcl k hlt;have Ac:=Ft (F:=F) hM hx;simp only[WX,aK7,aK8,aK9,aL0,g3,ia6,g5,nc,d1,aB];refine zW3 Φ m31 ia6 hp1 g5 ic hM Ac hxw (X2 (X1 (G1 (X1 (G1 (X1 (G1 (X1 (G2 (G1 (bf (bA (br (X2 (X1 []))))))))))))))) _ ?_;intro u M2 z2;have m32:M2.get b3=some (ae 25 [vl]):=(z2.ty m31 (by decide)).trans m31;have g32:load1 F M2 b3 0=some vl:=au m32 0;have g52:load1 F M2 bp (op+5)=some vc:=(lV (z2.ty hp1 (by decide)) _).trans g5;have hM2:=(z2.ty hM (by decide)).trans hM;obtain⟨M3,st,z3,_,_⟩:=TJ (i:=k) (ty:=42) hM2 hlt hb1 hb2 (T:=Jn) (.inr rfl);simp only[WX,Nat.reduceEqDiff,B3,g32,ia6,g52,ic,hG,st,q8,aB];exact⟨n2-(k+1),by omega,(hI _ _).2 ⟨k+1,M3,(X2 (X1 (G1 (X1 (G1 (X1 (G1 (X1 (G2 (bf (bA (br (X4 []))))))))))))),rfl,hlt,rfl,z.trans ((z2.wk fun x e=> .inl e).trans z3)⟩⟩
 ·obtain rfl:k=n:=by omega
  have d1:decide ((k:Int)<(k:Int))=false:=af (by omega);simp only[WX,B3,g3,ia6,g5,nc,d1,aB];exact hQ (X2 (X1 (G1 (X1 (G1 (X1 (G1 (X1 (G1 (bf (bA (br (X4 (X1 [])))))))))))))) M1 z
def ZP(M:Mem)(lo hi:Nat)(v:V)(n:Nat):Prop:=(n=0∧v= .l0)∨ ∃b,lo≤b∧b<hi∧(v= .l b 0 n n∨v= .u b 0 n 0 n)∧ ∃ex d t,M.get b=some (.cells 39 (n*6) ex 0 false d t)∧ ∀k,k<n→ ∃x,cell (n*6) d t (k*6+5)=some x∧ZC M lo hi x
theorem zP3(Φ:Nat→Option CF){F:RO}{lo hi c b3 b5 b7 n:Nat}{M:Mem}{vl:V}(ok:cR F M c)(hhc:hi≤c)(hb3:hi≤b3)(hn:n≤9223372036854775807)(m3:M.get b3=some (ae 25 [vl]))(hz:ZP M lo hi vl n)(u:List (Option V))(Q:Ex→St→Prop)
 (hQ:∀(u:List (Option V)) M',(∀x,x<lo∨hi≤x→M'.get x=M.get x)→cR F M' c→Q .nrm (.mk ((bQ4 u (.p b3 0) (.p b5 0) (.p b7 0))) [] M' c)):
 Wp Nw (K Φ none 3 F) (.mk ((U7 u (.p b3 0) (.p b5 0) (.p b7 0) (.i .i64 0))) [] M c) Q:=by
 have nl:pf vl=some (.i .i64 (n:Int)):=by
  rcases hz with⟨rfl,rfl⟩|⟨b,_,_,hv,_⟩
  ·exact o6
  ·exact Ef hv
 simp only[WX,aL2]
 obtain⟨I,hI⟩:∃I:Nat→St→Prop,∀n' s',I n' s'↔(∃(i:Nat) (M1:Mem) (u:List (Option V)),n'=n-i∧i≤n∧s'= .mk ((U7 u (.p b3 0) (.p b5 0) (.p b7 0) (.i .i64 (i:Int)))) [] M1 c∧(∀x,x<lo∨hi≤x→M1.get x=M.get x)∧cR F M1 c∧(n=0∨ ∃b,lo≤b∧b<hi∧(vl= .l b 0 n n∨vl= .u b 0 n 0 n)∧ ∃ex d t,M1.get b=some (.cells 39 (n*6) ex 0 false d t)∧ ∀k,i≤k→k<n→ ∃x,cell (n*6) d t (k*6+5)=some x∧ZC M1 lo hi x)):=⟨fun n s'=>_,fun _ _=>Iff.rfl⟩
 refine bw I ?_ n _ ((hI _ _).2 ⟨0,_,(X2 (X1 (G1 (X1 (G1 (X1 (G1 (X1 (G1 (bf (bA (br (X4 (X1 [])))))))))))))),rfl,aD _,rfl,fun _ _=>rfl,ok,by
  rcases hz with⟨h,_⟩|⟨b,h1,h2,h3,ex,d,t,h4,h5⟩
  ·exact .inl h
  ·exact .inr ⟨b,h1,h2,h3,ex,d,t,h4,fun k _ hk=>h5 k hk⟩⟩)
 intro n' s' hIs
 obtain⟨i,M1,u,rfl,hi',rfl,hout,ok1,hst⟩:=(hI _ _).1 hIs
 clear hIs
 have m31:M1.get b3=some (ae 25 [vl]):=(hout b3 (.inr hb3)).trans m3
 have g3:load1 F M1 b3 0=some vl:=au m31 0
 by_cases hlt:i<n
 ·have q8:cB .add (.i .i64 (i:Int)) (.i .i64 1)=some (.i .i64 ((i+1:Nat):Int)):=by rw[be _ _ (by omega) (by omega)];simp
  have d1:decide ((i:Int)<(n:Int))=true:=ah (by omega);rcases hst with h0|⟨b,hb1,hb2,hv,ex,d,t,hM,hcl⟩
  ·omega
  have ia6:=Ge (sz:=6) hv hlt;obtain⟨vc,hx,hzc⟩:=hcl i (aj _) hlt;have A5:=Ft (F:=F) hM hx;simp only[WX,aK4,aK5,aK6,aL1,g3,nl,d1,aB];refine zC3 Φ m31 ia6 hM A5 hzc (X2 (X1 (G1 (X1 (G1 (X1 (G1 (X1 (G2 (bf (bA (br (X4 []))))))))))))) _ ?_;intro u M2 z2;have n25:¬Jn 25:=by unfold Jn;decide
  have n39:¬Jn 39:=by unfold Jn;decide
  have m32:M2.get b3=some (ae 25 [vl]):=(z2.ty m31 n25).trans m31;have g32:load1 F M2 b3 0=some vl:=au m32 0;have hM2:=(z2.ty hM n39).trans hM;have ok2:=z2.ok hhc ok1;have hG:flatten (V.g [.i .i64 0,.b false,.l0,.l0,.b false,.l0])=[.i .i64 0,.b false,.l0,.l0,.b false,.l0]:=rfl;have st:=qJ (vs:=[.i .i64 0,.b false,.l0,.l0,.b false,.l0]) (o:=i*6) hM2 (by simp only[aA,aM];omega) (aD _) rfl;simp only[WX,Nat.reduceEqDiff,reduceCtorEq,Nat.reduceAdd,B3,g32,ia6,hG,st,q8,aB]
  have ZZ:∀v,ZC M2 lo hi v→ZC (M2.set b (.cells 39 (n*6) ex 0 false d (bP [.i .i64 0,.b false,.l0,.l0,.b false,.l0] (i*6) t))) lo hi v:=fun v h=>h.z (T:=fun x=>x=39) (lo:=lo) (hi:=hi) fun x=>by
   by_cases hx:x=b
   ·subst hx;exact .inr ⟨hb1,hb2,39,n*6,ex,d,t,_,rfl,hM2,am _ _ _,fun h=>absurd h (by decide)⟩
   ·exact .inl (ak _ _ hx)
  refine⟨n-(i+1),by omega,(hI _ _).2 ⟨i+1,_,(X2 (X1 (G1 (X1 (G1 (X1 (G1 (X1 (G1 (bf (bA (br (X4 (X1 [])))))))))))))),rfl,hlt,rfl,fun x hx=>(ak _ _ (by omega)).trans ((z2.out hx).trans (hout x hx)),ok2.put (by omega) hM2,.inr ⟨b,hb1,hb2,hv,ex,d,_,am _ _ _,fun k hk hkn=>?_⟩⟩⟩;obtain⟨x,e1,e2⟩:=hcl k (by omega) hkn;refine⟨x,?_,ZZ x (e2.z z2)⟩;rw[←e1,cH,cH,cY];simp only[aA,aM];rw[ab (show¬(i*6≤k*6+5∧k*6+5<i*6+(0+1+1+1+1+1+1)) by omega)]
 ·obtain rfl:i=n:=by omega
  have d1:decide ((i:Int)<(i:Int))=false:=af (by omega);simp only[WX,B3,g3,nl,d1,aB];exact hQ (X2 (X1 (G1 (X1 (G1 (X1 (G1 (bf (bA (br (X4 (X2 (X1 []))))))))))))) M1 hout ok1
theorem aG8{sz b:Nat}{v:V}{n i:Nat}(h:v= .l b 0 n n∨v= .u b 0 n 0 n)(hi:i<n){bb oo:Nat}(ia:eV sz v (.i .i64 (i:Int))=some (.p bb oo)):bb=b∧oo=i*sz:=by
 have:=(Ge (sz:=sz) h hi).symm.trans ia
 injection this with this;injection this with a b;exact⟨a.symm,b.symm⟩
theorem W4.zw{F:RO}{lo c:Nat}{M:Mem}{v:V}{l:eB}(h:W4 F lo M c v l):ZW M lo c v:=⟨l.length,h.1.max,h.2⟩
theorem Fc{F:RO}{M:Mem}{b ty n fz o:Nat}{ex str:Bool}{d:List V}{t:Ev.T}{x:V}(h:M.get b=some (.cells ty n ex fz str d t))(hl:load1 F M b o=some x):cell n d t o=some x:=by
 unfold load1 at hl;rw[ax h]at hl;exact hl
theorem VK.zc{F:RO}{lo c:Nat}{M:Mem}{v:V}{l:List eB}(h:VK F lo M c v l):ZC M lo c v:=by
 obtain⟨h1,h2⟩:=h
 refine⟨l.length,h1.max,?_⟩
 rcases h2 with h2|⟨b,a1,a2,a3,ex,d,t,a4⟩
 ·exact .inl h2
 ·rw[Nat.mul_one]at a4;refine .inr ⟨b,a1,a2,a3,ex,d,t,a4,fun k hk=>?_⟩;obtain⟨es,hs,hel,_,hR⟩:=h1;obtain⟨b',o,hb',ia,cl⟩:=hs.at k (by omega);obtain⟨rfl,rfl⟩:=aG8 a3 hk (ia .i64);obtain⟨x,ex',hx⟩:=hR k (by omega) hk;rw[ex']at cl;refine⟨x,?_,hx.zw⟩;have:=cl 0 (by simp);rw[Nat.mul_one,aB]at this;exact Fc a4 this
theorem J4.zp{F:RO}{lo c:Nat}{M:Mem}{v:V}{l:List fD}(h:J4 F lo M c v l):ZP M lo c v l.length:=by
 obtain⟨h1,h2⟩:=h
 rcases h2 with h2|⟨b,a1,a2,a3,ex,d,t,a4⟩
 ·exact .inl h2
 ·refine .inr ⟨b,a1,a2,a3,ex,d,t,a4,fun k hk=>?_⟩;obtain⟨es,hs,hel,_,hR⟩:=h1;obtain⟨b',o,hb',ia,cl⟩:=hs.at k (by omega);obtain⟨rfl,rfl⟩:=aG8 a3 hk (ia .i64);obtain⟨vi,vo,vc,ex',_,_,hx⟩:=hR k (by omega) hk;rw[ex']at cl;refine⟨vc,?_,hx.zc⟩;have:=cl 5 (by simp);exact Fc a4 this
def Zi:CC:=(.reg [(qq a3 (.mv z0)),(qq a2 (.mv z3))])
def Zj:CC:=(.seq (.reg [(qq a2 (.mv (x6 0)))]) (.seq Zi .ret))
def c13:CF:= .mk 3 [.t a2] Zj
theorem e13(v0:V):bz 3 [v0]=(.n sG (some v0) sG):=rfl
def B13:=ai @e13 (ai (wu Zi.eq_1) (wu Zj.eq_1))
theorem w13(Φ:Nat→Option CF)(h:Φ 13=some c13){F:RO}{M:Mem}{c:Nat}(x:Int):Calls Φ F 13 [.i .i64 x] M c fun r M' c'=>r= .i .i64 x∧M'=M∧c'=c:=by
 refine aN h ?_
 simp only[WX,B13]
theorem l3(Φ:Nat→Option CF)(h:Φ 3=some c3){L:List F3}(h9:Φ 9=some (.orc (yq L)))(h12:Φ 12=some c12)(h22:Φ 22=some c22)(h13:Φ 13=some c13)(h10:Φ 10=some c10)(h28:Φ 28=some c28)(h56:Φ 56=some c56)(h55:Φ 55=some (.orc (aG Ev.h55)))(h73:Φ 73=some (.orc (aG Ev.h73)))(h75:Φ 75=some (.orc (aG Ev.h75)))(h76:Φ 76=some (.orc (aG Ev.h88)))(h74:Φ 74=some Ww)(h29:Φ 29=some c29)(h30:Φ 30=some VN)(h31:Φ 31=some Hm)(h32:Φ 32=some Ws)(h17:Φ 17=some c17)(h40:Φ 40=some c40)(h63:Φ 63=some Wu)(h62:Φ 62=some Ho)(h80:Φ 80=some RJ)(h81:Φ 81=some RK)(h82:Φ 82=some VT)(h90:Φ 90=some RL)(h83:Φ 83=some J8)(h61:Φ 61=some Hn)(h39:Φ 39=some c39)(h33:Φ 33=some VP)(h57:Φ 57=some zL)(h58:Φ 58=some Wt)(h59:Φ 59=some Fb)(h60:Φ 60=some J7)(h79:Φ 79=some Wx)(h89:Φ 89=some VU)(h77:Φ 77=some (.orc (aG Ev.h77)))(h52:Φ 52=some BA)(h54:Φ 54=some BB)(h71:Φ 71=some zg)(h11:Φ 11=some c11)(h21:Φ 21=some c21)(h45:Φ 45=some c45)(h44:Φ 44=some (.orc (aG Ev.h44)))(h34:Φ 34=some RH)(h35:Φ 35=some c35)(h36:Φ 36=some J6)(h18:Φ 18=some c18)(h41:Φ 41=some c41)(h64:Φ 64=some VQ)(h69:Φ 69=some (.orc (aG Ev.h78)))(h66:Φ 66=some VS)(h65:Φ 65=some (.orc (aG Ev.h65)))(h67:Φ 67=some Wv)(h84:Φ 84=some (.orc (aG Ev.h84)))(h19:Φ 19=some c19)(h42:Φ 42=some RI)(h68:Φ 68=some (.orc (aG Ev.h75))){F:RO}{M:Mem}{c:Nat}(ok:cR F M c)(ht:fY F L=true)(s:List UInt8):
 Calls Φ F 3 [sV s] M c fun r _ _=>r= .b true:=by
 have hkn:=fun M c=>Dx ht M c
 refine aN h ?_
 have hPB:s.length≤4096→(∀p∈(dv 0 (cD s)).1,GQ p)∧dL (qP (dv 0 (cD s)).1)≤1000000:=fun h=>⟨(DM h).1,(DM h).2.1⟩
 by_cases hlen:9000<s.length
 ·have hd:decide ((9000:Int)<(s.length:Int))=true:=ah (by omega);simp only[WX,B3,hd,h9,hkn]
 have hd:decide ((9000:Int)<(s.length:Int))=false:=af (by omega)
 have hG:∀v,flatten (V.g [v])=[v]:=fun _=>rfl
 have BOX:∀(M:Mem) (c:Nat) (v:V),cR F M c→aK [v]=true→bR (M.set c (ae 25 [.l0])) c 0 [v]=some (M.set c (ae 25 [v]))∧Gr c M (c+1) (M.set c (ae 25 [v])):=fun M c v ok h1=>⟨dI rfl h1,(Gr.refl ok).set c _ (aj _) (ay _) (aJ _)⟩
 simp only[WX,B3,hd]
 refine az ((r10 Φ h10 h28 h56 h55 h73 h75 h76 h74 h29 h30 h31 h32 h17 h40 h63 h62 h80 h81 h82 h90 h83 h61 h39 h33 h57 h58 h59 h60 h79 h89 h77 h52 h54 h71 ok s hPB).mono ?_)
 rintro r M1 c1 ⟨v1,rfl,hL1,g1⟩
 have ok1:=g1.ok ok
 obtain⟨a1,a2,a3⟩:=(hL1 M1 fun _ _ _=>rfl).ln.one
 obtain⟨s1,b1⟩:=BOX M1 c1 v1 ok1 a3
 simp only[WX,B3,hG,s1]
 have k1:=am M1 c1 (ae 25 [v1])
 generalize M1.set c1 (ae 25 [v1])=N1 at b1 k1⊢
 have okN1:=b1.ok ok1
 refine az ((r10 Φ h10 h28 h56 h55 h73 h75 h76 h74 h29 h30 h31 h32 h17 h40 h63 h62 h80 h81 h82 h90 h83 h61 h39 h33 h57 h58 h59 h60 h79 h89 h77 h52 h54 h71 okN1 s hPB).mono ?_)
 rintro r M2 c2 ⟨v2,rfl,hL2,g2⟩
 have ok2:=g2.ok okN1
 obtain⟨fE,j9,gO⟩:=(hL2 M2 fun _ _ _=>rfl).ln.one
 obtain⟨s2,b2⟩:=BOX M2 c2 v2 ok2 gO
 simp only[WX,B3,hG,s2]
 have k2:=am M2 c2 (ae 25 [v2])
 generalize M2.set c2 (ae 25 [v2])=N2 at b2 k2⊢
 have okN2:=b2.ok ok2
 refine az ((r11 Φ h11 h21 h45 h44 h34 h35 h36 h18 h41 h64 h69 h66 h65 h67 h84 h19 h42 h68 okN2 s).mono ?_)
 rintro r M3 c3 ⟨v3,rfl,hL3,g3⟩
 have qo:=g3.ok okN2
 obtain⟨jC,lz,lE⟩:=(hL3 M3 fun _ _ _=>rfl).ln.one
 obtain⟨s3,b3⟩:=BOX M3 c3 v3 qo lE
 have k3:=am M3 c3 (ae 25 [v3])
 have i1:=g1.le;have i2:=g2.le;have i3:=g3.le
 have kk1:(M3.set c3 (ae 25 [v3])).get c1=some (ae 25 [v1]):=(b3.old _ (by omega)).trans ((g3.old _ (by omega)).trans ((b2.old _ (by omega)).trans ((g2.old _ (by omega)).trans k1)))
 have kk2:(M3.set c3 (ae 25 [v3])).get c2=some (ae 25 [v2]):=(b3.old _ (by omega)).trans ((g3.old _ (by omega)).trans k2)
 have n1:loadN F (M3.set c3 (ae 25 [v3])) c1 0 1=some [v1]:=aP kk1 1 rfl
 have n3:loadN F (M3.set c3 (ae 25 [v3])) c3 0 1=some [v3]:=aP k3 1 rfl
 simp only[WX,B3,hG,s3,n1,n3]
 generalize M3.set c3 (ae 25 [v3])=N3 at b3 k3 kk1 kk2 n1 n3⊢
 have okN3:=b3.ok qo
 have D1:∀(M':Mem) (c':Nat),c3+1≤c'→(∀x,c≤x→x<c1→M'.get x=N3.get x)→J4 F c M' c1 v1 (po s).1:=fun M' c' _ hM=>hL1 M' fun x x1 x2=>(hM x x1 x2).trans ((b3.old _ (by omega)).trans ((g3.old _ (by omega)).trans ((b2.old _ (by omega)).trans ((g2.old _ (by omega)).trans (b1.old _ x2)))))
 have D2:∀(M':Mem),(∀x,c1+1≤x→x<c2→M'.get x=N3.get x)→J4 F (c1+1) M' c2 v2 (po s).1:=fun M' hM=>hL2 M' fun x x1 x2=>(hM x x1 x2).trans ((b3.old _ (by omega)).trans ((g3.old _ (by omega)).trans (b2.old _ x2)))
 have D3:∀(M':Mem),(∀x,c2+1≤x→x<c3→M'.get x=N3.get x)→J4 F (c2+1) M' c3 v3 (po s).1:=fun M' hM=>hL3 M' fun x x1 x2=>(hM x x1 x2).trans (b3.old _ x2)
 refine az ((w12 Φ h12 h22 okN3 ((D1 N3 (c3+1) (aj _) fun _ _ _=>rfl).up (aj _) (by omega)).ln ((D3 N3 fun _ _ _=>rfl).up (aj _) (by omega)).ln).mono ?_)
 rintro r M4 c4 ⟨rfl,g4⟩
 have i4:=g4.le
 have ok4:=g4.ok okN3
 have hdt:decide ((po s).1=(po s).1)=true:=ah rfl
 rw[hdt]
 simp only[WX]
 refine az ((w13 Φ h13 (po s).2).mono ?_)
 rintro r M5 c5 ⟨rfl,rfl,rfl⟩
 have hne:decide (¬((po s).2=(po s).2))=false:=af (fun h=>h rfl)
 simp only[WX,aK3,hne]
 refine zP3 Φ (lo:=c) (hi:=c1) (b3:=c1) (b5:=c2) (b7:=c3) (vl:=v1) (n:=(po s).1.length) ok4 (by omega) (aj _) (D1 M5 c5 (by omega) fun x _ x2=>g4.old x (by omega)).ln.max ((g4.old _ (by omega)).trans kk1) (D1 M5 c5 (by omega) fun x _ x2=>g4.old x (by omega)).zp (X2 (X1 (G1 (X1 (G1 (X1 (G1 (X1 (G1 (bf (bA (br (X4 (X1 [])))))))))))))) _ ?_
 intro u M6 hout ok6
 have n2':loadN F M6 c2 0 1=some [v2]:=aP (((hout c2 (.inr (by omega))).trans (g4.old _ (by omega))).trans kk2) 1 rfl
 have n3':loadN F M6 c3 0 1=some [v3]:=aP (((hout c3 (.inr (by omega))).trans (g4.old _ (by omega))).trans k3) 1 rfl
 simp only[WX,B3,n2',n3']
 refine az ((w12 Φ h12 h22 ok6 ((D2 M6 fun x x1 x2=>(hout x (.inr (by omega))).trans (g4.old x (by omega))).up (aj _) (by omega)).ln ((D3 M6 fun x x1 x2=>(hout x (.inr (by omega))).trans (g4.old x (by omega))).up (aj _) (by omega)).ln).mono ?_)
 rintro r M7 c7 ⟨rfl,g7⟩
 rw[hdt]
 simp only[WX,h9,hkn]
section
variable{P:Program}(hm:P.follows .mixedOrders=true){Φ:Nat→Option CF}(hΦ:ft P Φ)
include hm hΦ
theorem o84(h:Φ 84=some c84):dy P 84 (aG h84):=eN hm hΦ (by
 intro args v ct hv hct;unfold h84 at hv;split at hv
 ·obtain⟨l,rfl,hv1⟩:=kT hv;obtain rfl:=ag hv1;exact⟨trivial,t84 Φ h _ _⟩
 ·cases hv)
theorem o65(h:Φ 65=some c65):dy P 65 (aG h65):=eN hm hΦ (by
 intro args v ct hv hct;unfold h65 at hv;split at hv
 ·obtain⟨l,rfl,hv1⟩:=kT hv;obtain rfl:=ag hv1;exact⟨⟨trivial,trivial,trivial,trivial⟩,t65 Φ h _ _⟩
 ·cases hv)
end
end
end Go.Proofs.YtmbpllipombieaaDoor.Ev
