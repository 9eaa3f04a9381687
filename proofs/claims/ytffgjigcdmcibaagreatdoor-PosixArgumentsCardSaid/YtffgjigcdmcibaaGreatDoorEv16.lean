/- What is proved here: pieces of the evaluator's soundness: if the evaluator comes to a value, the model's run comes to it, for every world and tape; no conditions beyond the hypotheses of each theorem. -/
import Derived.Test.YtffgjigcdmcibaaGreatDoorEv15
import Derived.KernelRfl
set_option linter.unusedSimpArgs false
set_option linter.unusedVariables false
set_option linter.defProp false
set_option maxRecDepth 10000
set_option maxHeartbeats 8000000
namespace Go.Proofs.YtffgjigcdmcibaaGreatDoor.Ev
open Go
noncomputable section
def RR(w0 w1 w2 w3:Int)(rest:List V):List V:= .i .u32 w0:: .i .u32 w1:: .i .u32 w2:: .i .u32 w3::rest
def b15_1:CC:=(.reg [(paa pa1 (.bx 23 16 pz0)),(pqq pa2 (.mv (px6 0))),(pqq pa3 (.mv (px6 0))),(pqq pa4 (.mv (px6 0)))])
def b15_2:CC:=(.reg [(pqq pa2 (.mv (px6 0))),(pqq pa3 (.mv (px6 0))),(pqq pa4 (.mv (px6 0)))])
def c15:CF:= .mk 3 [.t pa2,.t pa3,.t pa4] (.seq b15_1 (.seq b15_2 .ret))
theorem e15(v0:V):argTr 3 [v0]=(.n sk2 (some v0) sk2):=rfl
def B15:=ai @e15 (ai (wu b15_1.eq_1) (wu b15_2.eq_1))
theorem w15(Φ:Nat→Option CF)(h:Φ 15=some c15)(h17:Φ 17=some (.orc (pureO hsg))){F:RO}{M:Mem}{c:Nat}(ok:Okm F M c)(w0 w1 w2 w3:Int)(rest:List V)(hl:rest.length=12)(ho:allOne rest=true):
 Calls Φ F 15 [.g (RR w0 w1 w2 w3 rest)] M c fun r M' c'=>r= .t [.i .i64 (0),.i .i64 (0),.i .i64 (0)]∧Gr c M c' M':=by
 refine calls_walk h ?_
 have gX:=(Gr.refl ok).set c (rowB 23 (RR w0 w1 w2 w3 rest)) (Nat.le_refl _) (Nat.lt_succ_self _) (Nat.le_succ _)
 have hfr:=(gX.ok ok).free
 have hfr':∀x,roFree (M.set c (rowB 23 x)) F=true:=fun x=>(((Gr.refl ok).set c (rowB 23 x) (Nat.le_refl _) (Nat.lt_succ_self _) (Nat.le_succ _)).ok ok).free
 have i1:=iaA_p 16 1 c 0 1 .i64 (by omega)
 have i2:=iaA_p 16 1 c 0 2 .i64 (by omega)
 have i3:=iaA_p 16 1 c 0 3 .i64 (by omega)
 have i1:iaAV 16 1 (.p c 0) (.i .i64 1)=some (.p c 1):=i1
 have i2:iaAV 16 1 (.p c 0) (.i .i64 2)=some (.p c 2):=i2
 have i3:iaAV 16 1 (.p c 0) (.i .i64 3)=some (.p c 3):=i3
 unfold RR
 simp only[WX,Nat.reduceAdd,B15,hl,ho]
 exact gX
def b16_1:CC:=(.reg [(paa pa1 (.bx 23 16 pz0)),(pqq pa2 (.mv (px6 0))),(pqq pa3 (.mv (px6 0))),(pqq pa4 (.mv (px6 0)))])
def b16_2:CC:=(.reg [(pqq pa5 (.iaA 16 1 pz1 (px6 1))),(pqq pa6 (.ld1 pz5)),(pee pa7 (.call 17 [pz6])),(pqq pa2 (.mv pz7)),(pqq pa3 (.mv (px6 0))),(pqq pa4 (.mv (px6 0)))])
def c16:CF:= .mk 4 [.t pa2,.t pa3,.t pa4] (.seq b16_1 (.seq b16_2 .ret))
theorem e16(v0:V):argTr 4 [v0]=(.n sk3 (some v0) sk3):=rfl
def B16:=ai @e16 (ai (wu b16_1.eq_1) (wu b16_2.eq_1))
theorem w16(Φ:Nat→Option CF)(h:Φ 16=some c16)(h17:Φ 17=some (.orc (pureO hsg))){F:RO}{M:Mem}{c:Nat}(ok:Okm F M c)(w0 w1 w2 w3:Int)(rest:List V)(hl:rest.length=12)(ho:allOne rest=true):
 Calls Φ F 16 [.g (RR w0 w1 w2 w3 rest)] M c fun r M' c'=>r= .t [.i .i64 (sg w1),.i .i64 (0),.i .i64 (0)]∧Gr c M c' M':=by
 refine calls_walk h ?_
 have gX:=(Gr.refl ok).set c (rowB 23 (RR w0 w1 w2 w3 rest)) (Nat.le_refl _) (Nat.lt_succ_self _) (Nat.le_succ _)
 have hfr:=(gX.ok ok).free
 have hfr':∀x,roFree (M.set c (rowB 23 x)) F=true:=fun x=>(((Gr.refl ok).set c (rowB 23 x) (Nat.le_refl _) (Nat.lt_succ_self _) (Nat.le_succ _)).ok ok).free
 have i1:=iaA_p 16 1 c 0 1 .i64 (by omega)
 have i2:=iaA_p 16 1 c 0 2 .i64 (by omega)
 have i3:=iaA_p 16 1 c 0 3 .i64 (by omega)
 have i1:iaAV 16 1 (.p c 0) (.i .i64 1)=some (.p c 1):=i1
 have i2:iaAV 16 1 (.p c 0) (.i .i64 2)=some (.p c 2):=i2
 have i3:iaAV 16 1 (.p c 0) (.i .i64 3)=some (.p c 3):=i3
 unfold RR
 simp only[WX,Nat.reduceAdd,B16,hl,ho,v_iaA,i1,h17,hsg_eq]
 exact gX
def b18_1:CC:=(.reg [(paa pa1 (.bx 23 16 pz0)),(pqq pa2 (.mv (px6 0))),(pqq pa3 (.mv (px6 0))),(pqq pa4 (.mv (px6 0)))])
def b18_2:CC:=(.dreg 9 [(0,0,(pqq pa5 (.iaA 16 1 pz1 (px6 1)))),(1,1,(pqq pa6 (.ld1 pz5))),(3,0,(pqq pa8 (.iaA 16 1 pz1 (px6 2)))),(4,8,(pqq pa9 (.ld1 pz8))),(2,3,(pee pa7 (.call 17 [pz6]))),(5,31,(pee pa10 (.call 17 [pz9]))),(6,63,(pqq pa2 (.mv pz7))),(7,127,(pqq pa3 (.mv pz10))),(8,255,(pqq pa4 (.mv (px6 0))))])
def c18:CF:= .mk 4 [.t pa2,.t pa3,.t pa4] (.seq b18_1 (.seq b18_2 .ret))
theorem e18(v0:V):argTr 4 [v0]=(.n sk3 (some v0) sk3):=rfl
def B18:=ai @e18 (ai (wu b18_1.eq_1) (wu b18_2.eq_1))
theorem w18(Φ:Nat→Option CF)(h:Φ 18=some c18)(h17:Φ 17=some (.orc (pureO hsg))){F:RO}{M:Mem}{c:Nat}(ok:Okm F M c)(w0 w1 w2 w3:Int)(rest:List V)(hl:rest.length=12)(ho:allOne rest=true):
 Calls Φ F 18 [.g (RR w0 w1 w2 w3 rest)] M c fun r M' c'=>r= .t [.i .i64 (sg w1),.i .i64 (sg w2),.i .i64 (0)]∧Gr c M c' M':=by
 refine calls_walk h ?_
 have gX:=(Gr.refl ok).set c (rowB 23 (RR w0 w1 w2 w3 rest)) (Nat.le_refl _) (Nat.lt_succ_self _) (Nat.le_succ _)
 have hfr:=(gX.ok ok).free
 have hfr':∀x,roFree (M.set c (rowB 23 x)) F=true:=fun x=>(((Gr.refl ok).set c (rowB 23 x) (Nat.le_refl _) (Nat.lt_succ_self _) (Nat.le_succ _)).ok ok).free
 have i1:=iaA_p 16 1 c 0 1 .i64 (by omega)
 have i2:=iaA_p 16 1 c 0 2 .i64 (by omega)
 have i3:=iaA_p 16 1 c 0 3 .i64 (by omega)
 have i1:iaAV 16 1 (.p c 0) (.i .i64 1)=some (.p c 1):=i1
 have i2:iaAV 16 1 (.p c 0) (.i .i64 2)=some (.p c 2):=i2
 have i3:iaAV 16 1 (.p c 0) (.i .i64 3)=some (.p c 3):=i3
 unfold RR
 simp only[WX,Nat.reduceAdd,B18,hl,ho,i1,i2,dq_iaA0,iaAQ_p]
 refine wd_pure _ _ _ _ _ _ _ _ _ _ _ h17 (hfr' _) ?_
 simp only[WX,Nat.reducePow,Nat.reduceDiv,Nat.reduceMod,Nat.reduceBEq,wd_e1,hsg_eq,h17,hfr']
 exact gX.up (by omega)
def b19_1:CC:=(.reg [(paa pa1 (.bx 23 16 pz0)),(pqq pa2 (.mv (px6 0))),(pqq pa3 (.mv (px6 0))),(pqq pa4 (.mv (px6 0)))])
def b19_2:CC:=(.dreg 12 [(0,0,(pqq pa5 (.iaA 16 1 pz1 (px6 1)))),(1,1,(pqq pa6 (.ld1 pz5))),(3,0,(pqq pa8 (.iaA 16 1 pz1 (px6 2)))),(4,8,(pqq pa9 (.ld1 pz8))),(6,0,(pqq pa11 (.iaA 16 1 pz1 (px6 3)))),(7,64,(pqq pa12 (.ld1 pz11))),(2,3,(pee pa7 (.call 17 [pz6]))),(5,31,(pee pa10 (.call 17 [pz9]))),(8,255,(pee pa13 (.call 17 [pz12]))),(9,511,(pqq pa2 (.mv pz7))),(10,1023,(pqq pa3 (.mv pz10))),(11,2047,(pqq pa4 (.mv pz13)))])
def c19:CF:= .mk 4 [.t pa2,.t pa3,.t pa4] (.seq b19_1 (.seq b19_2 .ret))
theorem e19(v0:V):argTr 4 [v0]=(.n sk3 (some v0) sk3):=rfl
def B19:=ai @e19 (ai (wu b19_1.eq_1) (wu b19_2.eq_1))
theorem w19(Φ:Nat→Option CF)(h:Φ 19=some c19)(h17:Φ 17=some (.orc (pureO hsg))){F:RO}{M:Mem}{c:Nat}(ok:Okm F M c)(w0 w1 w2 w3:Int)(rest:List V)(hl:rest.length=12)(ho:allOne rest=true):
 Calls Φ F 19 [.g (RR w0 w1 w2 w3 rest)] M c fun r M' c'=>r= .t [.i .i64 (sg w1),.i .i64 (sg w2),.i .i64 (sg w3)]∧Gr c M c' M':=by
 refine calls_walk h ?_
 have gX:=(Gr.refl ok).set c (rowB 23 (RR w0 w1 w2 w3 rest)) (Nat.le_refl _) (Nat.lt_succ_self _) (Nat.le_succ _)
 have hfr:=(gX.ok ok).free
 have hfr':∀x,roFree (M.set c (rowB 23 x)) F=true:=fun x=>(((Gr.refl ok).set c (rowB 23 x) (Nat.le_refl _) (Nat.lt_succ_self _) (Nat.le_succ _)).ok ok).free
 have i1:=iaA_p 16 1 c 0 1 .i64 (by omega)
 have i2:=iaA_p 16 1 c 0 2 .i64 (by omega)
 have i3:=iaA_p 16 1 c 0 3 .i64 (by omega)
 have i1:iaAV 16 1 (.p c 0) (.i .i64 1)=some (.p c 1):=i1
 have i2:iaAV 16 1 (.p c 0) (.i .i64 2)=some (.p c 2):=i2
 have i3:iaAV 16 1 (.p c 0) (.i .i64 3)=some (.p c 3):=i3
 unfold RR
 simp only[WX,Nat.reduceAdd,B19,hl,ho,i1,i2,i3,dq_iaA0,iaAQ_p]
 refine wd_pure _ _ _ _ _ _ _ _ _ _ _ h17 (hfr' _) ?_
 simp only[WX,hsg_eq]
 refine wd_pure _ _ _ _ _ _ _ _ _ _ _ h17 (hfr' _) ?_
 simp only[WX,Nat.reducePow,Nat.reduceDiv,Nat.reduceMod,Nat.reduceBEq,wd_e1,hsg_eq,h17,hfr']
 exact gX.up (by omega)
def b20_1:CC:=(.reg [(paa pa1 (.bx 23 16 pz0)),(pqq pa2 (.mv (px6 0))),(pqq pa3 (.mv (px6 0))),(pqq pa4 (.mv (px6 0)))])
def b20_2:CC:=(.reg [(pqq pa5 (.iaA 16 1 pz1 (px6 2))),(pqq pa6 (.ld1 pz5)),(pee pa7 (.call 17 [pz6])),(pqq pa2 (.mv pz7)),(pqq pa3 (.mv (px6 0))),(pqq pa4 (.mv (px6 0)))])
def c20:CF:= .mk 4 [.t pa2,.t pa3,.t pa4] (.seq b20_1 (.seq b20_2 .ret))
theorem e20(v0:V):argTr 4 [v0]=(.n sk3 (some v0) sk3):=rfl
def B20:=ai @e20 (ai (wu b20_1.eq_1) (wu b20_2.eq_1))
theorem w20(Φ:Nat→Option CF)(h:Φ 20=some c20)(h17:Φ 17=some (.orc (pureO hsg))){F:RO}{M:Mem}{c:Nat}(ok:Okm F M c)(w0 w1 w2 w3:Int)(rest:List V)(hl:rest.length=12)(ho:allOne rest=true):
 Calls Φ F 20 [.g (RR w0 w1 w2 w3 rest)] M c fun r M' c'=>r= .t [.i .i64 (sg w2),.i .i64 (0),.i .i64 (0)]∧Gr c M c' M':=by
 refine calls_walk h ?_
 have gX:=(Gr.refl ok).set c (rowB 23 (RR w0 w1 w2 w3 rest)) (Nat.le_refl _) (Nat.lt_succ_self _) (Nat.le_succ _)
 have hfr:=(gX.ok ok).free
 have hfr':∀x,roFree (M.set c (rowB 23 x)) F=true:=fun x=>(((Gr.refl ok).set c (rowB 23 x) (Nat.le_refl _) (Nat.lt_succ_self _) (Nat.le_succ _)).ok ok).free
 have i1:=iaA_p 16 1 c 0 1 .i64 (by omega)
 have i2:=iaA_p 16 1 c 0 2 .i64 (by omega)
 have i3:=iaA_p 16 1 c 0 3 .i64 (by omega)
 have i1:iaAV 16 1 (.p c 0) (.i .i64 1)=some (.p c 1):=i1
 have i2:iaAV 16 1 (.p c 0) (.i .i64 2)=some (.p c 2):=i2
 have i3:iaAV 16 1 (.p c 0) (.i .i64 3)=some (.p c 3):=i3
 unfold RR
 simp only[WX,Nat.reduceAdd,B20,hl,ho,v_iaA,i2,h17,hsg_eq]
 exact gX
def b21_1:CC:=(.reg [(paa pa1 (.bx 23 16 pz0)),(pqq pa2 (.mv (px6 0))),(pqq pa3 (.mv (px6 0))),(pqq pa4 (.mv (px6 0)))])
def b21_2:CC:=(.dreg 9 [(0,0,(pqq pa5 (.iaA 16 1 pz1 (px6 1)))),(1,1,(pqq pa6 (.ld1 pz5))),(3,0,(pqq pa8 (.iaA 16 1 pz1 (px6 2)))),(4,8,(pqq pa9 (.ld1 pz8))),(5,24,(pqq pa10 (.ci .i64 pz9))),(2,3,(pee pa7 (.call 17 [pz6]))),(6,7,(pqq pa2 (.mv pz7))),(7,127,(pqq pa3 (.mv pz10))),(8,255,(pqq pa4 (.mv (px6 0))))])
def c21:CF:= .mk 4 [.t pa2,.t pa3,.t pa4] (.seq b21_1 (.seq b21_2 .ret))
theorem e21(v0:V):argTr 4 [v0]=(.n sk3 (some v0) sk3):=rfl
def B21:=ai @e21 (ai (wu b21_1.eq_1) (wu b21_2.eq_1))
theorem w21(Φ:Nat→Option CF)(h:Φ 21=some c21)(h17:Φ 17=some (.orc (pureO hsg))){F:RO}{M:Mem}{c:Nat}(ok:Okm F M c)(w0 w1 w2 w3:Int)(rest:List V)(hl:rest.length=12)(ho:allOne rest=true):
 Calls Φ F 21 [.g (RR w0 w1 w2 w3 rest)] M c fun r M' c'=>r= .t [.i .i64 (sg w1),.i .i64 (IntKind.i64.wrap w2),.i .i64 (0)]∧Gr c M c' M':=by
 refine calls_walk h ?_
 have gX:=(Gr.refl ok).set c (rowB 23 (RR w0 w1 w2 w3 rest)) (Nat.le_refl _) (Nat.lt_succ_self _) (Nat.le_succ _)
 have hfr:=(gX.ok ok).free
 have hfr':∀x,roFree (M.set c (rowB 23 x)) F=true:=fun x=>(((Gr.refl ok).set c (rowB 23 x) (Nat.le_refl _) (Nat.lt_succ_self _) (Nat.le_succ _)).ok ok).free
 have i1:=iaA_p 16 1 c 0 1 .i64 (by omega)
 have i2:=iaA_p 16 1 c 0 2 .i64 (by omega)
 have i3:=iaA_p 16 1 c 0 3 .i64 (by omega)
 have i1:iaAV 16 1 (.p c 0) (.i .i64 1)=some (.p c 1):=i1
 have i2:iaAV 16 1 (.p c 0) (.i .i64 2)=some (.p c 2):=i2
 have i3:iaAV 16 1 (.p c 0) (.i .i64 3)=some (.p c 3):=i3
 unfold RR
 simp only[WX,Nat.reduceAdd,B21,hl,ho,i1,i2,dq_iaA0,iaAQ_p]
 refine wd_pure _ _ _ _ _ _ _ _ _ _ _ h17 (hfr' _) ?_
 simp only[WX,hsg_eq]
 exact gX.up (by omega)
def b22_1:CC:=(.reg [(paa pa1 (.bx 23 16 pz0)),(pqq pa2 (.mv (px6 0))),(pqq pa3 (.mv (px6 0))),(pqq pa4 (.mv (px6 0)))])
def b22_2:CC:=(.dreg 9 [(0,0,(pqq pa5 (.iaA 16 1 pz1 (px6 1)))),(1,1,(pqq pa6 (.ld1 pz5))),(3,0,(pqq pa8 (.iaA 16 1 pz1 (px6 3)))),(4,8,(pqq pa9 (.ld1 pz8))),(2,3,(pee pa7 (.call 17 [pz6]))),(5,31,(pee pa10 (.call 17 [pz9]))),(6,63,(pqq pa2 (.mv pz7))),(7,127,(pqq pa3 (.mv pz10))),(8,255,(pqq pa4 (.mv (px6 0))))])
def c22:CF:= .mk 4 [.t pa2,.t pa3,.t pa4] (.seq b22_1 (.seq b22_2 .ret))
theorem e22(v0:V):argTr 4 [v0]=(.n sk3 (some v0) sk3):=rfl
def B22:=ai @e22 (ai (wu b22_1.eq_1) (wu b22_2.eq_1))
theorem w22(Φ:Nat→Option CF)(h:Φ 22=some c22)(h17:Φ 17=some (.orc (pureO hsg))){F:RO}{M:Mem}{c:Nat}(ok:Okm F M c)(w0 w1 w2 w3:Int)(rest:List V)(hl:rest.length=12)(ho:allOne rest=true):
 Calls Φ F 22 [.g (RR w0 w1 w2 w3 rest)] M c fun r M' c'=>r= .t [.i .i64 (sg w1),.i .i64 (sg w3),.i .i64 (0)]∧Gr c M c' M':=by
 refine calls_walk h ?_
 have gX:=(Gr.refl ok).set c (rowB 23 (RR w0 w1 w2 w3 rest)) (Nat.le_refl _) (Nat.lt_succ_self _) (Nat.le_succ _)
 have hfr:=(gX.ok ok).free
 have hfr':∀x,roFree (M.set c (rowB 23 x)) F=true:=fun x=>(((Gr.refl ok).set c (rowB 23 x) (Nat.le_refl _) (Nat.lt_succ_self _) (Nat.le_succ _)).ok ok).free
 have i1:=iaA_p 16 1 c 0 1 .i64 (by omega)
 have i2:=iaA_p 16 1 c 0 2 .i64 (by omega)
 have i3:=iaA_p 16 1 c 0 3 .i64 (by omega)
 have i1:iaAV 16 1 (.p c 0) (.i .i64 1)=some (.p c 1):=i1
 have i2:iaAV 16 1 (.p c 0) (.i .i64 2)=some (.p c 2):=i2
 have i3:iaAV 16 1 (.p c 0) (.i .i64 3)=some (.p c 3):=i3
 unfold RR
 simp only[WX,Nat.reduceAdd,B22,hl,ho,i1,i3,dq_iaA0,iaAQ_p]
 refine wd_pure _ _ _ _ _ _ _ _ _ _ _ h17 (hfr' _) ?_
 simp only[WX,Nat.reducePow,Nat.reduceDiv,Nat.reduceMod,Nat.reduceBEq,wd_e1,hsg_eq,h17,hfr']
 exact gX.up (by omega)
def b23_1:CC:=(.reg [(paa pa1 (.bx 23 16 pz0)),(pqq pa2 (.mv (px6 0))),(pqq pa3 (.mv (px6 0))),(pqq pa4 (.mv (px6 0)))])
def b23_2:CC:=(.reg [(pqq pa5 (.iaA 16 1 pz1 (px6 3))),(pqq pa6 (.ld1 pz5)),(pee pa7 (.call 17 [pz6])),(pqq pa2 (.mv pz7)),(pqq pa3 (.mv (px6 0))),(pqq pa4 (.mv (px6 0)))])
def c23:CF:= .mk 4 [.t pa2,.t pa3,.t pa4] (.seq b23_1 (.seq b23_2 .ret))
theorem e23(v0:V):argTr 4 [v0]=(.n sk3 (some v0) sk3):=rfl
def B23:=ai @e23 (ai (wu b23_1.eq_1) (wu b23_2.eq_1))
theorem w23(Φ:Nat→Option CF)(h:Φ 23=some c23)(h17:Φ 17=some (.orc (pureO hsg))){F:RO}{M:Mem}{c:Nat}(ok:Okm F M c)(w0 w1 w2 w3:Int)(rest:List V)(hl:rest.length=12)(ho:allOne rest=true):
 Calls Φ F 23 [.g (RR w0 w1 w2 w3 rest)] M c fun r M' c'=>r= .t [.i .i64 (sg w3),.i .i64 (0),.i .i64 (0)]∧Gr c M c' M':=by
 refine calls_walk h ?_
 have gX:=(Gr.refl ok).set c (rowB 23 (RR w0 w1 w2 w3 rest)) (Nat.le_refl _) (Nat.lt_succ_self _) (Nat.le_succ _)
 have hfr:=(gX.ok ok).free
 have hfr':∀x,roFree (M.set c (rowB 23 x)) F=true:=fun x=>(((Gr.refl ok).set c (rowB 23 x) (Nat.le_refl _) (Nat.lt_succ_self _) (Nat.le_succ _)).ok ok).free
 have i1:=iaA_p 16 1 c 0 1 .i64 (by omega)
 have i2:=iaA_p 16 1 c 0 2 .i64 (by omega)
 have i3:=iaA_p 16 1 c 0 3 .i64 (by omega)
 have i1:iaAV 16 1 (.p c 0) (.i .i64 1)=some (.p c 1):=i1
 have i2:iaAV 16 1 (.p c 0) (.i .i64 2)=some (.p c 2):=i2
 have i3:iaAV 16 1 (.p c 0) (.i .i64 3)=some (.p c 3):=i3
 unfold RR
 simp only[WX,Nat.reduceAdd,B23,hl,ho,v_iaA,i3,h17,hsg_eq]
 exact gX
theorem ext_noA(E E':Env):Ext (fun _=>False) E E':=⟨fun _ h=>h.elim,fun _ h=>h.elim,fun _ h=>h.elim⟩
theorem pure_of0{P:Program}(hm:P.follows .mixedOrders=true){Φ:Nat→Option CF}(hΦ:PhiOk P Φ){f:Nat}{h:List V→Option V}
 (hh:∀args v,h args=some v→bds (fun _=>False) args∧bd (fun _=>False) v∧ ∃M1 ct1,callC (den Φ) [] f args .e 1000 (Φ f)= .k v M1 ct1):OrcOk P f (pureO h):=by
 intro F args M ct v N ct' hg E c w hr hglob hbig hf ha
 unfold pureO at hg
 split at hg
 ·rename_i x hx;injection hg with e1 e2 e3
  subst e1 e2 e3;obtain⟨h1,h2,M',ct2,hk⟩:=hh args x hx;obtain⟨fn,g1,g2,g3,hC⟩:=callOk_of (rd:=none) (fn:=0) (F₀:=[]) hΦ (den_ok hm hΦ) [] f args .e 1000 x M' ct2 hk E0 c0 w rel_none (fun g _=>⟨rfl,rfl⟩) (fun g hg=>hg) (fun b hb hc=>Nat.lt_irrefl _ (Nat.lt_of_lt_of_le hc hb)) (bds_mono (fun b hb=>hb.elim) _ h1);have hargs:concs E0 args=concs E args:=(concs_ext (ext_noA E E0) args h1)
  rw[hargs]at hC;refine⟨fn,g1,g2,g3,hC.mono ?_⟩;rintro e w' ⟨E',c',rfl,hS,hb,hG⟩;have hfr:∀r,r<w.heap.size→w'.heap[r]?=w.heap[r]?:=fun r hr'=>hS.frame r hr' (fun b hb=>by cases hb);have hhas:∀b blk,look F M b=some blk→c b∧bdBlk c blk∧ ∃o,w'.heap[E.ρ b]?=some o∧BlkRel P E b blk o:=by
   intro b blk hb;obtain⟨g1,g2,o,ho,g3⟩:=hr.has b blk hb;exact⟨g1,g2,o,by rw[hfr _ (Array.getElem?_eq_some_iff.1 ho).1];exact ho,g3⟩
  exact⟨E,c,by rw[conc_ext (ext_noA E E') x h2],⟨.refl c E,fun _ h=>h,⟨hhas,hr.inj,hr.apart⟩,fun b hb=> .inl ⟨b,hb,rfl⟩,fun r hr' _=>hfr r hr',hS.size,hS.os,hS.output,hS.tape⟩,bd_mono (fun b hb=>hb.elim) x h2,.refl _ _⟩
 ·cases hg
theorem callC_den{Φ:Nat→Option CF}{n:Nat}{F:RO}{f:Nat}{args:List V}{M:Mem}{c:Nat}{cf:Option CF}(h:callC (exec Φ n) F f args M c cf≠ .f):callC (den Φ) F f args M c cf=callC (exec Φ n) F f args M c cf:=by
 cases cf with
 |none=>rfl
 |some cf=>
  cases cf with
  |orc g=>rfl
  |mk n' res body=>
   have hx:exec Φ n none f F body (.mk (argTr n' args) [] M c)≠ .f:=by
    intro e;apply h;show finish res F (delay (exec Φ n none f F body (.mk (argTr n' args) [] M c)))= .f;rw[e];rfl
   show finish res F (delay (den Φ none f F body (.mk (argTr n' args) [] M c)))=finish res F (delay (exec Φ n none f F body (.mk (argTr n' args) [] M c)));rw[den_of hx]
def b8_1:CC:=(.reg [(pqq pa1 (.mv (.c (.f 15 [] []))))])
def b8_2:CC:=(.reg [(pqq pa2 (.mv (.c (.f 16 [] []))))])
def b8_3:CC:=(.reg [(pqq pa3 (.mv (.c (.f 18 [] []))))])
def b8_4:CC:=(.reg [(pqq pa4 (.mv (.c (.f 19 [] []))))])
def b8_5:CC:=(.reg [(pqq pa5 (.mv (.c (.f 20 [] []))))])
def b8_6:CC:=(.reg [(paa pa16 (.mkm)),(pqq pa6 (.mv pz16))])
def b8_7:CC:=(.reg [(pqq pa7 (.mv (px6 1)))])
def b8_8:CC:=(.reg [(pqq pa17 (.mv pz7)),(pqq pa18 (.bi .leq pz17 (px6 31)))])
def b8_9:CC:=(.seq b8_8 (.cond pz18 .skip (.exit 0)))
def b8_10:CC:=(.reg [(pqq pa21 (.mv pz6)),(pqq pa22 (.mv pz7)),(pqq pa23 (.mv pz1)),(pez (.mu .int pz21 pz22 pz23))])
def b8_11:CC:=(.reg [(pqq pa19 (.mv pz7)),(pqq pa20 (.bi .add pz19 (px6 1))),(pqq pa7 (.mv pz20))])
def b8_12:CC:=(.block 0 (.loop (.seq b8_9 (.seq (.block 1 b8_10) b8_11))))
def b8_13:CC:=(.reg [(paa pa24 (.bsl 24 8 1 [(.i .i64 0)] [(0,(px6 1)),(1,(px6 3)),(2,(px6 6)),(3,(px6 8)),(4,(px6 10)),(5,(px6 12)),(6,(px6 30)),(7,(px6 14))])),(pqq pa25 (.ln .slice pz24)),(pqq pa26 (.mv (px6 0)))])
def b8_14:CC:=(.reg [(pqq pa27 (.bi .lss pz26 pz25))])
def b8_15:CC:=(.reg [(pqq pa28 (.iaS 1 pz24 pz26)),(pqq pa29 (.ld1 pz28)),(pqq pa9 (.mv pz29))])
def b8_16:CC:=(.reg [(pqq pa30 (.mv pz6)),(pqq pa31 (.mv pz9)),(pqq pa32 (.mv pz2)),(pez (.mu .int pz30 pz31 pz32))])
def b8_17:CC:=(.reg [(pqq pa33 (.bi .add pz26 (px6 1))),(pqq pa26 (.mv pz33))])
def b8_18:CC:=(.seq (.cond pz27 .skip (.exit 2)) (.seq (.block 3 (.seq b8_15 b8_16)) b8_17))
def b8_19:CC:=(.reg [(paa pa34 (.bsl 24 2 1 [(.i .i64 0)] [(0,(px6 7)),(1,(px6 16))])),(pqq pa35 (.ln .slice pz34)),(pqq pa36 (.mv (px6 0)))])
def b8_20:CC:=(.reg [(pqq pa37 (.bi .lss pz36 pz35))])
def b8_21:CC:=(.reg [(pqq pa38 (.iaS 1 pz34 pz36)),(pqq pa39 (.ld1 pz38)),(pqq pa11 (.mv pz39))])
def b8_22:CC:=(.reg [(pqq pa40 (.mv pz6)),(pqq pa41 (.mv pz11)),(pqq pa42 (.mv pz3)),(pez (.mu .int pz40 pz41 pz42))])
def b8_23:CC:=(.reg [(pqq pa43 (.bi .add pz36 (px6 1))),(pqq pa36 (.mv pz43))])
def b8_24:CC:=(.seq (.cond pz37 .skip (.exit 4)) (.seq (.block 5 (.seq b8_21 b8_22)) b8_23))
def b8_25:CC:=(.reg [(paa pa44 (.bsl 24 2 1 [(.i .i64 0)] [(0,(px6 15)),(1,(px6 27))])),(pqq pa45 (.ln .slice pz44)),(pqq pa46 (.mv (px6 0)))])
def b8_26:CC:=(.reg [(pqq pa47 (.bi .lss pz46 pz45))])
def b8_27:CC:=(.reg [(pqq pa48 (.iaS 1 pz44 pz46)),(pqq pa49 (.ld1 pz48)),(pqq pa13 (.mv pz49))])
def b8_28:CC:=(.reg [(pqq pa50 (.mv pz6)),(pqq pa51 (.mv pz13)),(pqq pa52 (.mv pz4)),(pez (.mu .int pz50 pz51 pz52))])
def b8_29:CC:=(.reg [(pqq pa53 (.bi .add pz46 (px6 1))),(pqq pa46 (.mv pz53))])
def b8_30:CC:=(.seq (.cond pz47 .skip (.exit 6)) (.seq (.block 7 (.seq b8_27 b8_28)) b8_29))
def b8_31:CC:=(.reg [(paa pa54 (.bsl 24 3 1 [(.i .i64 0)] [(0,(px6 11)),(1,(px6 18)),(2,(px6 23))])),(pqq pa55 (.ln .slice pz54)),(pqq pa56 (.mv (px6 0)))])
def b8_32:CC:=(.reg [(pqq pa57 (.bi .lss pz56 pz55))])
def b8_33:CC:=(.reg [(pqq pa58 (.iaS 1 pz54 pz56)),(pqq pa59 (.ld1 pz58)),(pqq pa15 (.mv pz59))])
def b8_34:CC:=(.reg [(pqq pa60 (.mv pz6)),(pqq pa61 (.mv pz15)),(pqq pa62 (.mv pz5)),(pez (.mu .int pz60 pz61 pz62))])
def b8_35:CC:=(.reg [(pqq pa63 (.bi .add pz56 (px6 1))),(pqq pa56 (.mv pz63))])
def b8_36:CC:=(.seq (.cond pz57 .skip (.exit 8)) (.seq (.block 9 (.seq b8_33 b8_34)) b8_35))
def b8_37:CC:=(.reg [(pqq pa64 (.mv pz6)),(pez (.mu .int pz64 (px6 9) (.c (.f 21 [] []))))])
def b8_38:CC:=(.reg [(pqq pa65 (.mv pz6)),(pez (.mu .int pz65 (px6 13) (.c (.f 22 [] []))))])
def b8_39:CC:=(.reg [(pqq pa66 (.mv pz6)),(pez (.mu .int pz66 (px6 31) (.c (.f 23 [] []))))])
def b8_40:CC:=(.reg [(pqq pa67 (.mv pz6)),(pqq pa0 (.mv pz67))])
def b8_41:CC:=(.seq (.seq b8_31 (.block 8 (.loop (.seq b8_32 b8_36)))) (.seq b8_37 (.seq b8_38 (.seq b8_39 (.seq b8_40 .ret)))))
def b8_42:CC:=(.seq (.seq b8_25 (.block 6 (.loop (.seq b8_26 b8_30)))) b8_41)
def b8_43:CC:=(.seq (.seq b8_19 (.block 4 (.loop (.seq b8_20 b8_24)))) b8_42)
def b8_44:CC:=(.seq (.seq b8_13 (.block 2 (.loop (.seq b8_14 b8_18)))) b8_43)
def b8_45:CC:=(.seq b8_4 (.seq b8_5 (.seq b8_6 (.seq (.seq b8_7 b8_12) b8_44))))
def b8_46:CC:=(.seq (.reg [(pqq pa0 (.mv (.c .m0)))]) (.seq b8_1 (.seq b8_2 (.seq b8_3 b8_45))))
def c8:CF:= .mk 7 [.t pa0] b8_46
def rcV:RC→V
 | .k v _ _=>v
 | .f=>undef
def rcM:RC→Mem
 | .k _ M _=>M
 | .f=> .e
def rcC:RC→Nat
 | .k _ _ c=>c
 | .f=>0
def rcOk:RC→Bool
 | .k _ _ _=>true
 | .f=>false
theorem rc_eq{r:RC}(h:rcOk r=true):r= .k (rcV r) (rcM r) (rcC r):=by cases r with|f=>cases h|k v M c=>rfl
def x8(Φ:Nat→Option CF)(r1 r2:Blk):RC:=callC (exec Φ 20000) [] 8 [] ((Tr.set .e 1000 r1).set 1001 r2) 1002 (some c8)
def clL:List Nat:=[16,15,16,15,15,16,18,16,21,16,20,16,22,16,19,18,15,20,15,15,15,15,20,15,15,15,19,15,15,16,23]
def esG:List Nat→Nat→List (V×V×Nat)
 |[],_=>[]
 |x::r,i=>(.i .i64 ((i+1:Nat):Int),.f x [] [],i)::esG r (i+1)
theorem x8_ok(Φ:Nat→Option CF)(r1 r2:Blk):rcOk (x8 Φ r1 r2)=true:=by kernel_rfl
theorem x8_v(Φ:Nat→Option CF)(r1 r2:Blk):rcV (x8 Φ r1 r2)= .m 1002:=by kernel_rfl
theorem x8_c(Φ:Nat→Option CF)(r1 r2:Blk):rcC (x8 Φ r1 r2)=1007:=by kernel_rfl
theorem x8_m(Φ:Nat→Option CF)(r1 r2:Blk):(rcM (x8 Φ r1 r2)).get 1002=some (.map (esG clL 0) 31):=by kernel_rfl
theorem x8_0(Φ:Nat→Option CF)(r1 r2:Blk):(rcM (x8 Φ r1 r2)).get 1000=some r1:=by kernel_rfl
theorem x8_1(Φ:Nat→Option CF)(r1 r2:Blk):(rcM (x8 Φ r1 r2)).get 1001=some r2:=by kernel_rfl
theorem x8_n(Φ:Nat→Option CF)(r1 r2:Blk):(rcM (x8 Φ r1 r2)).get 1007=none:=by kernel_rfl
def valK(k:Nat)(w1 w2 w3:Int):Int×Int×Int:=
 if k=15 then(0,0,0)else if k=16 then(sg w1,0,0)else if k=18 then(sg w1,sg w2,0)else if k=19 then(sg w1,sg w2,sg w3)else if k=20 then(sg w2,0,0)else if k=21 then(sg w1,IntKind.i64.wrap w2,0)else if k=22 then(sg w1,sg w3,0)else(sg w3,0,0)
def hcl(k:Nat):List V→Option V
 |[.g (.i .u32 w0:: .i .u32 w1:: .i .u32 w2:: .i .u32 w3::rest)]=>if rest.length=12∧allOne rest=true then some (.t [.i .i64 (valK k w1 w2 w3).1,.i .i64 (valK k w1 w2 w3).2.1,.i .i64 (valK k w1 w2 w3).2.2])else none
 |_=>none
theorem hcl_eq(k:Nat)(w0 w1 w2 w3:Int)(rest:List V)(hl:rest.length=12)(ho:allOne rest=true):hcl k [.g (RR w0 w1 w2 w3 rest)]=some (.t [.i .i64 (valK k w1 w2 w3).1,.i .i64 (valK k w1 w2 w3).2.1,.i .i64 (valK k w1 w2 w3).2.2]):=if_pos ⟨hl,ho⟩
theorem hcl_some{k:Nat}{args:List V}{v:V}(h:hcl k args=some v):∃w0 w1 w2 w3 rest,args=[.g (RR w0 w1 w2 w3 rest)]∧rest.length=12∧allOne rest=true∧v= .t [.i .i64 (valK k w1 w2 w3).1,.i .i64 (valK k w1 w2 w3).2.1,.i .i64 (valK k w1 w2 w3).2.2]:=by
 unfold hcl at h
 split at h
 ·rename_i w0 w1 w2 w3 rest;split at h
  ·rename_i hc;exact⟨w0,w1,w2,w3,rest,rfl,hc.1,hc.2,(Option.some.inj h).symm⟩
  ·cases h
 ·cases h
theorem bd3(a b c:Int):bd (fun _=>False) (.t [.i .i64 a,.i .i64 b,.i .i64 c]):=⟨trivial,trivial,trivial,trivial⟩
theorem okm_e{c:Nat}(h:1000≤c):Okm [] .e c:=⟨fun _ _=>rfl,fun _ _=>rfl,fun _ _=>rfl,h⟩
section
variable{P:Program}(hm:P.follows .mixedOrders=true){Φ:Nat→Option CF}(hΦ:PhiOk P Φ)
include hm hΦ
theorem o17(h:Φ 17=some c17):OrcOk P 17 (pureO hsg):=pure_of hm hΦ (by
 intro args v ct hv hct
 unfold hsg at hv
 split at hv
 ·obtain rfl:=Option.some.inj hv;exact⟨trivial,w17 Φ h _ _⟩
 ·cases hv)
theorem o9(h:Φ 9=some c9):OrcOk P 9 (pureO hsg):=pure_of hm hΦ (by
 intro args v ct hv hct
 unfold hsg at hv
 split at hv
 ·obtain rfl:=Option.some.inj hv;exact⟨trivial,w9 Φ h _ _⟩
 ·cases hv)
theorem o15(h:Φ 15=some c15)(h17:Φ 17=some (.orc (pureO hsg))):OrcOk P 15 (pureO (hcl 15)):=pure_of hm hΦ (by
 intro args v ct hv hct
 obtain⟨w0,w1,w2,w3,rest,rfl,hl,ho,rfl⟩:=hcl_some hv
 obtain⟨v,M1,c1,e,rfl,_⟩:=w15 Φ h h17 (okm_e hct) w0 w1 w2 w3 rest hl ho
 exact⟨bd3 _ _ _,M1,c1,e⟩)
theorem o16(h:Φ 16=some c16)(h17:Φ 17=some (.orc (pureO hsg))):OrcOk P 16 (pureO (hcl 16)):=pure_of hm hΦ (by
 intro args v ct hv hct
 obtain⟨w0,w1,w2,w3,rest,rfl,hl,ho,rfl⟩:=hcl_some hv
 obtain⟨v,M1,c1,e,rfl,_⟩:=w16 Φ h h17 (okm_e hct) w0 w1 w2 w3 rest hl ho
 exact⟨bd3 _ _ _,M1,c1,e⟩)
theorem o18(h:Φ 18=some c18)(h17:Φ 17=some (.orc (pureO hsg))):OrcOk P 18 (pureO (hcl 18)):=pure_of hm hΦ (by
 intro args v ct hv hct
 obtain⟨w0,w1,w2,w3,rest,rfl,hl,ho,rfl⟩:=hcl_some hv
 obtain⟨v,M1,c1,e,rfl,_⟩:=w18 Φ h h17 (okm_e hct) w0 w1 w2 w3 rest hl ho
 exact⟨bd3 _ _ _,M1,c1,e⟩)
theorem o19(h:Φ 19=some c19)(h17:Φ 17=some (.orc (pureO hsg))):OrcOk P 19 (pureO (hcl 19)):=pure_of hm hΦ (by
 intro args v ct hv hct
 obtain⟨w0,w1,w2,w3,rest,rfl,hl,ho,rfl⟩:=hcl_some hv
 obtain⟨v,M1,c1,e,rfl,_⟩:=w19 Φ h h17 (okm_e hct) w0 w1 w2 w3 rest hl ho
 exact⟨bd3 _ _ _,M1,c1,e⟩)
theorem o20(h:Φ 20=some c20)(h17:Φ 17=some (.orc (pureO hsg))):OrcOk P 20 (pureO (hcl 20)):=pure_of hm hΦ (by
 intro args v ct hv hct
 obtain⟨w0,w1,w2,w3,rest,rfl,hl,ho,rfl⟩:=hcl_some hv
 obtain⟨v,M1,c1,e,rfl,_⟩:=w20 Φ h h17 (okm_e hct) w0 w1 w2 w3 rest hl ho
 exact⟨bd3 _ _ _,M1,c1,e⟩)
theorem o21(h:Φ 21=some c21)(h17:Φ 17=some (.orc (pureO hsg))):OrcOk P 21 (pureO (hcl 21)):=pure_of hm hΦ (by
 intro args v ct hv hct
 obtain⟨w0,w1,w2,w3,rest,rfl,hl,ho,rfl⟩:=hcl_some hv
 obtain⟨v,M1,c1,e,rfl,_⟩:=w21 Φ h h17 (okm_e hct) w0 w1 w2 w3 rest hl ho
 exact⟨bd3 _ _ _,M1,c1,e⟩)
theorem o22(h:Φ 22=some c22)(h17:Φ 17=some (.orc (pureO hsg))):OrcOk P 22 (pureO (hcl 22)):=pure_of hm hΦ (by
 intro args v ct hv hct
 obtain⟨w0,w1,w2,w3,rest,rfl,hl,ho,rfl⟩:=hcl_some hv
 obtain⟨v,M1,c1,e,rfl,_⟩:=w22 Φ h h17 (okm_e hct) w0 w1 w2 w3 rest hl ho
 exact⟨bd3 _ _ _,M1,c1,e⟩)
theorem o23(h:Φ 23=some c23)(h17:Φ 17=some (.orc (pureO hsg))):OrcOk P 23 (pureO (hcl 23)):=pure_of hm hΦ (by
 intro args v ct hv hct
 obtain⟨w0,w1,w2,w3,rest,rfl,hl,ho,rfl⟩:=hcl_some hv
 obtain⟨v,M1,c1,e,rfl,_⟩:=w23 Φ h h17 (okm_e hct) w0 w1 w2 w3 rest hl ho
 exact⟨bd3 _ _ _,M1,c1,e⟩)
end
theorem keyEq_i(k:IntKind)(a b:Int):keyEq .int (.i k a) (.i k b)=some (decide (a=b)):=by
 show(bif sameK k k then some (eqI a b)else none)=_
 rw[show sameK k k=true by cases k<;>rfl,eqI_iff];rfl
theorem findG_none{z:Int}:∀(L:List Nat) (i n:Nat),(∀j,j<L.length→z≠((i+j+1:Nat):Int))→findK .int (.i .i64 z) (esG L i) n=some none
 |[],i,n,h=>rfl
 |x::r,i,n,h=>by
  have h0:=h 0 (Nat.succ_pos _);show(match keyEq .int (.i .i64 z) (.i .i64 ((i+1:Nat):Int))with|some true=>_|some false=>findK .int (.i .i64 z) (esG r (i+1)) (n+1)|none=>_)=_;rw[keyEq_i,decide_eq_false (show¬z=((i+1:Nat):Int)from h0)]
  exact findG_none r (i+1) (n+1) fun j hj=>by
   have:=h (j+1) (Nat.succ_lt_succ hj)
   rwa [show i+(j+1)+1=i+1+j+1 by omega]at this
theorem findG_some{z:Int}:∀(L:List Nat) (i n j x:Nat),L[j]?=some x→z=((i+j+1:Nat):Int)→findK .int (.i .i64 z) (esG L i) n=some (some (n+j,.f x [] []))
 |[],i,n,j,x,h,_=>by cases j<;>cases h
 |y::r,i,n,0,x,h,hz=>by
  have e:y=x:=Option.some.inj h;subst e;show(match keyEq .int (.i .i64 z) (.i .i64 ((i+1:Nat):Int))with|some true=>some (some (n,V.f y [] []))|some false=>_|none=>_)=_;rw[keyEq_i,decide_eq_true (show z=((i+1:Nat):Int)from hz)];rfl
 |y::r,i,n,j+1,x,h,hz=>by
  show(match keyEq .int (.i .i64 z) (.i .i64 ((i+1:Nat):Int))with|some true=>_|some false=>findK .int (.i .i64 z) (esG r (i+1)) (n+1)|none=>_)=_;rw[keyEq_i,decide_eq_false (show¬z=((i+1:Nat):Int) by omega)];have:=findG_some (z:=z) r (i+1) (n+1) j x h (by rw[hz];congr 1;omega);rw[show n+1+j=n+(j+1) by omega]at this;exact this
theorem lkVV_t{F:RO}{M:Mem}{pb clk:Nat}{es:List (V×V×Nat)}{kv z:V}{j:Nat}{v:V}(h:look F M pb=some (.map es clk))(hf:findK .int kv es 0=some (some (j,v))):lkVV .int z true (.m pb) kv F M=some (.t [v,.b true]):=by
 show(asMap (look F M pb) .f fun es _=>q_lkr z true pb (findK .int kv es 0)).val=_
 rw[h]
 show(q_lkr z true pb (findK .int kv es 0)).val=_
 rw[hf];rfl
theorem lkVV_n{F:RO}{M:Mem}{pb clk:Nat}{es:List (V×V×Nat)}{kv z:V}(h:look F M pb=some (.map es clk))(hf:findK .int kv es 0=some none):lkVV .int z true (.m pb) kv F M=some (.t [z,.b false]):=by
 show(asMap (look F M pb) .f fun es _=>q_lkr z true pb (findK .int kv es 0)).val=_
 rw[h]
 show(q_lkr z true pb (findK .int kv es 0)).val=_
 rw[hf];rfl
def clV(z:Int)(p:Int×Int×Int):List V:=[.i .i64 z,.i .i64 p.1,.i .i64 p.2.1,.i .i64 p.2.2,.s 0 0,.s 0 0,.l0]
def arV(z w1 w2 w3:Int):V:=if 1≤z∧z≤31 then .t [.g (clV z (valK (clL.getD (z.toNat-1) 0) w1 w2 w3)),.b true]else .t [.g (clV 0 (0,0,0)),.b false]
def b4_1:CC:=(.reg [(paa pa3 (.bx 23 16 pz1)),(paa pa4 (.al 27 [(.i .i64 0),(.i .i64 0),(.i .i64 0),(.i .i64 0),(.s 0 0),(.s 0 0),.l0])),(pqq pa5 (.mv pxF))])
def b4_2:CC:=(.reg [(pee pa10 (.call 8 [])),(pqq pa11 (.mv pz0)),(pqq pa12 (.lk .int .f0 true pz10 pz11)),(pqq pa9 (.mv pz12)),(pqq pa13 (.ex 0 pz9)),(pqq pa14 (.ex 1 pz9)),(pqq pa6 (.mv pz13)),(pqq pa7 (.mv pz14))])
def b4_3:CC:=(.reg [(pqq pa15 (.mv pz7)),(pqq pa16 (.un .not pz15))])
def b4_4:CC:=(.reg [(pqq pa17 (.bld [(.i .i64 0),(.i .i64 0),(.i .i64 0),(.i .i64 0),(.s 0 0),(.s 0 0),.l0] [])),(pez (.st 7 pz4 pz17)),(pqq pa5 (.mv pxF))])
def b4_5:CC:=(.seq b4_3 (.cond pz16 (.seq b4_4 .ret) .skip))
def b4_6:CC:=(.reg [(pqq pa18 (.mv pz0)),(pqq pa19 (.bld [(.i .i64 0),(.i .i64 0),(.i .i64 0),(.i .i64 0),(.s 0 0),(.s 0 0),.l0] [(0,1,pz18)])),(paa pa8 (.al 27 [(.i .i64 0),(.i .i64 0),(.i .i64 0),(.i .i64 0),(.s 0 0),(.s 0 0),.l0])),(pez (.st 7 pz8 pz19))])
def b4_7:CC:=(.reg [(pqq pa21 (.mv pz6)),(pqq pa22 (.ldn 16 pz3)),(pee pa23 (.cv pz21 [pz22])),(pqq pa20 (.mv pz23)),(pqq pa24 (.ex 0 pz20)),(pqq pa25 (.ex 1 pz20)),(pqq pa26 (.ex 2 pz20)),(pqq pa27 (.fa 1 pz8)),(pez (.st 1 pz27 pz24)),(pqq pa28 (.fa 2 pz8)),(pez (.st 1 pz28 pz25)),(pqq pa29 (.fa 3 pz8)),(pez (.st 1 pz29 pz26))])
def b4_8:CC:=(.reg [(pqq pa30 (.ldn 7 pz8)),(pez (.st 7 pz4 pz30)),(pqq pa5 (.mv pxT))])
def b4_9:CC:=(.seq b4_2 (.seq b4_5 (.seq b4_6 (.seq b4_7 (.seq b4_8 .ret)))))
def c4:CF:= .mk 5 [.cn pa4 7,.t pa5] (.seq b4_1 b4_9)
theorem e4(v0 v1:V):argTr 5 [v0,v1]=(.n (.n sk3 (some v1) sk3) (some v0) sk4):=rfl
def B4:=ai @e4 (ai (wu b4_1.eq_1) (ai (wu b4_2.eq_1) (ai (wu b4_3.eq_1) (ai (wu b4_4.eq_1) (ai (wu b4_5.eq_1) (ai (wu b4_6.eq_1) (ai (wu b4_7.eq_1) (ai (wu b4_8.eq_1) (wu b4_9.eq_1)))))))))
theorem w4(Φ:Nat→Option CF)(h:Φ 4=some c4)(h8:Φ 8=some c8)(h15:Φ 15=some (.orc (pureO (hcl 15))))(h16:Φ 16=some (.orc (pureO (hcl 16))))(h18:Φ 18=some (.orc (pureO (hcl 18))))(h19:Φ 19=some (.orc (pureO (hcl 19))))(h20:Φ 20=some (.orc (pureO (hcl 20))))(h21:Φ 21=some (.orc (pureO (hcl 21))))(h22:Φ 22=some (.orc (pureO (hcl 22))))(h23:Φ 23=some (.orc (pureO (hcl 23))))
 (z w0 w1 w2 w3:Int) (rest:List V) (hl:rest.length=12) (ho:allOne rest=true):
 Calls Φ [] 4 [.i .i64 z,.g (RR w0 w1 w2 w3 rest)] .e 1000 fun r _ _=>r=arV z w1 w2 w3:=by
 refine calls_walk h ?_
 have hRl:(RR w0 w1 w2 w3 rest).length=16:=by unfold RR;simp only[List.length_cons,hl]
 have hRo:allOne (RR w0 w1 w2 w3 rest)=true:=by unfold RR;simp only[allOne_cons,isOne_i,ho,Bool.and_true]
 have heq:=fun k=>hcl_eq k w0 w1 w2 w3 rest hl ho
 generalize RR w0 w1 w2 w3 rest=R at hRl hRo heq⊢
 simp only[WX,Nat.reduceAdd,B4,hRl,hRo]
 have e8:callC (den Φ) [] 8 [] ((Tr.set .e 1000 (rowB 23 R)).set 1001 (rowB 27 (clV 0 (0,0,0)))) 1002 (Φ 8)= .k (.m 1002) (rcM (x8 Φ (rowB 23 R) (rowB 27 (clV 0 (0,0,0))))) 1007:=by
  have hx:=x8_ok Φ (rowB 23 R) (rowB 27 (clV 0 (0,0,0)));have hr:=rc_eq hx;rw[x8_v,x8_c]at hr;rw[h8,callC_den (n:=20000)]
  ·exact hr
  ·show x8 Φ _ _≠ .f;rw[hr];exact fun e=>by cases e
 have m2:=x8_m Φ (rowB 23 R) (rowB 27 (clV 0 (0,0,0)))
 have m0:=x8_0 Φ (rowB 23 R) (rowB 27 (clV 0 (0,0,0)))
 have m1:=x8_1 Φ (rowB 23 R) (rowB 27 (clV 0 (0,0,0)))
 have mn:=x8_n Φ (rowB 23 R) (rowB 27 (clV 0 (0,0,0)))
 generalize rcM (x8 Φ (rowB 23 R) (rowB 27 (clV 0 (0,0,0))))=MX at e8 m0 m1 m2 mn
 have L0:loadN [] MX 1000 0 16=some R:=loadN_row m0 16 hRl
 have e8:callC (den Φ) [] 8 [] ((Tr.set .e 1000 (rowB 23 R)).set 1001 (rowB 27 [.i .i64 0,.i .i64 0,.i .i64 0,.i .i64 0,.s 0 0,.s 0 0,.l0])) 1002 (Φ 8)= .k (.m 1002) MX 1007:=e8
 refine putE_to ⟨_,_,_,e8,?_⟩
 have lk:=look_some_M (F:=[]) m2
 have hov:∀row:List V,row.length=7→over (clV 0 (0,0,0)) 0 row=row:=fun row hr=>over_all (by rw[hr];rfl)
 by_cases hz:1≤z∧z≤31
 ·obtain⟨j,hj,rfl⟩:∃j:Nat,j<31∧z=((0+j+1:Nat):Int):=⟨z.toNat-1,by omega,by omega⟩
  obtain⟨x,hx⟩:∃x,clL[j]?=some x:=⟨_,List.getElem?_eq_getElem (show j<clL.length from hj)⟩
  have hfs:=findG_some (z:=((0+j+1:Nat):Int)) clL 0 0 j x hx rfl;have hlk:=lkVV_t (z:=V.f0) lk hfs;have hmem:x∈clL:=List.mem_of_getElem? hx;have hPx:Φ x=some (.orc (pureO (hcl x))):=by
   simp only[clL,List.mem_cons,List.mem_nil_iff,or_false]at hmem;rcases hmem with rfl|rfl|rfl|rfl|rfl|rfl|rfl|rfl|rfl|rfl|rfl|rfl|rfl|rfl|rfl|rfl|rfl|rfl|rfl|rfl|rfl|rfl|rfl|rfl|rfl|rfl|rfl|rfl|rfl|rfl|rfl<;>assumption
  have har:arV ((0+j+1:Nat):Int) w1 w2 w3= .t [.g (clV ((0+j+1:Nat):Int) (valK x w1 w2 w3)),.b true]:=by
   unfold arV;rw[if_pos hz,show((0+j+1:Nat):Int).toNat-1=j by omega,List.getD_eq_getElem?_getD,hx];rfl
  rw[har];generalize((0+j+1:Nat):Int)=z at hlk⊢
  have hst:∀B row,row.length=7→allOne row=true→storeN (MX.set 1007 B) 1001 0 row=some ((MX.set 1007 B).set 1001 (rowB 27 row)):=fun B row hr h1=>by
   have:=store_row ((get_ne MX B (show(1001:Nat)≠1007 by omega)).trans m1) 0 row (by rw[hr];exact Nat.le_refl _) h1;rw[this,hov row hr]
  have hcl:=heq x;have L0':∀B,loadN [] (MX.set 1007 B) 1000 0 16=some R:=fun B=>(loadN_fr (get_ne MX B (show(1000:Nat)≠1007 by omega)) 0 16).trans L0;simp only[WX,Nat.reduceAdd,Nat.reduceLeDiff,B4,v_lk0,hlk,hPx,hcl,L0',hst];rfl
 ·have hfn:=findG_none (z:=z) clL 0 0 fun j hj e=>hz (by have hj:j<31:=hj;omega);have hlk:=lkVV_n (z:=V.f0) lk hfn;have har:arV z w1 w2 w3= .t [.g (clV 0 (0,0,0)),.b false]:=if_neg hz;have stz:=store_row m1 0 (clV 0 (0,0,0)) (Nat.le_refl _) rfl;rw[hov _ rfl,←set_same m1]at stz;have ldz:loadN [] MX 1001 0 7=some (clV 0 (0,0,0)):=loadN_row m1 7 rfl;have stz:storeN MX 1001 0 [.i .i64 0,.i .i64 0,.i .i64 0,.i .i64 0,.s 0 0,.s 0 0,.l0]=some MX:=stz;rw[har];simp only[WX,Nat.reduceAdd,B4,v_lk0,hlk,stz,ldz]
def b5_1:CC:=(.reg [(paa pa3 (.bx 23 16 pz1)),(paa pa4 (.al 27 [(.i .i64 0),(.i .i64 0),(.i .i64 0),(.i .i64 0),(.s 0 0),(.s 0 0),.l0])),(pqq pa5 (.mv pxF))])
def b5_2:CC:=(.reg [(pqq pa10 (.mv pz0)),(pqq pa11 (.bld [(.i .i64 0),(.i .i64 0),(.i .i64 0),(.i .i64 0),(.s 0 0),(.s 0 0),.l0] [(0,1,pz10)])),(paa pa6 (.al 27 [(.i .i64 0),(.i .i64 0),(.i .i64 0),(.i .i64 0),(.s 0 0),(.s 0 0),.l0])),(pez (.st 7 pz6 pz11))])
def b5_3:CC:=(.reg [(pqq pa12 (.fa 0 pz6)),(pqq pa13 (.ld1 pz12)),(pqq pa14 (.bi .lss pz13 (px6 1))),(pqq pa15 (.mv pz14)),⟨(some pa16),.q (.fa 0 pz6),(some (pa15,false))⟩,⟨(some pa17),.q (.ld1 pz16),(some (pa15,false))⟩,⟨(some pa18),.q (.bi .gtr pz17 (px6 31)),(some (pa15,false))⟩,(pqq pa19 (.pk pz15 pxT pz18))])
def b5_4:CC:=(.reg [(pqq pa20 (.bld [(.i .i64 0),(.i .i64 0),(.i .i64 0),(.i .i64 0),(.s 0 0),(.s 0 0),.l0] [])),(pez (.st 7 pz4 pz20)),(pqq pa5 (.mv pxF))])
def b5_5:CC:=(.seq b5_3 (.cond pz19 (.seq b5_4 .ret) .skip))
def b5_6:CC:=(.dreg 12 [(0,0,(pqq pa21 (.iaA 16 1 pz3 (px6 1)))),(1,1,(pqq pa22 (.ld1 pz21))),(3,0,(pqq pa24 (.iaA 16 1 pz3 (px6 2)))),(4,8,(pqq pa25 (.ld1 pz24))),(6,0,(pqq pa27 (.iaA 16 1 pz3 (px6 3)))),(7,64,(pqq pa28 (.ld1 pz27))),(2,3,(pee pa23 (.call 9 [pz22]))),(5,31,(pee pa26 (.call 9 [pz25]))),(8,255,(pee pa29 (.call 9 [pz28]))),(9,511,(pqq pa7 (.mv pz23))),(10,1023,(pqq pa8 (.mv pz26))),(11,2047,(pqq pa9 (.mv pz29)))])
def b5_7:CC:=(.reg [(pqq pa30 (.fa 0 pz6)),(pqq pa31 (.ld1 pz30))])
def b5_8:CC:=(.reg [(pqq pa33 (.bi .eql pz31 (px6 1))),(pqq pa32 (.mv pz33))])
def b5_9:CC:=(.reg [(pqq pa34 (.bi .eql pz31 (px6 3))),(pqq pa32 (.mv pz34))])
def b5_10:CC:=(.reg [(pqq pa35 (.bi .eql pz31 (px6 6))),(pqq pa32 (.mv pz35))])
def b5_11:CC:=(.reg [(pqq pa36 (.bi .eql pz31 (px6 8))),(pqq pa32 (.mv pz36))])
def b5_12:CC:=(.reg [(pqq pa37 (.bi .eql pz31 (px6 10))),(pqq pa32 (.mv pz37))])
def b5_13:CC:=(.reg [(pqq pa38 (.bi .eql pz31 (px6 12))),(pqq pa32 (.mv pz38))])
def b5_14:CC:=(.reg [(pqq pa39 (.bi .eql pz31 (px6 30))),(pqq pa32 (.mv pz39))])
def b5_15:CC:=(.reg [(pqq pa40 (.bi .eql pz31 (px6 14))),(pqq pa32 (.mv pz40))])
def b5_16:CC:=(.seq b5_14 (.cond pz32 .skip b5_15))
def b5_17:CC:=(.seq b5_13 (.cond pz32 .skip b5_16))
def b5_18:CC:=(.seq b5_12 (.cond pz32 .skip b5_17))
def b5_19:CC:=(.seq b5_11 (.cond pz32 .skip b5_18))
def b5_20:CC:=(.seq b5_10 (.cond pz32 .skip b5_19))
def b5_21:CC:=(.seq b5_9 (.cond pz32 .skip b5_20))
def b5_22:CC:=(.seq b5_8 (.cond pz32 .skip b5_21))
def b5_23:CC:=(.reg [(pqq pa41 (.mv pz7)),(pqq pa42 (.fa 1 pz6)),(pez (.st 1 pz42 pz41))])
def b5_24:CC:=(.reg [(pqq pa44 (.bi .eql pz31 (px6 7))),(pqq pa43 (.mv pz44))])
def b5_25:CC:=(.reg [(pqq pa45 (.bi .eql pz31 (px6 16))),(pqq pa43 (.mv pz45))])
def b5_26:CC:=(.seq b5_24 (.cond pz43 .skip b5_25))
def b5_27:CC:=(.reg [(pqq pa46 (.mv pz7)),(pqq pa47 (.fa 1 pz6)),(pez (.st 1 pz47 pz46))])
def b5_28:CC:=(.reg [(pqq pa48 (.mv pz8)),(pqq pa49 (.fa 2 pz6)),(pez (.st 1 pz49 pz48))])
def b5_29:CC:=(.reg [(pqq pa51 (.bi .eql pz31 (px6 9))),(pqq pa50 (.mv pz51))])
def b5_30:CC:=(.reg [(pqq pa52 (.mv pz7)),(pqq pa53 (.fa 1 pz6)),(pez (.st 1 pz53 pz52))])
def b5_31:CC:=(.reg [(pqq pa54 (.iaA 16 1 pz3 (px6 2))),(pqq pa55 (.ld1 pz54)),(pqq pa56 (.ci .i64 pz55)),(pqq pa57 (.fa 2 pz6)),(pez (.st 1 pz57 pz56))])
def b5_32:CC:=(.reg [(pqq pa59 (.bi .eql pz31 (px6 15))),(pqq pa58 (.mv pz59))])
def b5_33:CC:=(.reg [(pqq pa60 (.bi .eql pz31 (px6 27))),(pqq pa58 (.mv pz60))])
def b5_34:CC:=(.seq b5_32 (.cond pz58 .skip b5_33))
def b5_35:CC:=(.reg [(pqq pa61 (.mv pz7)),(pqq pa62 (.fa 1 pz6)),(pez (.st 1 pz62 pz61))])
def b5_36:CC:=(.reg [(pqq pa63 (.mv pz8)),(pqq pa64 (.fa 2 pz6)),(pez (.st 1 pz64 pz63))])
def b5_37:CC:=(.reg [(pqq pa65 (.mv pz9)),(pqq pa66 (.fa 3 pz6)),(pez (.st 1 pz66 pz65))])
def b5_38:CC:=(.reg [(pqq pa68 (.bi .eql pz31 (px6 11))),(pqq pa67 (.mv pz68))])
def b5_39:CC:=(.reg [(pqq pa69 (.bi .eql pz31 (px6 18))),(pqq pa67 (.mv pz69))])
def b5_40:CC:=(.reg [(pqq pa70 (.bi .eql pz31 (px6 23))),(pqq pa67 (.mv pz70))])
def b5_41:CC:=(.seq b5_39 (.cond pz67 .skip b5_40))
def b5_42:CC:=(.seq b5_38 (.cond pz67 .skip b5_41))
def b5_43:CC:=(.reg [(pqq pa71 (.mv pz8)),(pqq pa72 (.fa 1 pz6)),(pez (.st 1 pz72 pz71))])
def b5_44:CC:=(.reg [(pqq pa74 (.bi .eql pz31 (px6 13))),(pqq pa73 (.mv pz74))])
def b5_45:CC:=(.reg [(pqq pa75 (.mv pz7)),(pqq pa76 (.fa 1 pz6)),(pez (.st 1 pz76 pz75))])
def b5_46:CC:=(.reg [(pqq pa77 (.mv pz9)),(pqq pa78 (.fa 2 pz6)),(pez (.st 1 pz78 pz77))])
def b5_47:CC:=(.reg [(pqq pa80 (.bi .eql pz31 (px6 31))),(pqq pa79 (.mv pz80))])
def b5_48:CC:=(.reg [(pqq pa81 (.mv pz9)),(pqq pa82 (.fa 1 pz6)),(pez (.st 1 pz82 pz81))])
def b5_49:CC:=(.seq b5_47 (.cond pz79 b5_48 .skip))
def b5_50:CC:=(.cond pz73 (.seq b5_45 b5_46) b5_49)
def b5_51:CC:=(.cond pz67 b5_43 (.seq b5_44 b5_50))
def b5_52:CC:=(.cond pz58 (.seq b5_35 (.seq b5_36 b5_37)) (.seq b5_42 b5_51))
def b5_53:CC:=(.cond pz50 (.seq b5_30 b5_31) (.seq b5_34 b5_52))
def b5_54:CC:=(.cond pz43 (.seq b5_27 b5_28) (.seq b5_29 b5_53))
def b5_55:CC:=(.cond pz32 b5_23 (.seq b5_26 b5_54))
def b5_56:CC:=(.reg [(pqq pa83 (.ldn 7 pz6)),(pez (.st 7 pz4 pz83)),(pqq pa5 (.mv pxT))])
def b5_57:CC:=(.seq (.seq b5_7 (.block 0 (.seq b5_22 b5_55))) (.seq b5_56 .ret))
def c5:CF:= .mk 7 [.cn pa4 7,.t pa5] (.seq b5_1 (.seq b5_2 (.seq b5_5 (.seq b5_6 b5_57))))
theorem e5(v0 v1:V):argTr 7 [v0,v1]=(.n (.n sk5 (some v1) sk5) (some v0) sk6):=rfl
def B5:=ai @e5 (ai (wu b5_1.eq_1) (ai (wu b5_2.eq_1) (ai (wu b5_3.eq_1) (ai (wu b5_4.eq_1) (ai (wu b5_5.eq_1) (ai (wu b5_6.eq_1) (ai (wu b5_7.eq_1) (ai (wu b5_8.eq_1) (ai (wu b5_9.eq_1) (ai (wu b5_10.eq_1) (ai (wu b5_11.eq_1) (ai (wu b5_12.eq_1) (ai (wu b5_13.eq_1) (ai (wu b5_14.eq_1) (ai (wu b5_15.eq_1) (ai (wu b5_16.eq_1) (ai (wu b5_17.eq_1) (ai (wu b5_18.eq_1) (ai (wu b5_19.eq_1) (ai (wu b5_20.eq_1) (ai (wu b5_21.eq_1) (ai (wu b5_22.eq_1) (ai (wu b5_23.eq_1) (ai (wu b5_24.eq_1) (ai (wu b5_25.eq_1) (ai (wu b5_26.eq_1) (ai (wu b5_27.eq_1) (ai (wu b5_28.eq_1) (ai (wu b5_29.eq_1) (ai (wu b5_30.eq_1) (ai (wu b5_31.eq_1) (ai (wu b5_32.eq_1) (ai (wu b5_33.eq_1) (ai (wu b5_34.eq_1) (ai (wu b5_35.eq_1) (ai (wu b5_36.eq_1) (ai (wu b5_37.eq_1) (ai (wu b5_38.eq_1) (ai (wu b5_39.eq_1) (ai (wu b5_40.eq_1) (ai (wu b5_41.eq_1) (ai (wu b5_42.eq_1) (ai (wu b5_43.eq_1) (ai (wu b5_44.eq_1) (ai (wu b5_45.eq_1) (ai (wu b5_46.eq_1) (ai (wu b5_47.eq_1) (ai (wu b5_48.eq_1) (ai (wu b5_49.eq_1) (ai (wu b5_50.eq_1) (ai (wu b5_51.eq_1) (ai (wu b5_52.eq_1) (ai (wu b5_53.eq_1) (ai (wu b5_54.eq_1) (ai (wu b5_55.eq_1) (ai (wu b5_56.eq_1) (wu b5_57.eq_1)))))))))))))))))))))))))))))))))))))))))))))))))))))))))
theorem w5(Φ:Nat→Option CF)(h:Φ 5=some c5)(h9:Φ 9=some (.orc (pureO hsg))){c:Nat}(hc:1000≤c)(z w0 w1 w2 w3:Int)(rest:List V)(hl:rest.length=12)(ho:allOne rest=true):
 Calls Φ [] 5 [.i .i64 z,.g (RR w0 w1 w2 w3 rest)] .e c fun r _ _=>r=arV z w1 w2 w3:=by
 refine calls_walk h ?_
 have i1:iaAV 16 1 (.p c 0) (.i .i64 1)=some (.p c 1):=iaA_p 16 1 c 0 1 .i64 (by omega)
 have i2:iaAV 16 1 (.p c 0) (.i .i64 2)=some (.p c 2):=iaA_p 16 1 c 0 2 .i64 (by omega)
 have i3:iaAV 16 1 (.p c 0) (.i .i64 3)=some (.p c 3):=iaA_p 16 1 c 0 3 .i64 (by omega)
 have hfr:∀M:Mem,roFree M []=true:=fun M=>roFree_of M [] fun b hb=>by cases hb
 by_cases hz:1≤z∧z≤31
 ·have d1:decide (z<1)=false:=decide_eq_false (by omega);have d2:decide (31<z)=false:=decide_eq_false (by omega);unfold RR;simp only[WX,Nat.reduceAdd,Nat.reduceLeDiff,B5,hl,ho,d1,d2,dq_iaA0,iaAQ_p,i1,i2,i3];refine wd_pure _ _ _ _ _ _ _ _ _ _ _ h9 (hfr _) ?_;simp only[WX,hsg_eq];refine wd_pure _ _ _ _ _ _ _ _ _ _ _ h9 (hfr _) ?_;simp only[WX,Nat.reducePow,Nat.reduceDiv,Nat.reduceMod,Nat.reduceBEq,wd_e1,B5,hsg_eq,h9,hfr];rcases(show z=1∨z=2∨z=3∨z=4∨z=5∨z=6∨z=7∨z=8∨z=9∨z=10∨z=11∨z=12∨z=13∨z=14∨z=15∨z=16∨z=17∨z=18∨z=19∨z=20∨z=21∨z=22∨z=23∨z=24∨z=25∨z=26∨z=27∨z=28∨z=29∨z=30∨z=31 by omega)with rfl|rfl|rfl|rfl|rfl|rfl|rfl|rfl|rfl|rfl|rfl|rfl|rfl|rfl|rfl|rfl|rfl|rfl|rfl|rfl|rfl|rfl|rfl|rfl|rfl|rfl|rfl|rfl|rfl|rfl|rfl<;>
  ·simp only[WX,Nat.reduceBEq,Int.reduceEq,Nat.reduceAdd,Nat.reduceLeDiff,B5,v_iaA,i2];rfl
 ·have har:arV z w1 w2 w3= .t [.g (clV 0 (0,0,0)),.b false]:=if_neg hz;rw[har];unfold RR;by_cases h1:z<1
  ·have d1:decide (z<1)=true:=decide_eq_true h1;simp only[WX,Nat.reduceBEq,Nat.reduceAdd,Nat.reduceLeDiff,B5,hl,ho,d1];rfl
  ·have d1:decide (z<1)=false:=decide_eq_false h1;have d2:decide (31<z)=true:=decide_eq_true (by omega);simp only[WX,Nat.reduceBEq,Nat.reduceAdd,Nat.reduceLeDiff,B5,hl,ho,d1,d2];rfl
def b6_1:CC:=(.reg [(paa pa2 (.bx 27 7 pz0)),(paa pa3 (.bx 27 7 pz1)),(pqq pa4 (.mv pxF))])
def b6_2:CC:=(.reg [(pqq pa5 (.fa 0 pz2)),(pqq pa6 (.ld1 pz5)),(pqq pa7 (.fa 0 pz3)),(pqq pa8 (.ld1 pz7)),(pqq pa9 (.bi .eql pz6 pz8)),(pqq pa10 (.mv pz9)),⟨(some pa11),.q (.fa 1 pz2),(some (pa10,true))⟩,⟨(some pa12),.q (.ld1 pz11),(some (pa10,true))⟩,⟨(some pa13),.q (.fa 1 pz3),(some (pa10,true))⟩,⟨(some pa14),.q (.ld1 pz13),(some (pa10,true))⟩,⟨(some pa15),.q (.bi .eql pz12 pz14),(some (pa10,true))⟩,(pqq pa16 (.pk pz10 pz15 pxF)),(pqq pa17 (.mv pz16)),⟨(some pa18),.q (.fa 2 pz2),(some (pa17,true))⟩,⟨(some pa19),.q (.ld1 pz18),(some (pa17,true))⟩,⟨(some pa20),.q (.fa 2 pz3),(some (pa17,true))⟩,⟨(some pa21),.q (.ld1 pz20),(some (pa17,true))⟩,⟨(some pa22),.q (.bi .eql pz19 pz21),(some (pa17,true))⟩,(pqq pa23 (.pk pz17 pz22 pxF)),(pqq pa24 (.mv pz23)),⟨(some pa25),.q (.fa 3 pz2),(some (pa24,true))⟩,⟨(some pa26),.q (.ld1 pz25),(some (pa24,true))⟩,⟨(some pa27),.q (.fa 3 pz3),(some (pa24,true))⟩,⟨(some pa28),.q (.ld1 pz27),(some (pa24,true))⟩,⟨(some pa29),.q (.bi .eql pz26 pz28),(some (pa24,true))⟩,(pqq pa30 (.pk pz24 pz29 pxF)),(pqq pa31 (.mv pz30)),⟨(some pa32),.q (.fa 4 pz2),(some (pa31,true))⟩,⟨(some pa33),.q (.ld1 pz32),(some (pa31,true))⟩,⟨(some pa34),.q (.fa 4 pz3),(some (pa31,true))⟩,⟨(some pa35),.q (.ld1 pz34),(some (pa31,true))⟩,⟨(some pa36),.q (.bi .eql pz33 pz35),(some (pa31,true))⟩,(pqq pa37 (.pk pz31 pz36 pxF)),(pqq pa38 (.mv pz37)),⟨(some pa39),.q (.fa 5 pz2),(some (pa38,true))⟩,⟨(some pa40),.q (.ld1 pz39),(some (pa38,true))⟩,⟨(some pa41),.q (.fa 5 pz3),(some (pa38,true))⟩,⟨(some pa42),.q (.ld1 pz41),(some (pa38,true))⟩,⟨(some pa43),.q (.bi .eql pz40 pz42),(some (pa38,true))⟩,(pqq pa44 (.pk pz38 pz43 pxF)),(pqq pa45 (.mv pz44)),⟨(some pa46),.q (.fa 6 pz2),(some (pa45,true))⟩,⟨(some pa47),.q (.ld1 pz46),(some (pa45,true))⟩,⟨(some pa48),.q (.bs pz47),(some (pa45,true))⟩,⟨(some pa49),.q (.fa 6 pz3),(some (pa45,true))⟩,⟨(some pa50),.q (.ld1 pz49),(some (pa45,true))⟩,⟨(some pa51),.q (.bs pz50),(some (pa45,true))⟩,⟨(some pa52),.q (.bi .eql pz48 pz51),(some (pa45,true))⟩,(pqq pa53 (.pk pz45 pz52 pxF)),(pqq pa4 (.mv pz53))])
def c6:CF:= .mk 6 [.t pa4] (.seq b6_1 (.seq b6_2 .ret))
theorem e6(v0 v1:V):argTr 6 [v0,v1]=(.n (.n sk4 (some v1) sk4) (some v0) sk5):=rfl
def B6:=ai @e6 (ai (wu b6_1.eq_1) (wu b6_2.eq_1))
theorem w6(Φ:Nat→Option CF)(h:Φ 6=some c6){c:Nat}(hc:1000≤c)(z:Int)(p:Int×Int×Int):
 Calls Φ [] 6 [.g (clV z p),.g (clV z p)] .e c fun r _ _=>r= .b true:=by
 refine calls_walk h ?_
 unfold clV
 have pez:∀n:Int,decide (n=n)=true:=fun n=>decide_eq_true rfl
 have es:biV .eql (.s 0 0) (.s 0 0)=some (.b true):=bi_seq [] []
 have eb:∀M,bsV [] M .l0=some (.s 0 0):=fun M=>bs_of (c:=0) (l:=[]) ⟨fun e he=>(by cases he),.inl ⟨rfl,.inl rfl⟩⟩
 simp only[WX,Nat.reduceAdd,B6,es,eb]
open Classical in
def hA:List V→Option V
 |[.i .i64 z,.g (.i .u32 w0:: .i .u32 w1:: .i .u32 w2:: .i .u32 w3::rest)]=>if rest.length=12∧allOne rest=true∧bds (fun _=>False) rest then some (arV z w1 w2 w3)else none
 |_=>none
theorem hA_eq(z w0 w1 w2 w3:Int)(rest:List V)(hl:rest.length=12)(ho:allOne rest=true)(hb:bds (fun _=>False) rest):hA [.i .i64 z,.g (RR w0 w1 w2 w3 rest)]=some (arV z w1 w2 w3):=if_pos ⟨hl,ho,hb⟩
theorem hA_some{args:List V}{v:V}(h:hA args=some v):∃z w0 w1 w2 w3 rest,args=[.i .i64 z,.g (RR w0 w1 w2 w3 rest)]∧rest.length=12∧allOne rest=true∧bds (fun _=>False) rest∧v=arV z w1 w2 w3:=by
 unfold hA at h
 split at h
 ·rename_i z w0 w1 w2 w3 rest;split at h
  ·rename_i hc;exact⟨z,w0,w1,w2,w3,rest,rfl,hc.1,hc.2.1,hc.2.2,(Option.some.inj h).symm⟩
  ·cases h
 ·cases h
theorem arV_form(z w1 w2 w3:Int):∃Z p b,arV z w1 w2 w3= .t [.g (clV Z p),.b b]:=by
 unfold arV
 split
 ·exact⟨_,_,_,rfl⟩
 ·exact⟨_,_,_,rfl⟩
theorem arV_bd(z w1 w2 w3:Int):bd (fun _=>False) (arV z w1 w2 w3):=by
 obtain⟨Z,p,b,e⟩:=arV_form z w1 w2 w3
 rw[e]
 exact⟨⟨trivial,trivial,trivial,trivial,trivial,trivial,trivial,trivial⟩,trivial,trivial⟩
open Classical in
def hS:List V→Option V:=fun args=>if∃z p,args=[.g (clV z p),.g (clV z p)]then some (.b true)else none
theorem hS_eq(z:Int)(p:Int×Int×Int):hS [.g (clV z p),.g (clV z p)]=some (.b true):=if_pos ⟨z,p,rfl⟩
section
variable{P:Program}(hm:P.follows .mixedOrders=true){Φ:Nat→Option CF}(hΦ:PhiOk P Φ)
include hm hΦ
theorem o4(h:Φ 4=some c4)(h8:Φ 8=some c8)(h15:Φ 15=some (.orc (pureO (hcl 15))))(h16:Φ 16=some (.orc (pureO (hcl 16))))(h18:Φ 18=some (.orc (pureO (hcl 18))))(h19:Φ 19=some (.orc (pureO (hcl 19))))(h20:Φ 20=some (.orc (pureO (hcl 20))))(h21:Φ 21=some (.orc (pureO (hcl 21))))(h22:Φ 22=some (.orc (pureO (hcl 22))))(h23:Φ 23=some (.orc (pureO (hcl 23)))):OrcOk P 4 (pureO hA):=pure_of0 hm hΦ (by
 intro args v hv
 obtain⟨z,w0,w1,w2,w3,rest,rfl,hl,ho,hb,rfl⟩:=hA_some hv
 obtain⟨v,M1,c1,e,rfl⟩:=w4 Φ h h8 h15 h16 h18 h19 h20 h21 h22 h23 z w0 w1 w2 w3 rest hl ho
 exact⟨⟨trivial,⟨trivial,trivial,trivial,trivial,hb⟩,trivial⟩,arV_bd _ _ _ _,M1,c1,e⟩)
theorem o5(h:Φ 5=some c5)(h9:Φ 9=some (.orc (pureO hsg))):OrcOk P 5 (pureO hA):=pure_of hm hΦ (by
 intro args v ct hv hct
 obtain⟨z,w0,w1,w2,w3,rest,rfl,hl,ho,hb,rfl⟩:=hA_some hv
 obtain⟨v,M1,c1,e,rfl⟩:=w5 Φ h h9 hct z w0 w1 w2 w3 rest hl ho
 exact⟨arV_bd _ _ _ _,M1,c1,e⟩)
theorem o6(h:Φ 6=some c6):OrcOk P 6 (pureO hS):=pure_of hm hΦ (by
 intro args v ct hv hct
 unfold hS at hv
 split at hv
 ·rename_i hx;obtain⟨z,p,rfl⟩:=hx;obtain rfl:=Option.some.inj hv;obtain⟨v,M1,c1,e,rfl⟩:=w6 Φ h hct z p;exact⟨trivial,M1,c1,e⟩
 ·cases hv)
end
def b3_1:CC:=(.reg [(paa pa3 (.bx 23 16 pz1)),(pqq pa4 (.mv pxF))])
def b3_2:CC:=(.reg [(pqq pa10 (.mv pz0)),(pqq pa11 (.ldn 16 pz3)),(pee pa12 (.call 4 [pz10,pz11])),(pqq pa9 (.mv pz12)),(pqq pa13 (.ex 0 pz9)),(pqq pa14 (.ex 1 pz9)),(paa pa5 (.al 27 [(.i .i64 0),(.i .i64 0),(.i .i64 0),(.i .i64 0),(.s 0 0),(.s 0 0),.l0])),(pez (.st 7 pz5 pz13)),(pqq pa6 (.mv pz14))])
def b3_3:CC:=(.reg [(pqq pa16 (.mv pz0)),(pqq pa17 (.ldn 16 pz3)),(pee pa18 (.call 5 [pz16,pz17])),(pqq pa15 (.mv pz18)),(pqq pa19 (.ex 0 pz15)),(pqq pa20 (.ex 1 pz15)),(paa pa7 (.al 27 [(.i .i64 0),(.i .i64 0),(.i .i64 0),(.i .i64 0),(.s 0 0),(.s 0 0),.l0])),(pez (.st 7 pz7 pz19)),(pqq pa8 (.mv pz20))])
def b3_4:CC:=(.reg [(pqq pa21 (.mv pz6)),(pqq pa22 (.mv pz8)),(pqq pa23 (.eq false .bool false pz21 pz22)),(pqq pa24 (.mv pz23)),⟨(some pa25),.q (.ldn 7 pz5),(some (pa24,true))⟩,⟨(some pa26),.q (.ldn 7 pz7),(some (pa24,true))⟩,⟨(some pa27),.e (.call 6 [pz25,pz26]),(some (pa24,true))⟩,(pqq pa28 (.pk pz24 pz27 pxF)),(pqq pa29 (.mv pz28)),⟨(some pa30),.e (.call 7 []),(some (pa29,true))⟩,(pqq pa31 (.pk pz29 pz30 pxF)),(pqq pa4 (.mv pz31))])
def c3:CF:= .mk 6 [.t pa4] (.seq b3_1 (.seq b3_2 (.seq b3_3 (.seq b3_4 .ret))))
theorem e3(v0 v1:V):argTr 6 [v0,v1]=(.n (.n sk4 (some v1) sk4) (some v0) sk5):=rfl
def B3:=ai @e3 (ai (wu b3_1.eq_1) (ai (wu b3_2.eq_1) (ai (wu b3_3.eq_1) (wu b3_4.eq_1))))
theorem w3(Φ:Nat→Option CF)(h:Φ 3=some c3)(h4:Φ 4=some (.orc (pureO hA)))(h5:Φ 5=some (.orc (pureO hA)))(h6:Φ 6=some (.orc (pureO hS))){g:RO→List V→Mem→Nat→RC}{F:RO}{M:Mem}{c:Nat}(h7:Φ 7=some (.orc g))(hG:∀M ct,g F [] M ct= .k (.b true) M ct)(z w0 w1 w2 w3:Int)(rest:List V)(hl:rest.length=12)(ho:allOne rest=true)(hb:bds (fun _=>False) rest):
 Calls Φ F 3 [.i .i64 z,.g (RR w0 w1 w2 w3 rest)] M c fun r _ _=>r= .b true:=by
 refine calls_walk h ?_
 have hRl:(RR w0 w1 w2 w3 rest).length=16:=by unfold RR;simp only[List.length_cons,hl]
 have hRo:allOne (RR w0 w1 w2 w3 rest)=true:=by unfold RR;simp only[allOne_cons,isOne_i,ho,Bool.and_true]
 have hA':=hA_eq z w0 w1 w2 w3 rest hl ho hb
 obtain⟨Z,p,b,e⟩:=arV_form z w1 w2 w3
 rw[e]at hA'
 have hs:=hS_eq Z p
 generalize RR w0 w1 w2 w3 rest=R at hRl hRo hA'⊢
 have eb:∀N,eqV F N .bool false (.b b) (.b b)=some true:=fun N=>by cases b<;>rfl
 have ld:∀N:Mem,loadN F (N.set c (rowB 23 R)) c 0 16=some R:=fun N=>loadN_row (get_same _ _ _) 16 hRl
 have ld2:∀(N:Mem) x y,loadN F (((N.set c (rowB 23 R)).set (c+1) x)) c 0 16=some R:=fun N x y=>loadN_row ((get_ne _ _ (by omega)).trans (get_same _ _ _)) 16 hRl
 unfold clV at hA' hs
 simp only[WX,Nat.reduceBEq,Nat.reduceAdd,Nat.reduceLeDiff,B3,hRl,hRo,h4,h5,h6,h7,hA',hs,hG,ld,eb]
theorem i64_of{F:RO}{M:Mem}{c:Nat}{vs:List V}{x:(Ty.int .i64).D}(h:Rp F M c (.int .i64) vs x):∃z:Int,vs=[.i .i64 z]∧ -9223372036854775808≤z∧z≤9223372036854775807:=by
 have key:∀z:Int,vs=[.i .i64 z]∧IntKind.i64.min≤z∧z≤IntKind.i64.max→ ∃z:Int,vs=[.i .i64 z]∧ -9223372036854775808≤z∧z≤9223372036854775807:=fun z h=>⟨z,h⟩
 exact key x h
theorem ints_fact:∀l:List Int,allOne (l.map (V.i .u32))=true∧bds (fun _=>False) (l.map (V.i .u32))
 |[]=>⟨rfl,trivial⟩
 |z::l=>⟨by rw[List.map_cons,allOne_cons,(ints_fact l).1];rfl,trivial,(ints_fact l).2⟩
theorem regs_of{F:RO}{M:Mem}{c:Nat}{vs:List V}{x:(Ty.arr 16 .u32).D}(h:Rp F M c (.arr 16 .u32) vs x):∃(w0 w1 w2 w3:Int) (rest:List V),vs=RR w0 w1 w2 w3 rest∧rest.length=12∧allOne rest=true∧bds (fun _=>False) rest:=by
 have key:∀l:List Int,vs=l.map (V.i .u32)∧l.length=16∧(∀z∈l,IntKind.u32.min≤z∧z≤IntKind.u32.max)→ ∃(w0 w1 w2 w3:Int) (rest:List V),vs=RR w0 w1 w2 w3 rest∧rest.length=12∧allOne rest=true∧bds (fun _=>False) rest:=by
  rintro l ⟨rfl,hl,_⟩
  match l,hl with
  |w0::w1::w2::w3::r,hl=>
   refine⟨w0,w1,w2,w3,r.map (V.i .u32),rfl,?_,(ints_fact r).1,(ints_fact r).2⟩;rw[List.length_map];simp only[List.length_cons]at hl;omega
 exact key x h
end
end Go.Proofs.YtffgjigcdmcibaaGreatDoor.Ev
