/- What is proved here: pieces of the evaluator's soundness: if the evaluator comes to a value, the model's run comes to it, for every world and tape; no conditions beyond the hypotheses of each theorem. -/
import Derived.Test.YtffgjigcdmcibaaGreatDoorEv13
set_option linter.unusedSimpArgs false
set_option linter.unusedVariables false
set_option linter.defProp false
namespace Go.Proofs.YtffgjigcdmcibaaGreatDoor.Ev
open Go
noncomputable section
abbrev pa0:Pos:= .h
abbrev pz0:X:= .t pa0
abbrev pa1:Pos:= .l pa0
abbrev pz1:X:= .t pa1
abbrev pa2:Pos:= .r pa0
abbrev pz2:X:= .t pa2
abbrev pa3:Pos:= .l pa1
abbrev pz3:X:= .t pa3
abbrev pa4:Pos:= .r pa1
abbrev pz4:X:= .t pa4
abbrev pa5:Pos:= .l pa2
abbrev pz5:X:= .t pa5
abbrev pa6:Pos:= .r pa2
abbrev pz6:X:= .t pa6
abbrev pa7:Pos:= .l pa3
abbrev pz7:X:= .t pa7
abbrev pa8:Pos:= .r pa3
abbrev pz8:X:= .t pa8
abbrev pa9:Pos:= .l pa4
abbrev pz9:X:= .t pa9
abbrev pa10:Pos:= .r pa4
abbrev pz10:X:= .t pa10
abbrev pa11:Pos:= .l pa5
abbrev pz11:X:= .t pa11
abbrev pa12:Pos:= .r pa5
abbrev pz12:X:= .t pa12
abbrev pa13:Pos:= .l pa6
abbrev pz13:X:= .t pa13
abbrev pa14:Pos:= .r pa6
abbrev pz14:X:= .t pa14
abbrev pa15:Pos:= .l pa7
abbrev pz15:X:= .t pa15
abbrev pa16:Pos:= .r pa7
abbrev pz16:X:= .t pa16
abbrev pa17:Pos:= .l pa8
abbrev pz17:X:= .t pa17
abbrev pa18:Pos:= .r pa8
abbrev pz18:X:= .t pa18
abbrev pa19:Pos:= .l pa9
abbrev pz19:X:= .t pa19
abbrev pa20:Pos:= .r pa9
abbrev pz20:X:= .t pa20
abbrev pa21:Pos:= .l pa10
abbrev pz21:X:= .t pa21
abbrev pa22:Pos:= .r pa10
abbrev pz22:X:= .t pa22
abbrev pa23:Pos:= .l pa11
abbrev pz23:X:= .t pa23
abbrev pa24:Pos:= .r pa11
abbrev pz24:X:= .t pa24
abbrev pa25:Pos:= .l pa12
abbrev pz25:X:= .t pa25
abbrev pa26:Pos:= .r pa12
abbrev pz26:X:= .t pa26
abbrev pa27:Pos:= .l pa13
abbrev pz27:X:= .t pa27
abbrev pa28:Pos:= .r pa13
abbrev pz28:X:= .t pa28
abbrev pa29:Pos:= .l pa14
abbrev pz29:X:= .t pa29
abbrev pa30:Pos:= .r pa14
abbrev pz30:X:= .t pa30
abbrev pa31:Pos:= .l pa15
abbrev pz31:X:= .t pa31
abbrev pa32:Pos:= .r pa15
abbrev pz32:X:= .t pa32
abbrev pa33:Pos:= .l pa16
abbrev pz33:X:= .t pa33
abbrev pa34:Pos:= .r pa16
abbrev pz34:X:= .t pa34
abbrev pa35:Pos:= .l pa17
abbrev pz35:X:= .t pa35
abbrev pa36:Pos:= .r pa17
abbrev pz36:X:= .t pa36
abbrev pa37:Pos:= .l pa18
abbrev pz37:X:= .t pa37
abbrev pa38:Pos:= .r pa18
abbrev pz38:X:= .t pa38
abbrev pa39:Pos:= .l pa19
abbrev pz39:X:= .t pa39
abbrev pa40:Pos:= .r pa19
abbrev pz40:X:= .t pa40
abbrev pa41:Pos:= .l pa20
abbrev pz41:X:= .t pa41
abbrev pa42:Pos:= .r pa20
abbrev pz42:X:= .t pa42
abbrev pa43:Pos:= .l pa21
abbrev pz43:X:= .t pa43
abbrev pa44:Pos:= .r pa21
abbrev pz44:X:= .t pa44
abbrev pa45:Pos:= .l pa22
abbrev pz45:X:= .t pa45
abbrev pa46:Pos:= .r pa22
abbrev pz46:X:= .t pa46
abbrev pa47:Pos:= .l pa23
abbrev pz47:X:= .t pa47
abbrev pa48:Pos:= .r pa23
abbrev pz48:X:= .t pa48
abbrev pa49:Pos:= .l pa24
abbrev pz49:X:= .t pa49
abbrev pa50:Pos:= .r pa24
abbrev pz50:X:= .t pa50
abbrev pa51:Pos:= .l pa25
abbrev pz51:X:= .t pa51
abbrev pa52:Pos:= .r pa25
abbrev pz52:X:= .t pa52
abbrev pa53:Pos:= .l pa26
abbrev pz53:X:= .t pa53
abbrev pa54:Pos:= .r pa26
abbrev pz54:X:= .t pa54
abbrev pa55:Pos:= .l pa27
abbrev pz55:X:= .t pa55
abbrev pa56:Pos:= .r pa27
abbrev pz56:X:= .t pa56
abbrev pa57:Pos:= .l pa28
abbrev pz57:X:= .t pa57
abbrev pa58:Pos:= .r pa28
abbrev pz58:X:= .t pa58
abbrev pa59:Pos:= .l pa29
abbrev pz59:X:= .t pa59
abbrev pa60:Pos:= .r pa29
abbrev pz60:X:= .t pa60
abbrev pa61:Pos:= .l pa30
abbrev pz61:X:= .t pa61
abbrev pa62:Pos:= .r pa30
abbrev pz62:X:= .t pa62
abbrev pa63:Pos:= .l pa31
abbrev pz63:X:= .t pa63
abbrev pa64:Pos:= .r pa31
abbrev pz64:X:= .t pa64
abbrev pa65:Pos:= .l pa32
abbrev pz65:X:= .t pa65
abbrev pa66:Pos:= .r pa32
abbrev pz66:X:= .t pa66
abbrev pa67:Pos:= .l pa33
abbrev pz67:X:= .t pa67
abbrev pa68:Pos:= .r pa33
abbrev pz68:X:= .t pa68
abbrev pa69:Pos:= .l pa34
abbrev pz69:X:= .t pa69
abbrev pa70:Pos:= .r pa34
abbrev pz70:X:= .t pa70
abbrev pa71:Pos:= .l pa35
abbrev pz71:X:= .t pa71
abbrev pa72:Pos:= .r pa35
abbrev pz72:X:= .t pa72
abbrev pa73:Pos:= .l pa36
abbrev pz73:X:= .t pa73
abbrev pa74:Pos:= .r pa36
abbrev pz74:X:= .t pa74
abbrev pa75:Pos:= .l pa37
abbrev pz75:X:= .t pa75
abbrev pa76:Pos:= .r pa37
abbrev pz76:X:= .t pa76
abbrev pa77:Pos:= .l pa38
abbrev pz77:X:= .t pa77
abbrev pa78:Pos:= .r pa38
abbrev pz78:X:= .t pa78
abbrev pa79:Pos:= .l pa39
abbrev pz79:X:= .t pa79
abbrev pa80:Pos:= .r pa39
abbrev pz80:X:= .t pa80
abbrev pa81:Pos:= .l pa40
abbrev pz81:X:= .t pa81
abbrev pa82:Pos:= .r pa40
abbrev pz82:X:= .t pa82
abbrev pa83:Pos:= .l pa41
abbrev pz83:X:= .t pa83
abbrev sk1:T:= .n .e none .e
abbrev sk2:T:= .n sk1 none sk1
abbrev sk3:T:= .n sk2 none sk2
abbrev sk4:T:= .n sk3 none sk3
abbrev sk5:T:= .n sk4 none sk4
abbrev sk6:T:= .n sk5 none sk5
abbrev uv1(u:List (Option V))(a:Nat):T:= .n .e (uO u a) .e
abbrev uv3(u:List (Option V))(a b c:Nat):T:= .n (uv1 u a) (uO u b) (uv1 u c)
abbrev uv7(u:List (Option V))(a b c d e f g:Nat):T:= .n (uv3 u a b c) (uO u d) (uv3 u e f g)
abbrev pqq(d:Pos)(o:QO):CO:=⟨some d,.q o,none⟩
abbrev paa(d:Pos)(o:AO):CO:=⟨some d,.a o,none⟩
abbrev pee(d:Pos)(o:EO):CO:=⟨some d,.e o,none⟩
abbrev pez(o:EO):CO:=⟨none,.e o,none⟩
abbrev px6(n:Int):X:= .c (.i .i64 n)
abbrev pxT:X:= .c (.b true)
abbrev pxF:X:= .c (.b false)
theorem wu{b b1:CC}(h:b=b1)(k:Kn)(s:St)(R:Ex→St→Prop):Wp b k s R=Wp b1 k s R:=congrArg (fun x=>Wp x k s R) h
section
variable{Φ:Nat→Option CF}{rd:Option Nat}{fn:Nat}{F:RO}
def nckV:V→Option V
 | .p b o=>some (.p b o)
 | .f g h c=>some (.f g h c)
 | .y l=>some (.y l)
 | .a t v=>some (.a t v)
 |_=>none
theorem v_nck(x:X)(M:Mem)(t:T):(qop (.nck x) F M t).val=nckV (x.ev t):=by
 show(q_nck x F M t).val=_
 unfold q_nck
 cases x.ev t<;>rfl
theorem nckV_p(b o:Nat):nckV (.p b o)=some (.p b o):=Eq.trans rfl (Eq.refl _)
theorem dq_nck(x:X)(M:Mem)(t:T):dqR (.nck x) F M t=oV (nckV (x.ev t)):=by
 refine(dq_of ?_).trans (congrArg oV (v_nck (F:=F) x M t))
 intro F' M'
 refine qv_oV ?_
 show(q_nck x F' M' t= .f∨ ∃y,q_nck x F' M' t= .v y)
 unfold q_nck
 cases x.ev t<;>first|exact .inl rfl|exact .inr ⟨_,rfl⟩
end
end
end Go.Proofs.YtffgjigcdmcibaaGreatDoor.Ev
