/- What is proved here: pieces of the evaluator's soundness: if the evaluator comes to a value, the model's run comes to it, for every world and tape; no conditions beyond the hypotheses of each theorem. -/
import Derived.Test.YtakeaojhkcbheaaGreatDoorEv4
import Derived.Stop.LaidErr
import Derived.Shelf.Strings.Split
import Derived.Handed
import Derived.Shelf.Vars
import Derived.DefersIn
set_option linter.unusedSimpArgs false
set_option linter.unusedVariables false
set_option linter.defProp false
set_option maxRecDepth 100000
namespace Go.Proofs.YtakeaojhkcbheaaGreatDoor.Ev
open Go Go.RowKit Go.ChangeShapes Go.Shelf Go.Proofs
noncomputable section
section
variable{Φ:Nat→Option CF}{rd:Option Nat}{fn:Nat}{F:RO}
theorem storeN_of{M:Mem}{b o ty n fz:Nat}{ex str:Bool}{d vs:List V}{t:T}(hM:M.get b=some (.cells ty n ex fz str d t))(h1:o+vs.length≤n)(h2:fz≤o)(h3:allOne vs=true):
 storeN M b o vs=some (M.set b (.cells ty n ex fz str d (listTr vs o t))):=by
 show Option.rec (motive:=fun _=>Option Mem) none (fun blk=>storeIn M b o vs blk) (M.get b)=_
 rw[hM]
 show(Bool.rec (motive:=fun _=>Option Mem) none (Bool.rec (motive:=fun _=>Option Mem) none (Bool.rec (motive:=fun _=>Option Mem) none (storeIn2 M b o vs ty n ex fz str d t) (allOne vs)) (Nat.ble fz o)) (Nat.ble (Nat.add o vs.length) n))=_
 rw[bb,bb,bb,bleN,bleN,decide_eq_true (show Nat.add o vs.length≤n from h1),decide_eq_true h2,h3]
 simp only[if_true]
 unfold storeIn2
 rw[Tr.force_eq,Tr.force_eq]
def mksA(ty sz bytes:Nat)(zero:List V)(l c:V)(b:Nat):Option (V×Blk):=aop (.mks ty sz bytes zero (.c l) (.c c)) b .e
theorem a_mks_w(ty sz bytes:Nat)(zero:List V)(l c:X)(b:Nat)(t:T):aop (.mks ty sz bytes zero l c) b t=mksA ty sz bytes zero (l.ev t) (c.ev t) b:=Eq.trans rfl (Eq.refl _)
def SlOwn(F:RO)(M:Mem)(lo c sz:Nat)(v:V)(es:List (List V)):Prop:=∀M':Mem,(∀b,lo≤b→b<c→M'.get b=M.get b)→SlAt F M' c sz v es
theorem Okm.put{M:Mem}{c b:Nat}{x y:Blk}(h:Okm F M c)(hb:b<c)(hx:M.get b=some x):Okm F (M.set b y) c:=by
 refine⟨fun b' hb'=>?_,h.hiF,fun b' hb'=>?_,h.ge⟩
 ·rw[get_ne _ _ (by omega)];exact h.hiM b' hb'
 ·have:b'≠b:=by
   intro e;subst e;rw[h.ap b' hb']at hx;cases hx
  rw[get_ne _ _ this];exact h.ap b' hb'
theorem store_row{M:Mem}{b ty:Nat}{l:List V}(h:M.get b=some (rowB ty l))(o:Nat)(vs:List V)(h1:o+vs.length≤l.length)(h2:allOne vs=true):storeN M b o vs=some (M.set b (rowB ty (over l o vs))):=by
 have:=storeN_same M b o ty l vs h1 h2
 rwa [←set_same h]at this
theorem load_row{M:Mem}{b ty:Nat}{l:List V}(h:M.get b=some (rowB ty l))(o:Nat):load1 F M b o=l[o]?:=by
 rw[set_same h];exact load1_same M b o ty l
theorem loadN_row{M:Mem}{b ty:Nat}{l:List V}(h:M.get b=some (rowB ty l))(n:Nat)(hn:l.length=n):loadN F M b 0 n=some l:=by
 rw[set_same h,loadN_same M b 0 n ty l (by omega),List.drop_zero,←hn,List.take_length]
theorem wp_condTc(a b:CC)(k:Kn)(t:T)(d:List Nat)(M:Mem)(c:Nat)(Q:Ex→St→Prop):Wp (.cond (.c (.b true)) a b) k (.mk t d M c) Q=Wp a k (.mk t d M c) Q:=wp_condT rfl
theorem wp_condFc(a b:CC)(k:Kn)(t:T)(d:List Nat)(M:Mem)(c:Nat)(Q:Ex→St→Prop):Wp (.cond (.c (.b false)) a b) k (.mk t d M c) Q=Wp b k (.mk t d M c) Q:=wp_condF rfl
end
theorem ai{a b:Prop}(x:a)(y:b):a∧b:=⟨x,y⟩
def WL:=ai @wp_dreg (ai @befB_nil (ai @befB_cons (ai @putDE (ai @roFree_nil (ai @roFree_cons (ai @get_ne (ai @Tr.get_e (ai @isNone_none' (ai @dregQ_eq (ai @mergeAll_nil (ai @wd_nil (ai @wd_q (ai @putD_v (ai @putD_r (ai @oV_some (ai @dq_mv (ai @dq_ci (ai @dq_bi0 (ai @biQ_i (ai @dq_ex (ai @dq_ld0 (ai @ldQ_p (ai @ldR_some (ai @dq_iaS (ai @v_iaS (ai @lnSl (ai @lnL_l (ai @lnL_u (ai @lnL_l0 (ai @lnL_ue (ai @wp_seq (ai @seqQ_nrm (ai @seqQ_ret (ai @seqQ_ext (ai @wp_reg (ai @wp_ret (ai @wp_skip (ai @wp_exit (ai @wp_block (ai @blockQ_nrm (ai @blockQ_ret (ai @blockQ_ext (ai @loopQ_nrm (ai @loopQ_ret (ai @loopQ_ext (ai @wo_nil (ai @xo_q (ai @xo_a (ai @xo_e (ai @xo_e0 (ai @wo_gT (ai @wo_gF (ai @wo_gU (ai @wp_condT (ai @wp_condF (ai @putO (ai @putA (ai @putE (ai @putE0 (ai @setT_some (ai @setT_none (ai @v_mv (ai @v_pk (ai @pkV_T (ai @pkV_F (ai @v_bi (ai @bi_sub (ai @bi_lss (ai @bi_gtr (ai @bi_leq (ai @bi_geq (ai @bi_eql (ai @bi_neq (ai @v_un (ai @un_not (ai @v_ln (ai @lnS (ai @v_ixS (ai @v_ld1 (ai @v_ldn (ai @ld1_p (ai @ldn_p (ai @load1_same (ai @v_fa (ai @e_st_eq (ai @er_some (ai @xo_call (ai @callC_orc (ai @ev_t (ai @ev_c (ai @evs_nil (ai @evs_cons (ai @Tr.setP_h (ai @Tr.setP_l (ai @Tr.setP_r (ai @getT_h (ai @getT_n (ai @getT_l (ai @getT_r (ai @endQ_nrm (ai @endQ_ret (ai @endO (ai @resV_nil' (ai @resV_t (ai @consO_some (ai @oneV_one (ai @oneV_two (ai @Bool.not_true (ai @Bool.not_false (ai @Bool.false_eq_true (ai @Bool.true_eq_false (ai @decide_true (ai @decide_false (ai @pureO_of (ai @ofO_some (ai @flatten_b (ai @flatten_i (ai @flatten_s (ai @flatten_p (ai @flatten_p0 (ai @flatten_l (ai @flatten_u (ai @flatten_l0 (ai @flatten_m (ai @flatten_m0 (ai @flatten_f (ai @flatten_f0 (ai @flatten_g (ai @allOne_nil (ai @allOne_cons (ai @isOne_b (ai @isOne_i (ai @isOne_s (ai @isOne_p (ai @isOne_p0 (ai @isOne_l (ai @isOne_u (ai @isOne_l0 (ai @isOne_m (ai @isOne_f (ai @isOne_f0 (ai @Bool.and_true (ai @Bool.true_and (ai @evP_nil (ai @evP_cons (ai @fillV_nil (ai @fillV_cons (ai @over_nil (ai @over_cons (ai @Nat.zero_add (ai @and_self (ai @and_true (ai @true_and (ai @v_bld (ai @replL_over (ai @v_fl1 (ai @v_fln (ai @v_ex (ai @v_ci (ai @andO_some (ai @eqAt_some (ai @eqAll_nil (ai @eqAll_cons (ai @negO_F (ai @negO_T (ai @v_eq (ai @eqV_agg (ai @eqV_int (ai @eq1_int (ai @eq1_bool (ai @xo_cv (ai @callV_f (ai @v_mkf (ai @resV_cn (ai @resV_c1 (ai @load1_ne (ai @loadN_ne (ai @loadN_same (ai @storeN_same (ai @storeN_ne' (ai @mapS_some (ai @a_al_eq (ai @a_bx_eq (ai @v_ixA1 (ai @ixA1_g (ai @ne_add0 (ai @ne_add1 (ai @ne_add (ai @Nat.add_assoc (ai @x_app_eq (ai @v_slL (ai @v_bs (ai @a_bsl_w (ai @evPs_nil (ai @evPs_cons (ai @partsR_nil (ai @partsR_cons (ai @bslO_some (ai @v_slS (ai @lnSs (ai @bi_seq (ai @bi_sne (ai @eq1_str (ai @eqV_str (ai @wd_gT (ai @wd_gF (ai @wd_gU (ai @dq_ldn0 (ai @ldnQ_p (ai @ldnR_some (ai @dq_pk (ai @dq_lnL (ai @dq_lnS (ai @dq_ixS (ai @dq_un (ai @dq_eq (ai @shOk_agg (ai @shOks_nil (ai @shOks_cons (ai @shOk1_int (ai @shOk1_bool (ai @shOk1_str (ai @eqV_bool (ai @shOk_int (ai @shOk_bool (ai @shOk_str (ai @dq_fa (ai @putDP (ai @a_mks_w (ai @wp_condTc (ai @wp_condFc (ai @roundQ_nrm (ai @roundQ_ret (ai @roundQ_ext (ai @decide_eq_true_eq (ai @or_self (ai @or_true (ai @or_false (ai @true_or (ai @false_or (ai @and_false (@false_and))))))))))))))))))))))))))))))))))))))))))))))))))))))))))))))))))))))))))))))))))))))))))))))))))))))))))))))))))))))))))))))))))))))))))))))))))))))))))))))))))))))))))))))))))))))))))))))))))))))))))))))))))))))))))))))))))))))))))))))))))
def WM:=ai @cond_true.{1} (ai @cond_false.{1} (ai @List.getElem?_cons_zero.{0} (ai @List.getElem?_cons_succ.{0} (ai @Option.getD_some.{0} (ai @if_true.{1} (ai @if_false.{1} (ai @ite_true.{1} (ai @ite_false.{1} (ai @List.set_cons_zero.{0} (ai @List.set_cons_succ.{0} (ai @List.length_cons.{0} (ai @List.length_nil.{0} (ai @List.nil_append.{0} (ai @List.append_nil.{0} (ai @List.cons_append.{0} (ai @List.drop_zero.{0} (ai @List.take_succ_cons.{0} (ai @List.take_zero.{0} (ai @List.take_nil.{0} (ai @List.drop_succ_cons.{0} (ai @Option.map_some.{0,0} (ai @Option.isSome_some.{0} (@Option.map_none.{0,0})))))))))))))))))))))))
def WX:=ai @WL @WM
abbrev a0:Pos:= .h
abbrev z0:X:= .t a0
abbrev a1:Pos:= .l a0
abbrev z1:X:= .t a1
abbrev a2:Pos:= .r a0
abbrev z2:X:= .t a2
abbrev a3:Pos:= .l a1
abbrev z3:X:= .t a3
abbrev a4:Pos:= .r a1
abbrev z4:X:= .t a4
abbrev a5:Pos:= .l a2
abbrev z5:X:= .t a5
abbrev a6:Pos:= .r a2
abbrev z6:X:= .t a6
abbrev a7:Pos:= .l a3
abbrev z7:X:= .t a7
abbrev a8:Pos:= .r a3
abbrev z8:X:= .t a8
abbrev a9:Pos:= .l a4
abbrev z9:X:= .t a9
abbrev a10:Pos:= .r a4
abbrev z10:X:= .t a10
abbrev a11:Pos:= .l a5
abbrev z11:X:= .t a11
abbrev a12:Pos:= .r a5
abbrev z12:X:= .t a12
abbrev a13:Pos:= .l a6
abbrev z13:X:= .t a13
abbrev a14:Pos:= .r a6
abbrev z14:X:= .t a14
abbrev a15:Pos:= .l a7
abbrev z15:X:= .t a15
abbrev a16:Pos:= .r a7
abbrev z16:X:= .t a16
abbrev a17:Pos:= .l a8
abbrev z17:X:= .t a17
abbrev a18:Pos:= .r a8
abbrev z18:X:= .t a18
abbrev a19:Pos:= .l a9
abbrev z19:X:= .t a19
abbrev a20:Pos:= .r a9
abbrev z20:X:= .t a20
abbrev a21:Pos:= .l a10
abbrev z21:X:= .t a21
abbrev a22:Pos:= .r a10
abbrev z22:X:= .t a22
abbrev a23:Pos:= .l a11
abbrev z23:X:= .t a23
abbrev a24:Pos:= .r a11
abbrev z24:X:= .t a24
abbrev a25:Pos:= .l a12
abbrev z25:X:= .t a25
abbrev a26:Pos:= .r a12
abbrev z26:X:= .t a26
abbrev a27:Pos:= .l a13
abbrev z27:X:= .t a27
abbrev a28:Pos:= .r a13
abbrev z28:X:= .t a28
abbrev a29:Pos:= .l a14
abbrev z29:X:= .t a29
abbrev a30:Pos:= .r a14
abbrev z30:X:= .t a30
abbrev a31:Pos:= .l a15
abbrev z31:X:= .t a31
abbrev a32:Pos:= .r a15
abbrev z32:X:= .t a32
abbrev a33:Pos:= .l a16
abbrev z33:X:= .t a33
abbrev a34:Pos:= .r a16
abbrev z34:X:= .t a34
abbrev a35:Pos:= .l a17
abbrev z35:X:= .t a35
abbrev a36:Pos:= .r a17
abbrev z36:X:= .t a36
abbrev a37:Pos:= .l a18
abbrev z37:X:= .t a37
abbrev a38:Pos:= .r a18
abbrev z38:X:= .t a38
abbrev a39:Pos:= .l a19
abbrev z39:X:= .t a39
abbrev a40:Pos:= .r a19
abbrev z40:X:= .t a40
abbrev a41:Pos:= .l a20
abbrev z41:X:= .t a41
abbrev a42:Pos:= .r a20
abbrev z42:X:= .t a42
abbrev a43:Pos:= .l a21
abbrev z43:X:= .t a43
abbrev a44:Pos:= .r a21
abbrev z44:X:= .t a44
abbrev a45:Pos:= .l a22
abbrev z45:X:= .t a45
abbrev a46:Pos:= .r a22
abbrev z46:X:= .t a46
abbrev a47:Pos:= .l a23
abbrev z47:X:= .t a47
abbrev a48:Pos:= .r a23
abbrev z48:X:= .t a48
abbrev a49:Pos:= .l a24
abbrev z49:X:= .t a49
abbrev a50:Pos:= .r a24
abbrev z50:X:= .t a50
abbrev a51:Pos:= .l a25
abbrev z51:X:= .t a51
abbrev a52:Pos:= .r a25
abbrev z52:X:= .t a52
abbrev a53:Pos:= .l a26
abbrev z53:X:= .t a53
abbrev a54:Pos:= .r a26
abbrev z54:X:= .t a54
abbrev a55:Pos:= .l a27
abbrev z55:X:= .t a55
abbrev a56:Pos:= .r a27
abbrev z56:X:= .t a56
abbrev a57:Pos:= .l a28
abbrev z57:X:= .t a57
abbrev a58:Pos:= .r a28
abbrev z58:X:= .t a58
abbrev a59:Pos:= .l a29
abbrev z59:X:= .t a59
abbrev a60:Pos:= .r a29
abbrev z60:X:= .t a60
abbrev a61:Pos:= .l a30
abbrev z61:X:= .t a61
abbrev a62:Pos:= .r a30
abbrev z62:X:= .t a62
abbrev a63:Pos:= .l a31
abbrev z63:X:= .t a63
abbrev a64:Pos:= .r a31
abbrev z64:X:= .t a64
abbrev a65:Pos:= .l a32
abbrev z65:X:= .t a65
abbrev a66:Pos:= .r a32
abbrev z66:X:= .t a66
abbrev a67:Pos:= .l a33
abbrev z67:X:= .t a67
abbrev a68:Pos:= .r a33
abbrev z68:X:= .t a68
abbrev a69:Pos:= .l a34
abbrev z69:X:= .t a69
abbrev a70:Pos:= .r a34
abbrev z70:X:= .t a70
abbrev a71:Pos:= .l a35
abbrev z71:X:= .t a71
abbrev a72:Pos:= .r a35
abbrev z72:X:= .t a72
abbrev a73:Pos:= .l a36
abbrev z73:X:= .t a73
abbrev a74:Pos:= .r a36
abbrev z74:X:= .t a74
abbrev a75:Pos:= .l a37
abbrev z75:X:= .t a75
abbrev a76:Pos:= .r a37
abbrev z76:X:= .t a76
abbrev a77:Pos:= .l a38
abbrev z77:X:= .t a77
abbrev a78:Pos:= .r a38
abbrev z78:X:= .t a78
abbrev a79:Pos:= .l a39
abbrev z79:X:= .t a79
abbrev a80:Pos:= .r a39
abbrev z80:X:= .t a80
abbrev a81:Pos:= .l a40
abbrev z81:X:= .t a81
abbrev a82:Pos:= .r a40
abbrev z82:X:= .t a82
abbrev a83:Pos:= .l a41
abbrev z83:X:= .t a83
abbrev a84:Pos:= .r a41
abbrev z84:X:= .t a84
abbrev a85:Pos:= .l a42
abbrev z85:X:= .t a85
abbrev a86:Pos:= .r a42
abbrev z86:X:= .t a86
abbrev a87:Pos:= .l a43
abbrev z87:X:= .t a87
abbrev a88:Pos:= .r a43
abbrev z88:X:= .t a88
abbrev a89:Pos:= .l a44
abbrev z89:X:= .t a89
abbrev a90:Pos:= .r a44
abbrev z90:X:= .t a90
abbrev a91:Pos:= .l a45
abbrev z91:X:= .t a91
abbrev a92:Pos:= .r a45
abbrev z92:X:= .t a92
abbrev a93:Pos:= .l a46
abbrev z93:X:= .t a93
abbrev a94:Pos:= .r a46
abbrev z94:X:= .t a94
abbrev a95:Pos:= .l a47
abbrev z95:X:= .t a95
abbrev a96:Pos:= .r a47
abbrev z96:X:= .t a96
abbrev a97:Pos:= .l a48
abbrev z97:X:= .t a97
abbrev a98:Pos:= .r a48
abbrev z98:X:= .t a98
abbrev a99:Pos:= .l a49
abbrev z99:X:= .t a99
abbrev a100:Pos:= .r a49
abbrev z100:X:= .t a100
abbrev a101:Pos:= .l a50
abbrev z101:X:= .t a101
abbrev a102:Pos:= .r a50
abbrev z102:X:= .t a102
abbrev a103:Pos:= .l a51
abbrev z103:X:= .t a103
abbrev a104:Pos:= .r a51
abbrev z104:X:= .t a104
abbrev a105:Pos:= .l a52
abbrev z105:X:= .t a105
abbrev a106:Pos:= .r a52
abbrev z106:X:= .t a106
abbrev a107:Pos:= .l a53
abbrev z107:X:= .t a107
abbrev a108:Pos:= .r a53
abbrev z108:X:= .t a108
abbrev a109:Pos:= .l a54
abbrev z109:X:= .t a109
abbrev a110:Pos:= .r a54
abbrev z110:X:= .t a110
abbrev a111:Pos:= .l a55
abbrev z111:X:= .t a111
abbrev a112:Pos:= .r a55
abbrev z112:X:= .t a112
abbrev a113:Pos:= .l a56
abbrev z113:X:= .t a113
abbrev a114:Pos:= .r a56
abbrev z114:X:= .t a114
abbrev a115:Pos:= .l a57
abbrev z115:X:= .t a115
abbrev a116:Pos:= .r a57
abbrev z116:X:= .t a116
abbrev a117:Pos:= .l a58
abbrev z117:X:= .t a117
abbrev a118:Pos:= .r a58
abbrev z118:X:= .t a118
abbrev a119:Pos:= .l a59
abbrev z119:X:= .t a119
abbrev a120:Pos:= .r a59
abbrev z120:X:= .t a120
abbrev a121:Pos:= .l a60
abbrev z121:X:= .t a121
abbrev a122:Pos:= .r a60
abbrev z122:X:= .t a122
abbrev a123:Pos:= .l a61
abbrev z123:X:= .t a123
abbrev a124:Pos:= .r a61
abbrev z124:X:= .t a124
abbrev a125:Pos:= .l a62
abbrev z125:X:= .t a125
abbrev a126:Pos:= .r a62
abbrev z126:X:= .t a126
abbrev a127:Pos:= .l a63
abbrev z127:X:= .t a127
abbrev a128:Pos:= .r a63
abbrev z128:X:= .t a128
abbrev a129:Pos:= .l a64
abbrev z129:X:= .t a129
abbrev a130:Pos:= .r a64
abbrev z130:X:= .t a130
abbrev a131:Pos:= .l a65
abbrev z131:X:= .t a131
abbrev a132:Pos:= .r a65
abbrev z132:X:= .t a132
abbrev a133:Pos:= .l a66
abbrev z133:X:= .t a133
abbrev a134:Pos:= .r a66
abbrev z134:X:= .t a134
abbrev a135:Pos:= .l a67
abbrev z135:X:= .t a135
abbrev a136:Pos:= .r a67
abbrev z136:X:= .t a136
abbrev a137:Pos:= .l a68
abbrev z137:X:= .t a137
abbrev a138:Pos:= .r a68
abbrev z138:X:= .t a138
abbrev a139:Pos:= .l a69
abbrev z139:X:= .t a139
abbrev a140:Pos:= .r a69
abbrev z140:X:= .t a140
abbrev a141:Pos:= .l a70
abbrev z141:X:= .t a141
abbrev a142:Pos:= .r a70
abbrev z142:X:= .t a142
abbrev a143:Pos:= .l a71
abbrev z143:X:= .t a143
abbrev a144:Pos:= .r a71
abbrev z144:X:= .t a144
abbrev a145:Pos:= .l a72
abbrev z145:X:= .t a145
abbrev a146:Pos:= .r a72
abbrev z146:X:= .t a146
abbrev a147:Pos:= .l a73
abbrev z147:X:= .t a147
abbrev a148:Pos:= .r a73
abbrev z148:X:= .t a148
abbrev a149:Pos:= .l a74
abbrev z149:X:= .t a149
abbrev a150:Pos:= .r a74
abbrev z150:X:= .t a150
abbrev a151:Pos:= .l a75
abbrev z151:X:= .t a151
abbrev a152:Pos:= .r a75
abbrev z152:X:= .t a152
abbrev a153:Pos:= .l a76
abbrev z153:X:= .t a153
abbrev a154:Pos:= .r a76
abbrev z154:X:= .t a154
abbrev a155:Pos:= .l a77
abbrev z155:X:= .t a155
abbrev a156:Pos:= .r a77
abbrev z156:X:= .t a156
abbrev a157:Pos:= .l a78
abbrev z157:X:= .t a157
abbrev a158:Pos:= .r a78
abbrev z158:X:= .t a158
abbrev a159:Pos:= .l a79
abbrev z159:X:= .t a159
abbrev a160:Pos:= .r a79
abbrev z160:X:= .t a160
abbrev a161:Pos:= .l a80
abbrev z161:X:= .t a161
abbrev a162:Pos:= .r a80
abbrev z162:X:= .t a162
abbrev a163:Pos:= .l a81
abbrev z163:X:= .t a163
abbrev a164:Pos:= .r a81
abbrev z164:X:= .t a164
abbrev a165:Pos:= .l a82
abbrev z165:X:= .t a165
abbrev a166:Pos:= .r a82
abbrev z166:X:= .t a166
abbrev a167:Pos:= .l a83
abbrev z167:X:= .t a167
abbrev a168:Pos:= .r a83
abbrev z168:X:= .t a168
abbrev a169:Pos:= .l a84
abbrev z169:X:= .t a169
abbrev a170:Pos:= .r a84
abbrev z170:X:= .t a170
abbrev a171:Pos:= .l a85
abbrev z171:X:= .t a171
abbrev a172:Pos:= .r a85
abbrev z172:X:= .t a172
abbrev a173:Pos:= .l a86
abbrev z173:X:= .t a173
abbrev a174:Pos:= .r a86
abbrev z174:X:= .t a174
abbrev a175:Pos:= .l a87
abbrev z175:X:= .t a175
abbrev a176:Pos:= .r a87
abbrev z176:X:= .t a176
abbrev a177:Pos:= .l a88
abbrev z177:X:= .t a177
abbrev a178:Pos:= .r a88
abbrev z178:X:= .t a178
abbrev a179:Pos:= .l a89
abbrev z179:X:= .t a179
abbrev a180:Pos:= .r a89
abbrev z180:X:= .t a180
abbrev a181:Pos:= .l a90
abbrev z181:X:= .t a181
abbrev a182:Pos:= .r a90
abbrev z182:X:= .t a182
abbrev a183:Pos:= .l a91
abbrev z183:X:= .t a183
abbrev a184:Pos:= .r a91
abbrev z184:X:= .t a184
abbrev a185:Pos:= .l a92
abbrev z185:X:= .t a185
abbrev a186:Pos:= .r a92
abbrev z186:X:= .t a186
abbrev a187:Pos:= .l a93
abbrev z187:X:= .t a187
abbrev a188:Pos:= .r a93
abbrev z188:X:= .t a188
abbrev a189:Pos:= .l a94
abbrev z189:X:= .t a189
abbrev a190:Pos:= .r a94
abbrev z190:X:= .t a190
abbrev a191:Pos:= .l a95
abbrev z191:X:= .t a191
abbrev a192:Pos:= .r a95
abbrev z192:X:= .t a192
abbrev a193:Pos:= .l a96
abbrev z193:X:= .t a193
abbrev a194:Pos:= .r a96
abbrev z194:X:= .t a194
abbrev a195:Pos:= .l a97
abbrev z195:X:= .t a195
abbrev a196:Pos:= .r a97
abbrev z196:X:= .t a196
abbrev a197:Pos:= .l a98
abbrev z197:X:= .t a197
abbrev a198:Pos:= .r a98
abbrev z198:X:= .t a198
abbrev a199:Pos:= .l a99
abbrev z199:X:= .t a199
abbrev a200:Pos:= .r a99
abbrev z200:X:= .t a200
abbrev a201:Pos:= .l a100
abbrev z201:X:= .t a201
abbrev a202:Pos:= .r a100
abbrev z202:X:= .t a202
abbrev a203:Pos:= .l a101
abbrev z203:X:= .t a203
abbrev a204:Pos:= .r a101
abbrev z204:X:= .t a204
abbrev a205:Pos:= .l a102
abbrev z205:X:= .t a205
abbrev a206:Pos:= .r a102
abbrev z206:X:= .t a206
abbrev a207:Pos:= .l a103
abbrev z207:X:= .t a207
abbrev a208:Pos:= .r a103
abbrev z208:X:= .t a208
abbrev a209:Pos:= .l a104
abbrev z209:X:= .t a209
abbrev a210:Pos:= .r a104
abbrev z210:X:= .t a210
abbrev a211:Pos:= .l a105
abbrev z211:X:= .t a211
abbrev a212:Pos:= .r a105
abbrev z212:X:= .t a212
abbrev a213:Pos:= .l a106
abbrev z213:X:= .t a213
abbrev a214:Pos:= .r a106
abbrev z214:X:= .t a214
abbrev a215:Pos:= .l a107
abbrev z215:X:= .t a215
abbrev a216:Pos:= .r a107
abbrev z216:X:= .t a216
abbrev a217:Pos:= .l a108
abbrev z217:X:= .t a217
abbrev a218:Pos:= .r a108
abbrev z218:X:= .t a218
abbrev a219:Pos:= .l a109
abbrev z219:X:= .t a219
abbrev a220:Pos:= .r a109
abbrev z220:X:= .t a220
abbrev a221:Pos:= .l a110
abbrev z221:X:= .t a221
abbrev a222:Pos:= .r a110
abbrev z222:X:= .t a222
abbrev a223:Pos:= .l a111
abbrev z223:X:= .t a223
abbrev a224:Pos:= .r a111
abbrev z224:X:= .t a224
abbrev a225:Pos:= .l a112
abbrev z225:X:= .t a225
abbrev a226:Pos:= .r a112
abbrev z226:X:= .t a226
abbrev a227:Pos:= .l a113
abbrev z227:X:= .t a227
abbrev a228:Pos:= .r a113
abbrev z228:X:= .t a228
abbrev a229:Pos:= .l a114
abbrev z229:X:= .t a229
abbrev a230:Pos:= .r a114
abbrev z230:X:= .t a230
abbrev a231:Pos:= .l a115
abbrev z231:X:= .t a231
abbrev a232:Pos:= .r a115
abbrev z232:X:= .t a232
abbrev a233:Pos:= .l a116
abbrev z233:X:= .t a233
abbrev a234:Pos:= .r a116
abbrev z234:X:= .t a234
abbrev a235:Pos:= .l a117
abbrev z235:X:= .t a235
abbrev a236:Pos:= .r a117
abbrev z236:X:= .t a236
abbrev a237:Pos:= .l a118
abbrev z237:X:= .t a237
abbrev a238:Pos:= .r a118
abbrev z238:X:= .t a238
abbrev a239:Pos:= .l a119
abbrev z239:X:= .t a239
abbrev a240:Pos:= .r a119
abbrev z240:X:= .t a240
abbrev a241:Pos:= .l a120
abbrev z241:X:= .t a241
abbrev a242:Pos:= .r a120
abbrev z242:X:= .t a242
abbrev a243:Pos:= .l a121
abbrev z243:X:= .t a243
abbrev a244:Pos:= .r a121
abbrev z244:X:= .t a244
abbrev a245:Pos:= .l a122
abbrev z245:X:= .t a245
abbrev a246:Pos:= .r a122
abbrev z246:X:= .t a246
abbrev a247:Pos:= .l a123
abbrev z247:X:= .t a247
abbrev a248:Pos:= .r a123
abbrev z248:X:= .t a248
abbrev a249:Pos:= .l a124
abbrev z249:X:= .t a249
abbrev a250:Pos:= .r a124
abbrev z250:X:= .t a250
abbrev a251:Pos:= .l a125
abbrev z251:X:= .t a251
abbrev a252:Pos:= .r a125
abbrev z252:X:= .t a252
abbrev a253:Pos:= .l a126
abbrev z253:X:= .t a253
abbrev a254:Pos:= .r a126
abbrev z254:X:= .t a254
abbrev a255:Pos:= .l a127
abbrev z255:X:= .t a255
abbrev a256:Pos:= .r a127
abbrev z256:X:= .t a256
abbrev a257:Pos:= .l a128
abbrev z257:X:= .t a257
abbrev a258:Pos:= .r a128
abbrev z258:X:= .t a258
abbrev a259:Pos:= .l a129
abbrev z259:X:= .t a259
abbrev a260:Pos:= .r a129
abbrev z260:X:= .t a260
abbrev a261:Pos:= .l a130
abbrev z261:X:= .t a261
abbrev a262:Pos:= .r a130
abbrev z262:X:= .t a262
abbrev a263:Pos:= .l a131
abbrev z263:X:= .t a263
abbrev a264:Pos:= .r a131
abbrev z264:X:= .t a264
abbrev a265:Pos:= .l a132
abbrev z265:X:= .t a265
abbrev a266:Pos:= .r a132
abbrev z266:X:= .t a266
abbrev a267:Pos:= .l a133
abbrev z267:X:= .t a267
abbrev a268:Pos:= .r a133
abbrev z268:X:= .t a268
abbrev a269:Pos:= .l a134
abbrev z269:X:= .t a269
abbrev a270:Pos:= .r a134
abbrev z270:X:= .t a270
abbrev a271:Pos:= .l a135
abbrev z271:X:= .t a271
abbrev a272:Pos:= .r a135
abbrev z272:X:= .t a272
abbrev a273:Pos:= .l a136
abbrev z273:X:= .t a273
abbrev a274:Pos:= .r a136
abbrev z274:X:= .t a274
abbrev a275:Pos:= .l a137
abbrev z275:X:= .t a275
abbrev a276:Pos:= .r a137
abbrev z276:X:= .t a276
abbrev a277:Pos:= .l a138
abbrev z277:X:= .t a277
abbrev a278:Pos:= .r a138
abbrev z278:X:= .t a278
abbrev a279:Pos:= .l a139
abbrev z279:X:= .t a279
abbrev a280:Pos:= .r a139
abbrev z280:X:= .t a280
abbrev a281:Pos:= .l a140
abbrev z281:X:= .t a281
abbrev a282:Pos:= .r a140
abbrev z282:X:= .t a282
abbrev a283:Pos:= .l a141
abbrev z283:X:= .t a283
abbrev a284:Pos:= .r a141
abbrev z284:X:= .t a284
abbrev a285:Pos:= .l a142
abbrev z285:X:= .t a285
abbrev a286:Pos:= .r a142
abbrev z286:X:= .t a286
abbrev a287:Pos:= .l a143
abbrev z287:X:= .t a287
abbrev a288:Pos:= .r a143
abbrev z288:X:= .t a288
abbrev a289:Pos:= .l a144
abbrev z289:X:= .t a289
abbrev a290:Pos:= .r a144
abbrev z290:X:= .t a290
abbrev a291:Pos:= .l a145
abbrev z291:X:= .t a291
abbrev a292:Pos:= .r a145
abbrev z292:X:= .t a292
abbrev a293:Pos:= .l a146
abbrev z293:X:= .t a293
abbrev a294:Pos:= .r a146
abbrev z294:X:= .t a294
abbrev a295:Pos:= .l a147
abbrev z295:X:= .t a295
abbrev a296:Pos:= .r a147
abbrev z296:X:= .t a296
abbrev a297:Pos:= .l a148
abbrev z297:X:= .t a297
abbrev a298:Pos:= .r a148
abbrev z298:X:= .t a298
abbrev a299:Pos:= .l a149
abbrev z299:X:= .t a299
abbrev a300:Pos:= .r a149
abbrev z300:X:= .t a300
abbrev a301:Pos:= .l a150
abbrev z301:X:= .t a301
abbrev a302:Pos:= .r a150
abbrev z302:X:= .t a302
abbrev a303:Pos:= .l a151
abbrev z303:X:= .t a303
abbrev a304:Pos:= .r a151
abbrev z304:X:= .t a304
abbrev a305:Pos:= .l a152
abbrev z305:X:= .t a305
abbrev a306:Pos:= .r a152
abbrev z306:X:= .t a306
abbrev a307:Pos:= .l a153
abbrev z307:X:= .t a307
abbrev a308:Pos:= .r a153
abbrev z308:X:= .t a308
abbrev a309:Pos:= .l a154
abbrev z309:X:= .t a309
abbrev a310:Pos:= .r a154
abbrev z310:X:= .t a310
abbrev a311:Pos:= .l a155
abbrev z311:X:= .t a311
abbrev a312:Pos:= .r a155
abbrev z312:X:= .t a312
abbrev a313:Pos:= .l a156
abbrev z313:X:= .t a313
abbrev a314:Pos:= .r a156
abbrev z314:X:= .t a314
abbrev a315:Pos:= .l a157
abbrev z315:X:= .t a315
abbrev a316:Pos:= .r a157
abbrev z316:X:= .t a316
abbrev a317:Pos:= .l a158
abbrev z317:X:= .t a317
abbrev a318:Pos:= .r a158
abbrev z318:X:= .t a318
abbrev a319:Pos:= .l a159
abbrev z319:X:= .t a319
abbrev a320:Pos:= .r a159
abbrev z320:X:= .t a320
abbrev a321:Pos:= .l a160
abbrev z321:X:= .t a321
abbrev a322:Pos:= .r a160
abbrev z322:X:= .t a322
abbrev a323:Pos:= .l a161
abbrev z323:X:= .t a323
abbrev a324:Pos:= .r a161
abbrev z324:X:= .t a324
abbrev a325:Pos:= .l a162
abbrev z325:X:= .t a325
abbrev a326:Pos:= .r a162
abbrev z326:X:= .t a326
abbrev a327:Pos:= .l a163
abbrev z327:X:= .t a327
abbrev a328:Pos:= .r a163
abbrev z328:X:= .t a328
abbrev a329:Pos:= .l a164
abbrev z329:X:= .t a329
abbrev a330:Pos:= .r a164
abbrev z330:X:= .t a330
abbrev a331:Pos:= .l a165
abbrev z331:X:= .t a331
abbrev a332:Pos:= .r a165
abbrev z332:X:= .t a332
abbrev a333:Pos:= .l a166
abbrev z333:X:= .t a333
abbrev a334:Pos:= .r a166
abbrev z334:X:= .t a334
abbrev a335:Pos:= .l a167
abbrev z335:X:= .t a335
abbrev a336:Pos:= .r a167
abbrev z336:X:= .t a336
abbrev a337:Pos:= .l a168
abbrev z337:X:= .t a337
abbrev a338:Pos:= .r a168
abbrev z338:X:= .t a338
abbrev a339:Pos:= .l a169
abbrev z339:X:= .t a339
abbrev a340:Pos:= .r a169
abbrev z340:X:= .t a340
abbrev a341:Pos:= .l a170
abbrev z341:X:= .t a341
abbrev a342:Pos:= .r a170
abbrev z342:X:= .t a342
abbrev a343:Pos:= .l a171
abbrev z343:X:= .t a343
abbrev a344:Pos:= .r a171
abbrev z344:X:= .t a344
abbrev a345:Pos:= .l a172
abbrev z345:X:= .t a345
abbrev sk1:T:= .n .e none .e
abbrev sk2:T:= .n sk1 none sk1
abbrev sk3:T:= .n sk2 none sk2
abbrev sk4:T:= .n sk3 none sk3
abbrev sk5:T:= .n sk4 none sk4
abbrev sk6:T:= .n sk5 none sk5
abbrev sk7:T:= .n sk6 none sk6
abbrev uv1(u:List (Option V))(a:Nat):T:= .n .e (uO u a) .e
abbrev uv3(u:List (Option V))(a b c:Nat):T:= .n (uv1 u a) (uO u b) (uv1 u c)
abbrev uv7(u:List (Option V))(a b c d e f g:Nat):T:= .n (uv3 u a b c) (uO u d) (uv3 u e f g)
abbrev qq(d:Pos)(o:QO):CO:=⟨some d,.q o,none⟩
abbrev aa(d:Pos)(o:AO):CO:=⟨some d,.a o,none⟩
abbrev ee(d:Pos)(o:EO):CO:=⟨some d,.e o,none⟩
abbrev ez(o:EO):CO:=⟨none,.e o,none⟩
abbrev x6(n:Int):X:= .c (.i .i64 n)
abbrev xT:X:= .c (.b true)
abbrev xF:X:= .c (.b false)
theorem wu{b b1:CC}(h:b=b1)(k:Kn)(s:St)(R:Ex→St→Prop):Wp b k s R=Wp b1 k s R:=congrArg (fun x=>Wp x k s R) h
section
variable{Φ:Nat→Option CF}{rd:Option Nat}{fn:Nat}{F:RO}
def nckV:V→Option V
 | .p b o=>some (.p b o)
 | .f g h c=>some (.f g h c)
 | .y l=>some (.y l)
 | .a t v=>some (.a t v)
 |_=>none
theorem v_nck(x:X)(M:Mem)(t:T):(qop (.nck x) F M t).val=nckV (x.ev t):=by
 show(q_nck x F M t).val=_
 unfold q_nck
 cases x.ev t<;>rfl
theorem nckV_p(b o:Nat):nckV (.p b o)=some (.p b o):=Eq.trans rfl (Eq.refl _)
theorem dq_nck(x:X)(M:Mem)(t:T):dqR (.nck x) F M t=oV (nckV (x.ev t)):=by
 refine(dq_of ?_).trans (congrArg oV (v_nck (F:=F) x M t))
 intro F' M'
 refine qv_oV ?_
 show(q_nck x F' M' t= .f∨ ∃y,q_nck x F' M' t= .v y)
 unfold q_nck
 cases x.ev t<;>first|exact .inl rfl|exact .inr ⟨_,rfl⟩
def sdV:V→Option V
 | .l0=>some .p0
 | .l b o _ c=>if c=0 then none else some (.p b o)
 | .u b o _ el kn=>if el<kn then some (.p b o)else none
 |_=>none
theorem q_sd_eq(x:X)(M:Mem)(t:T):q_sd x F M t=oV (sdV (x.ev t)):=by
 unfold q_sd
 cases x.ev t with
 |l b o n c=>
  show(bif Nat.beq c 0 then QR.f else .v (.p b o))=oV (if c=0 then none else some (.p b o));rw[beqN];by_cases h:c=0
  ·rw[decide_eq_true h,if_pos h];rfl
  ·rw[decide_eq_false h,if_neg h];rfl
 |u b o n el kn=>
  show(bif Nat.blt el kn then QR.v (.p b o)else .f)=oV (if el<kn then some (.p b o)else none);rw[bltN];by_cases h:el<kn
  ·rw[decide_eq_true h,if_pos h];rfl
  ·rw[decide_eq_false h,if_neg h];rfl
 |_=>rfl
theorem oV_val(o:Option V):(oV o).val=o:=by cases o<;>rfl
theorem v_sd(x:X)(M:Mem)(t:T):(qop (.sd x) F M t).val=sdV (x.ev t):=by
 show(q_sd x F M t).val=_
 rw[q_sd_eq,oV_val]
theorem dq_sd(x:X)(M:Mem)(t:T):dqR (.sd x) F M t=oV (sdV (x.ev t)):=by
 refine(dq_of ?_).trans (congrArg oV (v_sd (F:=F) x M t))
 intro F' M'
 show q_sd x F' M' t=oV (q_sd x [] .e t).val
 rw[q_sd_eq,q_sd_eq,oV_val]
theorem sdV_l0:sdV .l0=some .p0:=Eq.trans rfl (Eq.refl _)
theorem sdV_u{b o n el kn:Nat}(h:el<kn):sdV (.u b o n el kn)=some (.p b o):=if_pos h
def upV(F:RO)(M:Mem)(x:V):Option V:=(qop (.up (.c x)) F M .e).val
theorem v_up(x:X)(M:Mem)(t:T):(qop (.up x) F M t).val=upV F M (x.ev t):=Eq.trans rfl (Eq.refl _)
theorem upV_row{M:Mem}{b o ty n:Nat}{ex str:Bool}{fz:Nat}{d:List V}{t:T}(h:M.get b=some (.cells ty n ex fz str d t))(ho:o<n):upV F M (.p b o)=some (.p b o):=by
 show(asCells (look F M b) QR.f fun n _ _=>bif Nat.blt o n then QR.r (.p b o) b else .f).val=_
 rw[look_some_M h]
 show(bif Nat.blt o n then QR.r (.p b o) b else .f).val=_
 rw[bltN,decide_eq_true ho];rfl
def dnV(ty sz:Nat)(F:RO)(M:Mem)(x:V):Option V:=(qop (.dn ty sz (.c x)) F M .e).val
theorem v_dn(ty sz:Nat)(x:X)(M:Mem)(t:T):(qop (.dn ty sz x) F M t).val=dnV ty sz F M (x.ev t):=Eq.trans rfl (Eq.refl _)
theorem dnV_row{M:Mem}{b ty n:Nat}{str:Bool}{fz:Nat}{d:List V}{t:T}(h:M.get b=some (.cells ty n true fz str d t)):dnV ty n F M (.p b 0)=some (.p b 0):=by
 show(dnIn ty n b (look F M b)).val=_
 rw[look_some_M h]
 show(bif Nat.beq ty ty&&Nat.beq n n then QR.r (.p b 0) b else .f).val=_
 rw[Nat.beq_refl,Nat.beq_refl];rfl
def QV(r:QR):Prop:=r= .f∨ ∃y,r= .v y
def rowP(ty n:Nat)(row:List V):Blk:= .cells ty n false 0 false [] (rowT row)
theorem rowP_cell{n:Nat}{row:List V}(h:row.length≤n)(i:Nat)(hi:i<row.length):cell n [] (rowT row) i=row[i]?:=by
 rw[cell_eq,if_pos (by omega)]
 unfold rowT
 rw[listTr_get,if_pos (by omega)]
 simp only[Nat.sub_zero]
 rw[List.getElem?_eq_getElem hi]
theorem rowP_cells{M:Mem}{b ty n:Nat}{row:List V}(h:M.get b=some (rowP ty n row))(hn:row.length≤n):CellsAt F M b 0 row:=fun k hk=>by
 rw[Nat.zero_add]
 unfold Ev.load1
 rw[look_some_M h]
 exact rowP_cell hn k hk
theorem rowP_store{M:Mem}{b ty n:Nat}{row vs:List V}(h:M.get b=some (rowP ty n row))(hn:row.length+vs.length≤n)(h1:allOne vs=true):storeN M b row.length vs=some (M.set b (rowP ty n (row++vs))):=by
 rw[storeN_of h hn (Nat.zero_le _) h1]
 unfold rowP rowT
 have:=listTr_snoc row vs 0 .e
 rw[Nat.zero_add]at this
 rw[this]
def BufAt(M:Mem)(c0 c b:Nat)(v:V)(l:List UInt8):Prop:=
 (l=[]∧v= .l0)∨(c0≤b∧b<c∧ ∃n,(l.length≤n∧0<n)∧v= .u b 0 l.length 0 n∧M.get b=some (rowP 5 n (l.map bV)))
theorem BufAt.up{M M':Mem}{c0 c c' b:Nat}{v:V}{l:List UInt8}(h:BufAt M c0 c b v l)(hc:c≤c')(hb:b<c→M'.get b=M.get b):BufAt M' c0 c' b v l:=by
 rcases h with h|⟨h1,h2,n,h3,h4,h5⟩
 ·exact .inl h
 ·exact .inr ⟨h1,by omega,n,h3,h4,by rw[hb h2];exact h5⟩
theorem buf_to{M0 M:Mem}{c0 c b:Nat}{v:V}{l s:List UInt8}(h:BufAt M c0 c b v l)(hg:Gr c0 M0 c M)(hr:room (l.length+s.length) 1=true):
 RTo (appV F M c 5 1 1 v (sV s)) fun v' M' c'=>∃b',BufAt M' c0 c' b' v' (l++s)∧Gr c0 M0 c' M'∧c≤c'∧(∀x,x<c→x≠b→M'.get x=M.get x)∧(b'=b∨c≤b'):=by
 unfold appV
 rw[split_s]
 have e1:e_app1 F M c 5 1 1 v (some (s.length,s.map bV))=app F M c 5 1 1 v s.length (s.map bV):=by
  show(bif allOne (s.map bV)&&Nat.beq (s.map bV).length (Nat.mul s.length 1)then _ else _)=_;rw[allOne_bytes,beqN,decide_eq_true (show(s.map bV).length=Nat.mul s.length 1 by rw[List.length_map];exact(Nat.mul_one _).symm)];rfl
 rw[e1]
 have hmap:(l++s).map bV=l.map bV++s.map bV:=List.map_append
 by_cases hz:s=[]
 ·subst hz;have e2:app F M c 5 1 1 v 0 []= .k v M c:=by
   show(bif Nat.beq 0 0 then(bif lenOk v then RC.k v M c else .f)else _)=_;have:lenOk v=true:=by
    rcases h with⟨_,rfl⟩|⟨_,_,n,⟨hn,_⟩,rfl,_⟩
    ·rfl
    ·show Nat.ble l.length (Nat.sub n 0)=true;rw[bleN];exact decide_eq_true hn
   rw[this];rfl
  exact⟨v,M,c,e2,b,by rw[List.append_nil];exact h,hg,Nat.le_refl _,fun _ _ _=>rfl,.inl rfl⟩
 ·have hn0:s.length≠0:=fun e=>hz (List.length_eq_zero_iff.1 e);have grownEq:∀(N:Mem) (vs:List V) (k:Nat),room k 1=true→vs.length=k→grown N c 5 1 k 0 false vs= .k (.u c 0 k 0 k) (N.set c (rowP 5 k vs)) (c+1):=by
   intro N vs k hk hv;rw[grown_eq N c 5 1 k vs hk];unfold rowU rowP;rw[hv]
  rcases h with⟨rfl,rfl⟩|⟨ha,hb,n,⟨hn,hn1⟩,rfl,hM⟩
  ·rw[List.length_nil,Nat.zero_add]at hr;refine⟨_,_,_,(app_nil hn0).trans (grownEq M (s.map bV) s.length hr (List.length_map ..)),c,.inr ⟨hg.le,by omega,s.length,⟨Nat.le_refl _,by omega⟩,rfl,?_⟩,hg.set c _ hg.le (by omega) (by omega),by omega,fun x hx _=>get_ne _ _ (by omega),.inr (Nat.le_refl _)⟩;rw[Tr.get_set,if_pos rfl];rfl
  ·by_cases hfit:l.length+s.length≤n
   ·have hst:=rowP_store hM (vs:=s.map bV) (by rw[List.length_map,List.length_map];exact hfit) (allOne_bytes s);rw[List.length_map]at hst;have e3:app_u F M c 5 1 1 b 0 l.length 0 n s.length (s.map bV)= .k (.u b 0 (l.length+s.length) 0 n) (M.set b (rowP 5 n (l.map bV++s.map bV))) c:=by
     unfold app_u;rw[bleN,decide_eq_true (show Nat.add (Nat.add 0 l.length) s.length≤n by show 0+l.length+s.length≤n;omega),cond_true];unfold appIn;rw[show Nat.add 0 (Nat.mul l.length 1)=l.length by show 0+l.length*1=l.length;omega,hst];show fN (l.length+s.length) (fun len=>RC.k (.u b 0 len 0 n) _ c)=_;rw[fN_eq]
    refine⟨_,_,_,(app_un hn0).trans e3,b,.inr ⟨ha,hb,n,⟨by rw[List.length_append];exact hfit,hn1⟩,by rw[List.length_append],?_⟩,hg.set b _ ha hb (Nat.le_refl _),Nat.le_refl _,fun x _ hxb=>get_ne _ _ hxb,.inl rfl⟩;rw[Tr.get_set,if_pos rfl,hmap]
   ·have hcl:=(rowP_cells (F:=F) hM (by rw[List.length_map];exact hn))
    have hcl2:CellsAt F M b 0 (l.map fun x=>[bV x]).flatten:=by rw[flat_bytes];exact hcl
    obtain⟨r,hrd⟩:=readB_of Nat.one_pos (es:=l.map fun x=>[bV x]) (fun e he=>by obtain⟨x,_,rfl⟩:=List.mem_map.1 he;rfl) hcl2;rw[List.length_map,flat_bytes]at hrd;have hmw:mayWrite M b 5 (Nat.add 0 (Nat.mul l.length 1)) (Nat.add 0 (Nat.mul (Nat.sub n 0) 1))=some (0,false):=by
     unfold mayWrite;rw[hM];show(bif Nat.beq 5 5&&Nat.beq n (0+(n-0)*1)&&Nat.ble 0 (0+l.length*1)&&Nat.ble (0+l.length*1) (0+(n-0)*1)then some (0,false)else none)=_;rw[beqN,beqN,bleN,bleN,decide_eq_true (show 5=5 from rfl),decide_eq_true (show n=0+(n-0)*1 by omega),decide_eq_true (Nat.zero_le _),decide_eq_true (show 0+l.length*1≤0+(n-0)*1 by omega)];rfl
    have e3:app_u F M c 5 1 1 b 0 l.length 0 n s.length (s.map bV)= .k (.u c 0 (l.length+s.length) 0 (l.length+s.length)) ((M.del b).set c (rowP 5 (l.length+s.length) (l.map bV++s.map bV))) (c+1):=by
     unfold app_u;rw[bleN,decide_eq_false (show¬Nat.add (Nat.add 0 l.length) s.length≤n by show¬0+l.length+s.length≤n;omega),cond_false,hmw];show(bif Nat.beq 0 0&&Nat.beq (n-0) l.length then grownB (M.del b) c 5 1 (l.length+s.length) 0 false (s.map bV) (M.get b)else grownL (M.del b) c 5 1 (l.length+s.length) 0 false (s.map bV) (readB F M 1 l.length b 0))=_;by_cases hnl:n=l.length
     ·rw[beqN,beqN,decide_eq_true rfl,decide_eq_true (show n-0=l.length from hnl),Bool.true_and,cond_true,hM,hnl];have:=grownT_eq (M.del b) c 5 1 (l.length+s.length) (l.map bV) (s.map bV) hr;rw[List.length_map]at this;unfold rowU at this;rw[List.length_append,List.length_map,List.length_map]at this;exact this
     ·rw[beqN,beqN,decide_eq_true rfl,decide_eq_false (show¬n-0=l.length from hnl),Bool.true_and,cond_false,hrd];exact grownEq _ _ _ hr (by rw[List.length_append,List.length_map,List.length_map])
    refine⟨_,_,_,(app_un hn0).trans e3,c,.inr ⟨by omega,by omega,l.length+s.length,⟨by rw[List.length_append];exact Nat.le_refl _,by omega⟩,by rw[List.length_append],?_⟩,(hg.del b ha).set c _ (by omega) (by omega) (by omega),by omega,fun x hx hxb=>?_,.inr (Nat.le_refl _)⟩
    ·rw[Tr.get_set,if_pos rfl,hmap]
    ·rw[get_ne _ _ (by omega),Tr.get_del,if_neg hxb]
end
section
variable{Φ:Nat→Option CF}{rd:Option Nat}{fn:Nat}{F:RO}
end
theorem cell_plain{W:World}{a:Addr}{v:Value}(h:W.cell? a=some v):∃r o,a=⟨r,o,none⟩∧r<W.heap.size:=by
 obtain⟨r,o,sp⟩:=a
 unfold World.cell? at h
 split at h
 ·rename_i cs ty fr hh;have hlt:r<W.heap.size:=(Array.getElem?_eq_some_iff.1 hh).1;cases sp with
  |none=>exact⟨r,o,rfl,hlt⟩
  |some k=>simp at h
 ·cases h
def errQ(F:RO)(g:Nat):Option (Nat×Nat×Nat×Nat):=match roGet F g with
 |some (.cells ty n false fz true d c)=>bif Nat.beq n 1&&Nat.beq fz 1 then(match cell 1 d c 0 with
  |some (.a t (.p b o))=>some (ty,t,b,o)
  |_=>none)else none
 |_=>none
theorem errQ_some{F:RO}{g ty t b o:Nat}(h:errQ F g=some (ty,t,b,o)):∃d c,roGet F g=some (.cells ty 1 false 1 true d c)∧cell 1 d c 0=some (.a t (.p b o)):=by
 unfold errQ at h
 split at h
 ·rename_i ty' n fz d c hF;cases hh:Nat.beq n 1&&Nat.beq fz 1 with
  |false=>rw[hh]at h;cases h
  |true=>
   rw[hh,cond_true]at h;rw[Bool.and_eq_true,beqN,beqN]at hh;obtain rfl:=of_decide_eq_true hh.1;obtain rfl:=of_decide_eq_true hh.2;split at h
   ·rename_i t' b' o' hc;injection h with h;injection h with h1 h;injection h with h2 h;injection h with h3 h4
    subst h1 h2 h3 h4;exact⟨d,c,hF,hc⟩
   ·cases h
 ·cases h
def errsIn(F:RO):List Nat→Bool
 |[]=>true
 |g::r=>Nat.blt g 1000&&((errQ F g).isSome&&errsIn F r)
theorem errsIn_mem{F:RO}:∀{L:List Nat},errsIn F L=true→ ∀g∈L,g<1000∧ ∃ty t b o,errQ F g=some (ty,t,b,o)
 |[],_,g,hg=>by cases hg
 |x::r,h,g,hg=>by
  have h':(Nat.blt x 1000&&((errQ F x).isSome&&errsIn F r))=true:=h;rw[Bool.and_eq_true,Bool.and_eq_true,bltN]at h';rcases List.mem_cons.1 hg with e|hg'
  ·subst e;obtain⟨⟨ty,t,b,o⟩,hq⟩:=Option.isSome_iff_exists.1 h'.2.1;exact⟨of_decide_eq_true h'.1,ty,t,b,o,hq⟩
  ·exact errsIn_mem h'.2.2 g hg'
def errBlk(ty t k o:Nat):Blk:= .cells ty 1 false 1 true [.a t (.p k o)] .e
def errF(F:RO)(q:Nat→Nat×Nat×Nat):List Nat→Nat→RO
 |[],_=>F
 |g::r,k=>(g,errBlk (q g).1 (q g).2.1 k (q g).2.2)::errF F q r (Nat.succ k)
theorem errF_get{F:RO}{q:Nat→Nat×Nat×Nat}:∀{L:List Nat} {k b:Nat} {blk:Blk},roGet (errF F q L k) b=some blk→roGet F b=some blk∨ ∃i,L[i]?=some b∧blk=errBlk (q b).1 (q b).2.1 (k+i) (q b).2.2
 |[],k,b,blk,h=> .inl h
 |g::r,k,b,blk,h=>by
  have h':Bool.rec (motive:=fun _=>Option Blk) (roGet (errF F q r (k+1)) b) (some (errBlk (q g).1 (q g).2.1 k (q g).2.2)) (Nat.beq g b)=some blk:=h;rw[bb,beqN]at h';by_cases e:g=b
  ·rw[if_pos (by simpa using e)]at h';subst e;exact .inr ⟨0,rfl,(Option.some.inj h').symm⟩
  ·rw[if_neg (by simpa using e)]at h';rcases errF_get h' with h|⟨i,h1,h2⟩
   ·exact .inl h
   ·exact .inr ⟨i+1,h1,by rw[h2,show k+1+i=k+(i+1) by omega]⟩
def errN(F:RO)(L:List Nat)(i:Nat):Nat:=match L[i]? with
 |some g=>(match errQ F g with|some (_,_,b,_)=>b|none=>0)
 |none=>0
def errE(E:Env)(F:RO)(L:List Nat):Env:=⟨fun x=>if x<1000 then E.ρ x else E.ρ (errN F L (x-1000)),fun x=>if x<1000 then E.β x else E.β (errN F L (x-1000)),fun x=>if x<1000 then E.κ x else E.κ (errN F L (x-1000))⟩
theorem errE_ext(E:Env)(F:RO)(L:List Nat):Ext (fun x=>x<1000) E (errE E F L):=⟨fun b hb=>if_pos hb,fun b hb=>if_pos hb,fun b hb=>if_pos hb⟩
theorem rel_errs{P:Program}{E:Env}{F:RO}{M:Mem}{c:Nat→Prop}{w:World}{L:List Tab}{gs:List Nat}(hr:Rel P E F M c w)(hglob:∀g,g<1000→E.ρ g=g∧E.β g=0)(h:tabsIn F L=true)(he:errsIn F gs=true):
 ∃ty q,Rel P (errE E F gs) (errF (tabF L ty) q gs 1000) .e (fun x=>x<1000+gs.length) w:=by
 obtain⟨ty,hT⟩:=rel_tabsIn hr hglob h
 have hall:=errsIn_mem he
 have hgl:∀g,g<1000→(errE E F gs).ρ g=g:=fun g hg=>((errE_ext E F gs).ρ g hg).trans (hglob g hg).1
 refine⟨ty,fun g=>match errQ F g with|some (ty,t,_,o)=>(ty,t,o)|none=>(0,0,0),⟨?_,?_,fun b hb=>rfl⟩⟩
 ·intro b blk hb;rw[look_none_M (show(Tr.e:Mem).get b=none from rfl)]at hb;rcases errF_get hb with hb|⟨i,hi,rfl⟩
  ·obtain⟨h1,h2,o,h3,h4⟩:=hT.has b blk (by rw[look_none_M (show(Tr.e:Mem).get b=none from rfl)];exact hb);have h1':b<1000:=h1;exact⟨Nat.lt_of_lt_of_le h1' (Nat.le_add_right _ _),bdBlk_mono (fun x (hx:x<1000)=>Nat.lt_of_lt_of_le hx (Nat.le_add_right _ _)) blk h2,o,by rw[hgl b h1',←(hglob b h1').1];exact h3,h4.ext (errE_ext E F gs) h1' h2⟩
  ·have hm:=List.mem_of_getElem? hi;obtain⟨hb1,ty',t,b',o,hq⟩:=hall b hm;obtain⟨d,cc,hF,hc⟩:=errQ_some hq;have hl:look F M b=some (.cells ty' 1 false 1 true d cc):=by
    rw[look_none_M (hr.apart b (by rw[hF];rfl))];exact hF
   obtain⟨_,hbd,obj,ho,arr,fr,rfl,hC⟩:=hr.has _ _ hl;have hil:i<gs.length:=(List.getElem?_eq_some_iff.1 hi).1;have hn:errN F gs i=b':=by unfold errN;rw[hi];simp only[hq]
   simp only[hq];refine⟨Nat.lt_of_lt_of_le hb1 (Nat.le_add_right _ _),?_,_,by rw[hgl b hb1,←(hglob b hb1).1];exact ho,arr,fr,rfl,?_,?_,?_,fun hh=>by cases hh⟩
   ·intro k v hv;rw[cell_eq]at hv;split at hv
    ·obtain rfl:k=0:=by omega
     obtain rfl:=Option.some.inj hv;show 1000+i<1000+gs.length;omega
    ·cases hv
   ·intro k v hv;rw[cell_eq]at hv;split at hv
    ·obtain rfl:k=0:=by omega
     obtain rfl:=Option.some.inj hv;have:=hC.cell 0 _ hc;rw[(errE_ext E F gs).β b hb1,this];show some (Value.iface t (.pointer (some ⟨E.ρ b',E.β b'+o,none⟩)))=some (Value.iface t (.pointer (some ⟨(errE E F gs).ρ (1000+i),(errE E F gs).β (1000+i)+o,none⟩)));have e1:(errE E F gs).ρ (1000+i)=E.ρ b':=by
      show(if 1000+i<1000 then _ else E.ρ (errN F gs (1000+i-1000)))=_;rw[if_neg (by omega),show 1000+i-1000=i by omega,hn]
     have e2:(errE E F gs).β (1000+i)=E.β b':=by
      show(if 1000+i<1000 then _ else E.β (errN F gs (1000+i-1000)))=_;rw[if_neg (by omega),show 1000+i-1000=i by omega,hn]
     rw[e1,e2]
    ·cases hv
   ·have:=hC.size;show arr.size=(errE E F gs).β b+1+(errE E F gs).κ b*_;rw[(errE_ext E F gs).β b hb1,(errE_ext E F gs).κ b hb1];exact this
   ·rw[(errE_ext E F gs).β b hb1];exact hC.free
 ·intro b b' h1 h2 e
  have lt:∀x,(look (errF (tabF L ty) (fun g=>match errQ F g with|some (ty,t,_,o)=>(ty,t,o)|none=>(0,0,0)) gs 1000) .e x).isSome→x<1000:=by
   intro x hx;obtain⟨y,hy⟩:=Option.isSome_iff_exists.1 hx;rw[look_none_M (show(Tr.e:Mem).get x=none from rfl)]at hy;rcases errF_get hy with hy|⟨i,hi,_⟩
   ·exact(hT.has x y (by rw[look_none_M (show(Tr.e:Mem).get x=none from rfl)];exact hy)).1
   ·exact(hall x (List.mem_of_getElem? hi)).1
  rw[hgl b (lt b h1),hgl b' (lt b' h2)]at e;exact e
def runE(Φ:Nat→Option CF)(fuel:Nat)(F:RO)(f n:Nat):RC:=callC (exec Φ fuel) F f [] .e n (Φ f)
theorem errQ_of{P:Program}{n nm:String}{text:List UInt8}{r:List (String×DataW Unit)}{W:World}{C g:Nat}{ti tp te ts:TypeId}{ms:Array (String×TypeId)}{f:Field}
 (hC:W.heap.size≤C) (h:laidMet P ((n,.iface nm (.ptr (.agg [.lit (.string text)])))::r) W)
 (hg:P.globalNamed n=some g) (ht:(P.globals[g]?).map (·.type)=some ti) (hi:P.underlying ti=some (.interface ms)) (hrow:∀u,P.typeName? 3 u=some nm→u=tp)
 (hp:P.underlying tp=some (.pointer te)) (he:P.underlying te=some (.struct #[f])) (hft:f.type=ts) (hfo:f.offset=0) (hs:P.underlying ts=some .string) (hc:P.cellsOf te=1) (hcs:P.cellsOf ts=1):
 (errQ (heapF W C) g).isSome=true:=by
 obtain⟨a,s,hv,hca,_,_⟩:=laid_sentinel h hg ht hi hrow hp he hft hfo hs hc hcs
 obtain⟨rb,o,rfl,hlt⟩:=cell_plain hca
 have hv2:vOf C (.iface tp (.pointer (some ⟨rb,o,none⟩)))=some (.a tp (.p rb o)):=if_pos (Nat.lt_of_lt_of_le hlt hC)
 unfold World.var? at hv
 rw[hg]at hv
 simp only[Option.bind_some]at hv
 split at hv
 ·rename_i cs ty fr hh;obtain rfl:=Option.some.inj hv;have hcell:cell (#[Value.iface tp (.pointer (some ⟨rb,o,none⟩))]).size [] (optTr ((#[Value.iface tp (.pointer (some ⟨rb,o,none⟩))]).toList.map (vOf C)) 0 .e) 0=some (.a tp (.p rb o)):=(heap_cell (ty:=ty)).2 ⟨_,rfl,hv2⟩;unfold errQ;rw[heapF_get];have hh':W.heap[g]?=some (.cells #[Value.iface tp (.pointer (some ⟨rb,o,none⟩))] ty fr):=hh;rw[hh'];show Option.isSome (bif Nat.beq 1 1&&Nat.beq 1 1 then(match cell 1 [] (optTr ((#[Value.iface tp (.pointer (some ⟨rb,o,none⟩))]).toList.map (vOf C)) 0 .e) 0 with
   |some (.a t (.p b o))=>some (ty,t,b,o)
   |_=>none)else none)=true
  have hcell':cell 1 [] (optTr ((#[Value.iface tp (.pointer (some ⟨rb,o,none⟩))]).toList.map (vOf C)) 0 .e) 0=some (.a tp (.p rb o)):=hcell;rw[hcell'];rfl
 ·cases hv
section
variable{Φ:Nat→Option CF}{rd:Option Nat}{fn:Nat}{F:RO}
def scopeQ(I:Nat→Nat→St→Prop)(n:Nat)(Q:Ex→St→Prop):Ex→St→Prop
 | .gto l,s=>∃m,m<n∧I m l s
 |e,s=>Q e s
theorem seqQ_gto(b:CC)(k:Kn)(Q:Ex→St→Prop)(l:Nat)(s:St):seqQ b k Q (.gto l) s=Q (.gto l) s:=Eq.trans rfl (Eq.refl _)
theorem blockQ_gto(id:Nat)(Q:Ex→St→Prop)(l:Nat)(s:St):blockQ id Q (.gto l) s=Q (.gto l) s:=Eq.trans rfl (Eq.refl _)
theorem wp_goto(l:Nat)(k:Kn)(s:St)(Q:Ex→St→Prop):Wp (.goto l) k s Q=Q (.gto l) s:=by
 apply propext;constructor
 ·rintro⟨e,s',h,q⟩;have h':Rs.k (.gto l) s= .k e s':=h;injection h' with h1 h2
  subst h1 h2;exact q
 ·exact fun h=>⟨_,_,rfl,h⟩
theorem wp_scopes{tbl:CC}{Q:Ex→St→Prop}(I:Nat→Nat→St→Prop)(h:∀n l s,I n l s→ ∃c,findL l tbl=some c∧Wp c (K Φ rd fn F) s (scopeQ I n Q)):
 ∀n b s,Wp b (K Φ rd fn F) s (scopeQ I n Q)→Wp (.scope b tbl) (K Φ rd fn F) s Q:=by
 intro n
 induction n using Nat.strongRecOn with
 |_ n ih=>
  rintro b s ⟨e,s',he,q⟩;have h0:execC (.scope b tbl) (K Φ rd fn F) s=r_scope tbl (K Φ rd fn F) (execC b (K Φ rd fn F) s):=rfl;cases e with
  |gto l=>
   obtain⟨m,hm,hI⟩:=q;obtain⟨c,hc,hw⟩:=h m l s' hI;obtain⟨e2,s2,h2,q2⟩:=ih m hm c s' hw;refine⟨e2,s2,?_,q2⟩;rw[h0,he];show s_jump tbl (K Φ rd fn F) s' (findL l tbl)=_;rw[hc];show again (K Φ rd fn F) (.scope c tbl) s'=_;rw[←h2];exact den_eq Φ rd fn F (.scope c tbl) s'
  |nrm=>exact⟨_,_,by rw[h0,he];rfl,q⟩
  |ret=>exact⟨_,_,by rw[h0,he];rfl,q⟩
  |ext id=>exact⟨_,_,by rw[h0,he];rfl,q⟩
end
def E1(E:Env)(b:Nat):Env:=⟨fun x=>if x<1000 then x else E.ρ b,fun x=>if x<1000 then 0 else E.β b,fun x=>if x<1000 then 0 else E.κ b⟩
open Classical in
def splA:List UInt8→List UInt8→List (List UInt8)
 |[],a=>[a]
 |[x],a=>[a++[x]]
 |x::y::r,a=>if x=44∧y=32 then a::splA r []else splA (y::r) (a++[x])
theorem occ0(x y:UInt8)(r:List UInt8):Lib.occAt (x::y::r) [44,32] 0=decide (x=44∧y=32):=by
 show([44,32]:List UInt8).isPrefixOf (x::y::r)=_
 rw[List.isPrefixOf_cons_cons,List.isPrefixOf_cons_cons]
 have:([]:List UInt8).isPrefixOf r=true:=by cases r<;>rfl
 rw[this,Bool.and_true]
 by_cases h1:x=44
 ·by_cases h2:y=32
  ·subst h1 h2;rfl
  ·have:((32:UInt8)==y)=false:=by rw[beq_eq_false_iff_ne];exact fun e=>h2 e.symm
   rw[this,Bool.and_false,decide_eq_false (by rintro⟨_,h⟩;exact h2 h)]
 ·have:((44:UInt8)==x)=false:=by rw[beq_eq_false_iff_ne];exact fun e=>h1 e.symm
  rw[this,Bool.false_and,decide_eq_false (by rintro⟨h,_⟩;exact h1 h)]
theorem occS(x:UInt8)(r:List UInt8)(j:Nat):Lib.occAt (x::r) [44,32] (j+1)=Lib.occAt r [44,32] j:=rfl
theorem splA_no:∀(s a:List UInt8),(∀j,j≤s.length→Lib.occAt s [44,32] j=false)→splA s a=[a++s]
 |[],a,_=>by rw[splA,List.append_nil]
 |[x],a,_=>by rw[splA]
 |x::y::r,a,h=>by
  have h0:=h 0 (Nat.zero_le _);rw[occ0]at h0;rw[splA,if_neg (of_decide_eq_false h0),splA_no (y::r) _ fun j hj=>by rw[←occS x];exact h (j+1) (by simpa using hj)];simp
theorem splA_hit:∀(i:Nat) (s a:List UInt8),Lib.occAt s [44,32] i=true→(∀j,j<i→Lib.occAt s [44,32] j=false)→splA s a=(a++s.take i)::splA (s.drop (i+2)) []
 |i,[],a,h,_=>by rcases Lib.occAt_room h with h|h<;>simp at h
 |i,[x],a,h,_=>by rcases Lib.occAt_room h with h|h<;>simp at h
 |0,x::y::r,a,h,_=>by
  rw[occ0]at h;rw[splA,if_pos (of_decide_eq_true h)];simp
 |i+1,x::y::r,a,h,hn=>by
  have h0:=hn 0 (Nat.succ_pos _);rw[occ0]at h0;rw[splA,if_neg (of_decide_eq_false h0),splA_hit i (y::r) _ (by rw[←occS x];exact h) fun j hj=>by rw[←occS x];exact hn (j+1) (by omega)];simp
theorem split_splA:∀(n:Nat) (s:List UInt8),s.length≤n→Lib.splitK [44,32] 0 (Lib.count s [44,32]) s=splA s []:=by
 intro n
 induction n with
 |zero=>
  intro s hs;obtain rfl:s=[]:=List.length_eq_zero_iff.1 (by omega);rfl
 |succ n ih=>
  intro s hs;rcases Lib.index_spec s [44,32]with⟨h,hn⟩|⟨i,h,hi,ho,hn⟩
  ·rw[Lib.count_miss h,splA_no s [] hn];rfl
  ·rw[Lib.count_hit (by simp) h,splA_hit i s [] ho hn,Nat.add_comm 1];show(if Lib.index s [44,32]== -1 then[s]else _)=_;rw[h,if_neg (by simp)];show s.take (((i:Int)).toNat+0)::Lib.splitK [44,32] 0 _ (s.drop (((i:Int)).toNat+2))=_;have hr:=Lib.occAt_room ho;rw[Int.toNat_natCast,Nat.add_zero];have hl:(s.drop (i+2)).length≤n:=by
    rcases hr with hr|hr
    ·rw[List.length_drop];simp at hr;omega
    ·cases hr
   rw[show([44,32]:List UInt8).length=2 from rfl,ih _ hl];rfl
def rowS(ty:Nat)(ps:List (List UInt8)):Blk:= .cells ty (ps.map sV).length true 0 false [] (listTr (ps.map sV) 0 .e)
def split1(ty n:Nat)(ps:List (List UInt8))(M:Mem)(ct:Nat):Option V→RC
 |some (.i .i64 _)=>bif Nat.blt n 4294967281 then .k (.l ct 0 (ps.map sV).length (ps.map sV).length) (M.set ct (rowS ty ps)) (Nat.succ ct)else .f
 |_=> .f
def splitO(ty g:Nat):RO→List V→Mem→Nat→RC:=fun F args M ct=>match args with
 |[.s n x,.s m y]=>bif Nat.beq m 2&&Nat.beq y 8236 then split1 ty n (splA (bl n x) []) M ct (load1 F M g 0)else .f
 |_=> .f
theorem conc_sVB(E:Env)(p:ByteArray):conc E (sV p.data.toList)= .string p:=by
 show Value.string (ba p.data.toList.length (strN p.data.toList))=_
 congr 1
 exact(ba_ext (by rw[strN_bl])).symm
theorem orc_split{P:Program}{ρ:Ren}(L:Lays.n146 P ρ)(hi9:(P.info? (ρ.t 9)).map (fun i=>(i.zero,i.size,i.bytes))=some (some (.string ByteArray.empty),1,16)){f ty g:Nat}(hf:ρ.f 146=f)(hty:ρ.t 9=ty)(hg:ρ.g 1=g)(hg1:g<1000)
 {fn:Func} (hfn:P.funcs[f]?=some fn) (hb:fn.body.isNone=false) (hn:(fn.name== "runtime.NumGoroutine")=false):OrcOk P f (splitO ty g):=by
 subst hf hty hg
 intro F args M ct v N ct' hgv E c w hr hglob hbig hf ha
 unfold splitO at hgv
 split at hgv
 ·rename_i n x m y;cases hq:Nat.beq m 2&&Nat.beq y 8236 with
  |false=>rw[hq]at hgv;cases hgv
  |true=>
   rw[hq,cond_true]at hgv;rw[Bool.and_eq_true,beqN,beqN]at hq;obtain rfl:=of_decide_eq_true hq.1;obtain rfl:=of_decide_eq_true hq.2;unfold split1 at hgv;split at hgv
   ·rename_i z hl;cases hlt:Nat.blt n 4294967281 with
    |false=>rw[hlt]at hgv;cases hgv
    |true=>
     rw[hlt,cond_true]at hgv;rw[bltN]at hlt;have hn1:=of_decide_eq_true hlt;injection hgv with e1 e2 e3
     subst e1 e2 e3;obtain⟨ty',n',ex,fz,str,d,cs,hbk,hgc⟩:=asCells_some (f:=none) hl (by simp);obtain⟨_,_,o,ho,arr,fr,rfl,hC⟩:=hr.has _ _ hbk;have hm:w.cell? ⟨ρ.g 1,0,none⟩=some (.int .i64 z):=by
      rw[(hglob _ hg1).1]at ho;have hcell:=hC.cell 0 _ hgc;rw[(hglob _ hg1).2]at hcell;simp only[World.cell?,ho,Option.isSome_none,Bool.false_eq_true,if_false];exact hcell
     refine⟨fn,hfn,hb,hn,?_⟩;have hcall:=Go.Proofs.Any.strings_Split L hi9 (ba n x) (ba 2 8236) z w (by rw[ba_size];exact hn1) hm (by rw[ba_size];omega);have hargs:(concs E [.s n x,.s 2 8236]).toArray=#[.string (ba n x),.string (ba 2 8236)]:=rfl;rw[hargs];refine hcall.mono ?_;rintro e w' ⟨rfl,rfl⟩;have hps:(Lib.splitB (ba 2 8236) 0 (Lib.countB (ba n x) (ba 2 8236)) (ba n x)).map (·.data.toList)=splA (bl n x) []:=by
      rw[Lib.splitB_data,ba_toList,ba_toList];show Lib.splitK (bl 2 8236) 0 (Lib.count (ba n x).data.toList (ba 2 8236).data.toList) (bl n x)=_;rw[ba_toList,ba_toList,show bl 2 8236=[44,32]from by decide];exact split_splA _ _ (Nat.le_refl _)
     have hcells:((Lib.splitB (ba 2 8236) 0 (Lib.countB (ba n x) (ba 2 8236)) (ba n x)).map Value.string).toArray=(concs E ((splA (bl n x) []).map sV)).toArray:=by
      rw[←hps,concs_map,List.map_map,List.map_map]
      congr 1
      exact List.map_congr_left fun p _=>(conc_sVB E p).symm
     have hlen:((splA (bl n x) []).map sV).length=Lib.countB (ba n x) (ba 2 8236)+1:=by
      rw[←hps,List.length_map,List.length_map];exact Lib.splitB_all _ (by rw[ba_size];omega) 0 _ _ rfl
     have hbd:bds c ((splA (bl n x) []).map sV):=(bds_iff c _).2 fun v hv=>by obtain⟨l,_,rfl⟩:=List.mem_map.1 hv;trivial
     obtain⟨E',hS,hE,hρ,hβ,hκ⟩:=hr.alloc (rowS (ρ.t 9) (splA (bl n x) [])) (.cells ((Lib.splitB (ba 2 8236) 0 (Lib.countB (ba n x) (ba 2 8236)) (ba n x)).map Value.string).toArray (ρ.t 9)) ct 0 (fun b=>c b∨b=ct)
      (hf ct (Nat.le_refl _)) (.inr rfl) (fun _ h=> .inl h) (list_bd hbd fun _ h=> .inl h) (w.alloc (.cells ((Lib.splitB (ba 2 8236) 0 (Lib.countB (ba n x) (ba 2 8236)) (ba n x)).map Value.string).toArray (ρ.t 9))) rfl rfl rfl rfl
      (fun E' he _ hβ _=>list_rel he hbd hβ hcells)
     refine⟨E',fun b=>c b∨b=ct,?_,hS,.inr rfl,grow_one c ct⟩;simp only[conc,hρ,hβ,hlen]
   ·cases hgv
 ·cases hgv
def maxQ(F:RO):Option (Nat×Int):=match roGet F 0 with
 |some (.cells ty n false fz true d c)=>bif Nat.beq n 1&&Nat.beq fz 1 then(match cell 1 d c 0 with
  |some (.i .i64 z)=>some (ty,z)
  |_=>none)else none
 |_=>none
theorem maxQ_some{F:RO}{ty:Nat}{z:Int}(h:maxQ F=some (ty,z)):∃d c,roGet F 0=some (.cells ty 1 false 1 true d c)∧cell 1 d c 0=some (.i .i64 z):=by
 unfold maxQ at h
 split at h
 ·rename_i ty' n fz d c hF;cases hh:Nat.beq n 1&&Nat.beq fz 1 with
  |false=>rw[hh]at h;cases h
  |true=>
   rw[hh,cond_true]at h;rw[Bool.and_eq_true,beqN,beqN]at hh;obtain rfl:=of_decide_eq_true hh.1;obtain rfl:=of_decide_eq_true hh.2;split at h
   ·rename_i z' hc;injection h with h;injection h with h1 h2
    subst h1 h2;exact⟨d,c,hF,hc⟩
   ·cases h
 ·cases h
def maxBlk(ty:Nat)(z:Int):Blk:= .cells ty 1 false 1 true [.i .i64 z] .e
theorem roGet_hd{x b:Nat}{blk:Blk}{R:RO}:roGet ((x,blk)::R) b=if x=b then some blk else roGet R b:=by
 show Bool.rec (motive:=fun _=>Option Blk) (roGet R b) (some blk) (Nat.beq x b)=_
 rw[bb,beqN]
 by_cases e:x=b
 ·rw[if_pos (by simpa using e),if_pos e]
 ·rw[if_neg (by simpa using e),if_neg e]
theorem errF_lt{F:RO}{L:List Tab}{gs:List Nat}{ty:Nat→Nat}{q:Nat→Nat×Nat×Nat}{k x:Nat}(h:tabsIn F L=true)(he:errsIn F gs=true)(hx:(roGet (errF (tabF L ty) q gs k) x).isSome=true):x<1000:=by
 obtain⟨y,hy⟩:=Option.isSome_iff_exists.1 hx
 rcases errF_get hy with hy|⟨i,hi,_⟩
 ·obtain⟨t,ht,e,_⟩:=tabF_get hy;subst e;exact(tabsIn_mem h t ht).1
 ·exact(errsIn_mem he x (List.mem_of_getElem? hi)).1
theorem rel_max{P:Program}{E:Env}{F:RO}{M:Mem}{c:Nat→Prop}{w:World}{L:List Tab}{gs:List Nat}(hr:Rel P E F M c w)(hglob:∀g,g<1000→E.ρ g=g∧E.β g=0)(h:tabsIn F L=true)(he:errsIn F gs=true)(hm:(maxQ F).isSome=true):
 ∃ty q tm z,Rel P (errE E F gs) ((0,maxBlk tm z)::errF (tabF L ty) q gs 1000) .e (fun x=>x<1000+gs.length) w:=by
 obtain⟨ty,q,h1⟩:=rel_errs hr hglob h he
 obtain⟨⟨tm,z⟩,hq⟩:=Option.isSome_iff_exists.1 hm
 obtain⟨d,cc,hF,hc⟩:=maxQ_some hq
 have hgl:∀g,g<1000→(errE E F gs).ρ g=g:=fun g hg=>((errE_ext E F gs).ρ g hg).trans (hglob g hg).1
 have hl:look F M 0=some (.cells tm 1 false 1 true d cc):=by
  rw[look_none_M (hr.apart 0 (by rw[hF];rfl))];exact hF
 obtain⟨_,hbd,obj,ho,arr,fr,rfl,hC⟩:=hr.has _ _ hl
 refine⟨ty,q,tm,z,⟨?_,?_,fun b hb=>rfl⟩⟩
 ·intro b blk hb;rw[look_none_M (show(Tr.e:Mem).get b=none from rfl),roGet_hd]at hb;by_cases e:0=b
  ·rw[if_pos e]at hb;subst e;obtain rfl:=Option.some.inj hb;refine⟨show 0<1000+gs.length by omega,?_,_,by rw[hgl 0 (by decide),←(hglob 0 (by decide)).1];exact ho,arr,fr,rfl,?_,?_,?_,fun hh=>by cases hh⟩
   ·intro k v hv;rw[cell_eq]at hv;split at hv
    ·obtain rfl:k=0:=by omega
     obtain rfl:=Option.some.inj hv;trivial
    ·cases hv
   ·intro k v hv;rw[cell_eq]at hv;split at hv
    ·obtain rfl:k=0:=by omega
     obtain rfl:=Option.some.inj hv;have:=hC.cell 0 _ hc;rw[(errE_ext E F gs).β 0 (show 0<1000 by decide),this];rfl
    ·cases hv
   ·have:=hC.size;rw[(errE_ext E F gs).β 0 (show 0<1000 by decide),(errE_ext E F gs).κ 0 (show 0<1000 by decide)];exact this
   ·rw[(errE_ext E F gs).β 0 (show 0<1000 by decide)];exact hC.free
  ·rw[if_neg e]at hb;exact h1.has b blk (by rw[look_none_M (show(Tr.e:Mem).get b=none from rfl)];exact hb)
 ·intro b b' g1 g2 e;have lt:∀x,(look ((0,maxBlk tm z)::errF (tabF L ty) q gs 1000) .e x).isSome→x<1000:=by
   intro x hx;rw[look_none_M (show(Tr.e:Mem).get x=none from rfl),roGet_hd]at hx;by_cases e:0=x
   ·omega
   ·rw[if_neg e]at hx;exact errF_lt h he hx
  rw[hgl b (lt b g1),hgl b' (lt b' g2)]at e;exact e
def knownX(L:List Tab)(gs:List Nat):RO→List V→Mem→Nat→RC:=fun F args M ct=>match args with|[]=>bif (tabsIn F L&&errsIn F gs)&&(maxQ F).isSome then .k (.b true) M ct else .f|_=> .f
theorem knownX_nil{F:RO}{L:List Tab}{gs:List Nat}(h:tabsIn F L=true)(h':errsIn F gs=true)(hm:(maxQ F).isSome=true)(M:Mem)(c:Nat):knownX L gs F [] M c= .k (.b true) M c:=by
 show(bif (tabsIn F L&&errsIn F gs)&&(maxQ F).isSome then RC.k (.b true) M c else .f)=_
 rw[h,h',hm];rfl
theorem orc_closed_max{P:Program}(hm:P.follows .mixedOrders=true){Φ:Nat→Option CF}(hΦ:PhiOk P Φ){fuel f n:Nat}{L:List Tab}{gs:List Nat}(hn:1000+gs.length=n)
 (h:∀ty q tm z,isT (runE Φ fuel ((0,maxBlk tm z)::errF (tabF L ty) q gs 1000) f n)=true):OrcOk P f (knownX L gs):=by
 subst hn
 intro F args M ct v N ct' hg E c w hr hglob hbig hf ha
 cases args with
 |cons a r=>cases hg
 |nil=>
  have hg':(bif (tabsIn F L&&errsIn F gs)&&(maxQ F).isSome then RC.k (.b true) M ct else .f)= .k v N ct':=hg;cases ht:(tabsIn F L&&errsIn F gs)&&(maxQ F).isSome with
  |false=>rw[ht]at hg';cases hg'
  |true=>
   rw[ht]at hg';rw[Bool.and_eq_true,Bool.and_eq_true]at ht;have hg2:RC.k (.b true) M ct= .k v N ct':=hg';injection hg2 with e1 e2 e3
   subst e1 e2 e3;obtain⟨ty,q,tm,z,hrel⟩:=rel_max hr hglob ht.1.1 ht.1.2 ht.2;obtain⟨M',ct2,hk⟩:=isT_some (h ty q tm z);have hgl:∀g,g<1000→(errE E F gs).ρ g=g∧(errE E F gs).β g=0:=fun g hg=>⟨((errE_ext E F gs).ρ g hg).trans (hglob g hg).1,((errE_ext E F gs).β g hg).trans (hglob g hg).2⟩;obtain⟨fn,h1,h2,h3,hC⟩:=callOk_of (rd:=none) (fn:=0) (F₀:=[]) hΦ (exec_sound hm hΦ fuel) ((0,maxBlk tm z)::errF (tabF L ty) q gs 1000) f [] .e (1000+gs.length) (.b true) M' ct2 hk (errE E F gs) (fun x=>x<1000+gs.length) w hrel hgl (fun g hg=>Nat.lt_of_lt_of_le hg (Nat.le_add_right _ _)) (fun b hb hc=>Nat.lt_irrefl _ (Nat.lt_of_lt_of_le hc hb)) trivial;refine⟨fn,h1,h2,h3,hC.mono ?_⟩;rintro e w' ⟨E',c',rfl,hS,hb,hG⟩;have hfr:∀r,r<w.heap.size→w'.heap[r]?=w.heap[r]?:=fun r hr'=>hS.frame r hr' (fun b hb=>by cases hb);have hhas:∀b blk,look F M b=some blk→c b∧bdBlk c blk∧ ∃o,w'.heap[E.ρ b]?=some o∧BlkRel P E b blk o:=by
    intro b blk hb;obtain⟨g1,g2,o,ho,g3⟩:=hr.has b blk hb;exact⟨g1,g2,o,by rw[hfr _ (Array.getElem?_eq_some_iff.1 ho).1];exact ho,g3⟩
   exact⟨E,c,rfl,⟨.refl c E,fun _ h=>h,⟨hhas,hr.inj,hr.apart⟩,fun b hb=> .inl ⟨b,hb,rfl⟩,fun r hr' _=>hfr r hr',hS.size,hS.os,hS.output,hS.tape⟩,trivial,.refl _ _⟩
theorem max_of{P:Program}{W:World}{C:Nat}{t:TypeId}(h:W.ShapedOpen P)(hg:0<P.globals.size)(h0:((begin P (fun _ _=>0) default).world.heap[0]?).bind Obj.row?=some (#[.int .i64 0],t))
 (hb:P.buildable t=true) (hc:P.cellTypes P.depth t=some [t]) (hu:P.underlying t=some (.int .i64)):(maxQ (heapF W C)).isSome=true:=by
 obtain⟨m,hm⟩:=Go.Proofs.cell_of_shapedOpen_int h hg h0 rfl hb hc hu
 obtain⟨cs,hh,hs,_⟩:=h.1 0 _ t hg h0
 have hs1:cs.size=1:=hs
 obtain⟨x,hx⟩:∃x,cs=#[x]:=Array.size_eq_one_iff.1 hs1
 subst hx
 have hx:x= .int .i64 m:=by
  unfold World.cell? at hm;rw[hh]at hm;exact Option.some.inj hm
 subst hx
 have hv2:vOf C (.int .i64 m)=some (.i .i64 m):=rfl
 have hcell:cell (#[Value.int .i64 m]).size [] (optTr ((#[Value.int .i64 m]).toList.map (vOf C)) 0 .e) 0=some (.i .i64 m):=(heap_cell (ty:=t)).2 ⟨_,rfl,hv2⟩
 have hcell':cell 1 [] (optTr ((#[Value.int .i64 m]).toList.map (vOf C)) 0 .e) 0=some (.i .i64 m):=hcell
 unfold maxQ
 rw[heapF_get,hh]
 show Option.isSome (bif Nat.beq 1 1&&Nat.beq 1 1 then(match cell 1 [] (optTr ((#[Value.int .i64 m]).toList.map (vOf C)) 0 .e) 0 with
  |some (.i .i64 z)=>some (t,z)
  |_=>none)else none)=true
 rw[hcell']
 rfl
theorem lift_shaped{H:Type}{enc:TypeId×Value→H}{C:Checked}{os:Os}{f:FuncId}{fn:Func}{s:ChangeSpec}{conds:List PathCond}{apart fresh handsOn again:Bool}{X:World→Array Value→Prop}
 (hX:∀(w w':World) (args:Array Value),w.heap=w'.heap→X w args→X w' args) (own:ownKnob C.prog.godebug=none) (started:os.Started) (noInit:C.prog.inits.idxOf? f=none) (hfn:C.prog.funcs[f]?=some fn)
 (wit:∃(w:World) (tape:Tape) (i:Input),w.os=os∧(w.forCall tape i).Shaped C.prog∧i.vars=[]∧Input.okWide C.prog (w.forCall tape i) .any w.heap.size f i∧
  ((s.pre enc C.prog fn conds apart (w.forCall tape i).memory i.args∧X (w.forCall tape i).memory i.args)∧sizedMet enc C.prog fn (OpenSpec.ofChange s) apart (w.forCall tape i).memory i.args)∧({}:Assume).holds C.prog (lone (Frame.enter C.prog f i.args .normal) [] (w.forCall tape i)))
 (k:∀(W:World) (base:Nat) (args:Array Value) (ds gs:List (DataW H)) (before:List MemPlace),W.ShapedOpen C.prog→
  (∀(j:Nat) t v,fn.params[j]?=some t→args[j]?=some v→Value.okWide C.prog W .any base t v)→DataW.Whole enc C.prog fn.params.toList s.vars apart W args.toList ds gs before→
  conds.all (PathCond.test C.prog ⟨fn.params.toList,ds,s.plain.varTypes C.prog,gs⟩)=true→(DataW.weightsEach C.prog (fn.params.toList++s.plain.varTypes C.prog) (ds++gs)).all (· ≤reachBytes)=true→X W args→
  Go.Calls C.prog f args W fun e W'=>∃v,e= .returned v∧s.post enc C.prog fn apart fresh handsOn again W args v W'):
 ReturnsInHanded {} C os f .any (fun w args=>(s.pre enc C.prog fn conds apart w args∧X w args)∧sizedMet enc C.prog fn (OpenSpec.ofChange s) apart w args) (s.post enc C.prog fn apart fresh handsOn again):=by
 refine returnsInHanded_of_calls own started noInit wit ?_
 intro w tape i _ hsh _ hok hpre _
 have hval:∀(j:Nat) t v,fn.params[j]?=some t→i.args[j]?=some v→Value.okWide C.prog (w.forCall tape i) .any w.heap.size t v:=by
  obtain⟨_,_,_,fn',h1,_,_,_,_,h2⟩:=hok;rw[hfn]at h1;obtain rfl:=Option.some.inj h1;exact h2
 obtain⟨⟨⟨ds,gs,before,hw,hc⟩,hx⟩,hz⟩:=hpre
 refine(k _ _ _ ds gs before hsh hval (DataW.Whole.of_heap (w':=w.forCall tape i) (by rfl) hw) hc (hz.weights hw) (hX _ _ _ (by rfl) hx)).mono ?_
 rintro e W' ⟨v,rfl,hp⟩
 exact ChangeSpec.post_blind hp
section
variable{P:Program}{E E':Env}{F:RO}{M M':Mem}{c c':Nat→Prop}{ct ct' nt:Nat}{w w':World}{t t':T}{d d':List Nat}{a:Act}{rd:Option Nat}{Bd:List Deferred}
end
noncomputable section
def beqB(a b:Bool):Bool:=bif a then b else !b
mutual
def veq:V→V→Bool
 | .b x,w=>match w with| .b y=>beqB x y|_=>false
 | .i k n,w=>match w with| .i j m=>sameK k j&&eqI n m|_=>false
 | .s n x,w=>match w with| .s m y=>Nat.beq n m&&Nat.beq x y|_=>false
 | .p b o,w=>match w with| .p b' o'=>Nat.beq b b'&&Nat.beq o o'|_=>false
 | .p0,w=>match w with| .p0=>true|_=>false
 | .l b o n k,w=>match w with| .l b' o' n' k'=>(Nat.beq b b'&&Nat.beq o o')&&(Nat.beq n n'&&Nat.beq k k')|_=>false
 | .u b o n e k,w=>match w with| .u b' o' n' e' k'=>(Nat.beq b b'&&Nat.beq o o')&&(Nat.beq n n'&&(Nat.beq e e'&&Nat.beq k k'))|_=>false
 | .ue b o n,w=>match w with| .ue b' o' n'=>Nat.beq b b'&&(Nat.beq o o'&&Nat.beq n n')|_=>false
 | .l0,w=>match w with| .l0=>true|_=>false
 | .m b,w=>match w with| .m b'=>Nat.beq b b'|_=>false
 | .m0,w=>match w with| .m0=>true|_=>false
 | .f f a d,w=>match w with| .f f' a' d'=>Nat.beq f f'&&(vseq a a'&&vseq d d')|_=>false
 | .y b,w=>match w with| .y b'=>Nat.beq b b'|_=>false
 | .f0,w=>match w with| .f0=>true|_=>false
 | .a t v,w=>match w with| .a t' v'=>Nat.beq t t'&&veq v v'|_=>false
 | .a0,w=>match w with| .a0=>true|_=>false
 | .g l,w=>match w with| .g l'=>vseq l l'|_=>false
 | .t l,w=>match w with| .t l'=>vseq l l'|_=>false
def vseq:List V→List V→Bool
 |[],w=>match w with|[]=>true|_=>false
 |x::r,w=>match w with|y::r'=>veq x y&&vseq r r'|[]=>false
end
theorem beqB_eq{a b:Bool}(h:beqB a b=true):a=b:=by cases a<;>cases b<;>first|rfl|cases h
theorem nbeq{a b:Nat}(h:Nat.beq a b=true):a=b:=Nat.eq_of_beq_eq_true h
theorem an2{a b:Bool}(h:(a&&b)=true):a=true∧b=true:=by simpa using h
mutual
theorem veq_eq:∀a b:V,veq a b=true→a=b
 | .b x,w,h=>by
   rw[veq.eq_def]at h;dsimp only at h;split at h
   ·rw[beqB_eq h]
   ·cases h
 | .i k n,w,h=>by
   rw[veq.eq_def]at h;dsimp only at h;split at h
   ·obtain⟨h1,h2⟩:=an2 h;rw[sameK_iff]at h1;rw[eqI_iff]at h2;rw[of_decide_eq_true h1,of_decide_eq_true h2]
   ·cases h
 | .s n x,w,h=>by
   rw[veq.eq_def]at h;dsimp only at h;split at h
   ·obtain⟨h1,h2⟩:=an2 h;rw[nbeq h1,nbeq h2]
   ·cases h
 | .p n x,w,h=>by
   rw[veq.eq_def]at h;dsimp only at h;split at h
   ·obtain⟨h1,h2⟩:=an2 h;rw[nbeq h1,nbeq h2]
   ·cases h
 | .p0,w,h=>by
   rw[veq.eq_def]at h;dsimp only at h;split at h
   ·rfl
   ·cases h
 | .l b o n k,w,h=>by
   rw[veq.eq_def]at h;dsimp only at h;split at h
   ·obtain⟨h1,h2⟩:=an2 h;obtain⟨h3,h4⟩:=an2 h1;obtain⟨h5,h6⟩:=an2 h2;rw[nbeq h3,nbeq h4,nbeq h5,nbeq h6]
   ·cases h
 | .u b o n e k,w,h=>by
   rw[veq.eq_def]at h;dsimp only at h;split at h
   ·obtain⟨h1,h2⟩:=an2 h;obtain⟨h3,h4⟩:=an2 h1;obtain⟨h5,h6⟩:=an2 h2;obtain⟨h7,h8⟩:=an2 h6;rw[nbeq h3,nbeq h4,nbeq h5,nbeq h7,nbeq h8]
   ·cases h
 | .ue b o n,w,h=>by
   rw[veq.eq_def]at h;dsimp only at h;split at h
   ·obtain⟨h1,h2⟩:=an2 h;obtain⟨h3,h4⟩:=an2 h2;rw[nbeq h1,nbeq h3,nbeq h4]
   ·cases h
 | .l0,w,h=>by
   rw[veq.eq_def]at h;dsimp only at h;split at h
   ·rfl
   ·cases h
 | .m b,w,h=>by
   rw[veq.eq_def]at h;dsimp only at h;split at h
   ·rw[nbeq h]
   ·cases h
 | .m0,w,h=>by
   rw[veq.eq_def]at h;dsimp only at h;split at h
   ·rfl
   ·cases h
 | .f f a d,w,h=>by
   rw[veq.eq_def]at h;dsimp only at h;split at h
   ·obtain⟨h1,h2⟩:=an2 h;obtain⟨h3,h4⟩:=an2 h2;rw[nbeq h1,vseq_eq _ _ h3,vseq_eq _ _ h4]
   ·cases h
 | .y b,w,h=>by
   rw[veq.eq_def]at h;dsimp only at h;split at h
   ·rw[nbeq h]
   ·cases h
 | .f0,w,h=>by
   rw[veq.eq_def]at h;dsimp only at h;split at h
   ·rfl
   ·cases h
 | .a t v,w,h=>by
   rw[veq.eq_def]at h;dsimp only at h;split at h
   ·obtain⟨h1,h2⟩:=an2 h;rw[nbeq h1,veq_eq _ _ h2]
   ·cases h
 | .a0,w,h=>by
   rw[veq.eq_def]at h;dsimp only at h;split at h
   ·rfl
   ·cases h
 | .g l,w,h=>by
   rw[veq.eq_def]at h;dsimp only at h;split at h
   ·rw[vseq_eq _ _ h]
   ·cases h
 | .t l,w,h=>by
   rw[veq.eq_def]at h;dsimp only at h;split at h
   ·rw[vseq_eq _ _ h]
   ·cases h
theorem vseq_eq:∀a b:List V,vseq a b=true→a=b
 |[],w,h=>by
  rw[vseq.eq_def]at h;dsimp only at h;split at h
  ·rfl
  ·cases h
 |x::r,w,h=>by
  rw[vseq.eq_def]at h;dsimp only at h;split at h
  ·obtain⟨h1,h2⟩:=an2 h;rw[veq_eq _ _ h1,vseq_eq _ _ h2]
  ·cases h
end
def oveq:Option V→Option V→Bool
 |none,none=>true
 |some x,some y=>veq x y
 |_,_=>false
theorem oveq_eq{a b:Option V}(h:oveq a b=true):a=b:=by
 cases a<;>cases b<;>first|rfl|cases h|exact congrArg some (veq_eq _ _ h)
def treq:T→T→Bool
 | .e,w=>match w with| .e=>true|_=>false
 | .n l v r,w=>match w with| .n l' v' r'=>oveq v v'&&(treq l l'&&treq r r')|_=>false
theorem treq_eq:∀a b:T,treq a b=true→a=b
 | .e,w,h=>by
   rw[treq.eq_def]at h;dsimp only at h;split at h
   ·rfl
   ·cases h
 | .n l v r,w,h=>by
   rw[treq.eq_def]at h;dsimp only at h;split at h
   ·obtain⟨h1,h2⟩:=an2 h;obtain⟨h3,h4⟩:=an2 h2;rw[oveq_eq h1,treq_eq _ _ h3,treq_eq _ _ h4]
   ·cases h
def eseq:List (V×V×Nat)→List (V×V×Nat)→Bool
 |[],w=>match w with|[]=>true|_=>false
 |x::r,w=>match w with|y::r'=>(veq x.1 y.1&&(veq x.2.1 y.2.1&&Nat.beq x.2.2 y.2.2))&&eseq r r'|[]=>false
theorem eseq_eq:∀a b,eseq a b=true→a=b
 |[],w,h=>by
  rw[eseq.eq_def]at h;dsimp only at h;split at h
  ·rfl
  ·cases h
 |(x1,x2,x3)::r,w,h=>by
  rw[eseq.eq_def]at h;dsimp only at h;split at h
  ·rename_i y r';obtain⟨y1,y2,y3⟩:=y;obtain⟨h1,h2⟩:=an2 h;obtain⟨h3,h4⟩:=an2 h1;obtain⟨h5,h6⟩:=an2 h4;have a1:x1=y1:=veq_eq _ _ h3;have a2:x2=y2:=veq_eq _ _ h5;have a3:x3=y3:=nbeq h6;rw[a1,a2,a3,eseq_eq _ _ h2]
  ·cases h
def bkeq:Blk→Blk→Bool
 | .cells ty n ex fz str d t,w=>match w with| .cells ty' n' ex' fz' str' d' t'=>(Nat.beq ty ty'&&Nat.beq n n')&&((beqB ex ex'&&Nat.beq fz fz')&&(beqB str str'&&(vseq d d'&&treq t t')))|_=>false
 | .map es k,w=>match w with| .map es' k'=>Nat.beq k k'&&eseq es es'|_=>false
 |_,_=>false
theorem bkeq_eq{a b:Blk}(h:bkeq a b=true):a=b:=by
 cases a with
 |cells ty n ex fz str d t=>
  cases b with
  |cells ty' n' ex' fz' str' d' t'=>
   obtain⟨h1,h2⟩:=an2 (show((Nat.beq ty ty'&&Nat.beq n n')&&((beqB ex ex'&&Nat.beq fz fz')&&(beqB str str'&&(vseq d d'&&treq t t'))))=true from h);obtain⟨h3,h4⟩:=an2 h1;obtain⟨h5,h6⟩:=an2 h2;obtain⟨h7,h8⟩:=an2 h5;obtain⟨h9,h10⟩:=an2 h6;obtain⟨h11,h12⟩:=an2 h10;rw[nbeq h3,nbeq h4,beqB_eq h7,nbeq h8,beqB_eq h9,vseq_eq _ _ h11,treq_eq _ _ h12]
  |_=>cases h
 |map es k=>
  cases b with
  |map es' k'=>
   obtain⟨h1,h2⟩:=an2 (show(Nat.beq k k'&&eseq es es')=true from h);rw[nbeq h1,eseq_eq _ _ h2]
  |_=>cases h
 |_=>cases h
def obk(o:Option Blk)(blk:Blk):Bool:=match o with
 |some x=>bkeq x blk
 |none=>false
theorem obk_eq{o:Option Blk}{blk:Blk}(h:obk o blk=true):o=some blk:=by
 cases o with
 |none=>cases h
 |some x=>exact congrArg some (bkeq_eq h)
def holds(M:Mem):List (Nat×Blk)→Bool
 |[]=>true
 |(b,blk)::r=>obk (M.get b) blk&&holds M r
theorem holds_mem{M:Mem}:∀{l:List (Nat×Blk)},holds M l=true→ ∀b blk,(b,blk)∈l→M.get b=some blk
 |[],h,b,blk,hm=>by cases hm
 |(b',blk')::r,h,b,blk,hm=>by
  obtain⟨h1,h2⟩:=an2 (show(obk (M.get b') blk'&&holds M r)=true from h);rcases List.mem_cons.1 hm with e|e
  ·injection e with e1 e2
   subst e1 e2;exact obk_eq h1
  ·exact holds_mem h2 b blk e
def setAll(M:Mem):List (Nat×Blk)→Mem
 |[]=>M
 |(b,blk)::r=>(M.set b blk).force fun M=>setAll M r
theorem setAll_get:∀(l:List (Nat×Blk)) (M:Mem) (b:Nat) (blk:Blk),(setAll M l).get b=some blk→(b,blk)∈l∨(M.get b=some blk∧ ∀x∈l,x.1≠b)
 |[],M,b,blk,h=> .inr ⟨h,fun x hx=>by cases hx⟩
 |(b',blk')::r,M,b,blk,h=>by
  have h':(setAll (M.set b' blk') r).get b=some blk:=by
   have e:setAll M ((b',blk')::r)=(M.set b' blk').force fun M=>setAll M r:=rfl;rw[e,Tr.force_eq]at h;exact h
  rcases setAll_get r _ b blk h' with h1|⟨h1,h2⟩
  ·exact .inl (List.mem_cons_of_mem _ h1)
  ·rw[Tr.get_set]at h1;by_cases e:b=b'
   ·subst e;rw[if_pos rfl]at h1;obtain rfl:=Option.some.inj h1;exact .inl (List.mem_cons_self ..)
   ·rw[if_neg e]at h1
    exact .inr ⟨h1,fun x hx=>by
     rcases List.mem_cons.1 hx with rfl|hx
     ·exact fun e'=>e e'.symm
     ·exact h2 x hx⟩
end
end
end Go.Proofs.YtakeaojhkcbheaaGreatDoor.Ev
