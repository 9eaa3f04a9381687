/- What is proved here: pieces of the evaluator's soundness: if the evaluator comes to a value, the model's run comes to it, for every world and tape; no conditions beyond the hypotheses of each theorem. -/
import Derived.Test.YtmbpllipombieaaDoorEv7
set_option linter.unusedSimpArgs false
set_option linter.unusedVariables false
set_option linter.defProp false
set_option maxRecDepth 10000
set_option maxHeartbeats 16000000
namespace Go.Proofs.YtmbpllipombieaaDoor.Ev
open Go
noncomputable section
def GM(p:dD):Prop:=(∀q∈p.inp,q.1.length≤1000000)∧(∀q∈p.out,q.1.length≤1000000)∧(∀x∈p.cmds,J9 x)∧p.inp.length≤1000000∧p.out.length≤1000000
theorem qT(w:List Pc):decide ((0:Int)<(w.length:Int))=hasW w:=by unfold hasW;congr 1;exact propext (by omega)
theorem Fc(n:Nat):decide ((n:Int)<1)=decide (n<1):=by congr 1;exact propext (by omega)
theorem az5(n:Nat):decide ((6:Int)<(n:Int))=decide (6<n):=by congr 1;exact propext (by omega)
theorem w40(Φ:Nat→Option CF)(h:Φ 40=some c40)(h63:Φ 63=some Vn)(h62:Φ 62=some IU)(h80:Φ 80=some IV)(h81:Φ 81=some IW)(h82:Φ 82=some QT)(h90:Φ 90=some IX)(h83:Φ 83=some Hd)(h61:Φ 61=some F5)(h77:Φ 77=some (.orc (aO h77))){F:RO}{M:Mem}{c:Nat}(ok:cK F M c){e:List V}{p:dD}(hp:P1 F M c e p)(hs:GM p):
 Calls Φ F 40 [.g e] M c fun r M' c'=>r= .b (jI p)∧Gr c M c' M':=by
 refine aN h ?_
 obtain⟨vi,vo,vc,rfl,hi,ho,hc⟩:=hp
 obtain⟨hsi,hso,hsc,_,_⟩:=hs
 obtain⟨y1,y2,_⟩:=hi.one
 obtain⟨z1,z2,_⟩:=ho.one
 obtain⟨x1,_,_⟩:=hc.one
 have hG:flatten (V.g [.i .i64 p.join,.b p.nt,vi,vo,.b p.beh,vc])=[.i .i64 p.join,.b p.nt,vi,vo,.b p.beh,vc]:=rfl
 have hA:aL [.i .i64 p.join,.b p.nt,vi,vo,.b p.beh,vc]=true:=by
  rw[aw,aw,aw,aw,aw,aw,bZ,y1,z1,x1];rfl
 have gX:=(Gr.refl ok).set c (af 39 [.i .i64 p.join,.b p.nt,vi,vo,.b p.beh,vc]) (aj _) (ay _) (aH _)
 have m0:(M.set c (af 39 [.i .i64 p.join,.b p.nt,vi,vo,.b p.beh,vc])).get c=some (af 39 [.i .i64 p.join,.b p.nt,vi,vo,.b p.beh,vc]):=am _ _ _
 have hiX:=hi.grow gX
 have hoX:=ho.grow gX
 have hcX:=hc.grow gX
 have k2:load1 F (M.set c (af 39 [.i .i64 p.join,.b p.nt,vi,vo,.b p.beh,vc])) c 2=some vi:=au m0 2
 have k3:load1 F (M.set c (af 39 [.i .i64 p.join,.b p.nt,vi,vo,.b p.beh,vc])) c 3=some vo:=au m0 3
 have k4:load1 F (M.set c (af 39 [.i .i64 p.join,.b p.nt,vi,vo,.b p.beh,vc])) c 4=some (.b p.beh):=au m0 4
 have k5:load1 F (M.set c (af 39 [.i .i64 p.join,.b p.nt,vi,vo,.b p.beh,vc])) c 5=some vc:=au m0 5
 have okX:=gX.ok ok
 have hfr:=okX.free
 have ni:=hi.len
 have no:=ho.len
 have nc:=hc.len
 have di:=qT p.inp
 have do':=qT p.out
 have dl:=Fc p.cmds.length
 have dg:=az5 p.cmds.length
 have l2:loadN F (M.set c (af 39 [.i .i64 p.join,.b p.nt,vi,vo,.b p.beh,vc])) c 2 1=some [vi]:=bW M c 2 1 39 [.i .i64 p.join,.b p.nt,vi,vo,.b p.beh,vc] (by simp)
 have l3:loadN F (M.set c (af 39 [.i .i64 p.join,.b p.nt,vi,vo,.b p.beh,vc])) c 3 1=some [vo]:=bW M c 3 1 39 [.i .i64 p.join,.b p.nt,vi,vo,.b p.beh,vc] (by simp)
 have PO:jI p=(!decide (p.cmds.length<1)&&(!decide (6<p.cmds.length)&&(!(p.beh&& !hasW p.out)&&(!(hasW p.inp&& !cP p.inp)&&(!(hasW p.out&& !cP p.out)&&p.cmds.all (zg p.cmds.length (hasW p.inp||hasW p.out))))))):=rfl
 have LAST:∀(M1:Mem) (c1:Nat) (u:List (Option V)),Gr (c+1) (M.set c (af 39 [.i .i64 p.join,.b p.nt,vi,vo,.b p.beh,vc])) c1 M1→jI p=p.cmds.all (zg p.cmds.length (hasW p.inp||hasW p.out))→Wp xw (K Φ none 40 F) (.mk ((Gg u (.p c 0) (.b (hasW p.inp)) (.b (hasW p.out)))) [] M1 c1) (nk F [.t (.r .h)] fun r M' c'=>r= .b (jI p)∧Gr c M c' M'):=by
  intro M1 c1 u g hpo;refine m40 Φ h63 h62 h80 h81 h82 h90 h83 h61 h77 (g.ok okX) (by have:=g.le;omega) (hcX.grow g) hsc ((g.load1 (ay _) 5).trans k5) (hasW p.inp) (hasW p.out) u _ ?_;intro u M2 c2 g2;simp only[WX];exact⟨by rw[hpo],gX.trans (g.trans g2)⟩
 have h0:aL [vi]=true∧aL [vo]=true:=⟨by rw[aw,bZ,y1];rfl,by rw[aw,bZ,z1];rfl⟩
 obtain⟨hA1,hA2⟩:=h0
 simp only[WX,Nat.reduceAdd,e40,aI5,aI6,aI7,aI8,hG,y1,z1,x1,Bool.and_self,k2,k3,k5,ni,no,nc]
 generalize M.set c (af 39 [.i .i64 p.join,.b p.nt,vi,vo,.b p.beh,vc])=X at gX m0 hiX hoX hcX k2 k3 k4 k5 okX hfr l2 l3 LAST⊢
 have gX0:=gX
 have gX:=gX.up (show c+1≤c+13 by omega)
 by_cases n1:p.cmds.length<1
 ·rw[ah n1]at dl PO;simp only[WX,rn,di,do',dl];exact⟨by rw[PO];rfl,gX⟩
 rw[ag n1]at dl PO
 by_cases n6:6<p.cmds.length
 ·rw[ah n6]at dg PO;simp only[WX,rn,k5,nc,di,do',dl,dg];exact⟨by rw[PO];rfl,gX⟩
 rw[ag n6]at dg PO
 generalize hasW p.inp=I at di PO LAST
 generalize hasW p.out=O at do' PO LAST
 generalize p.beh=B at k4 PO
 have hG1:∀v,flatten (V.g [v])=[v]:=fun _=>rfl
 have INP:∀(M1:Mem) (c1:Nat),Gr (c+1) X c1 M1→lw (cT (iu Φ) F 61 [.g [vi]] M1 c1 (Φ 61)) fun r M' c'=>r= .b (cP p.inp)∧Gr (c+1) X c' M':=fun M1 c1 g=>(w61 Φ h61 h77 (g.ok okX) (hiX.grow g) hsi).mono (by rintro r M2 c2 ⟨h1,h2⟩;exact⟨h1,g.trans h2⟩)
 have OUT:∀(M1:Mem) (c1:Nat),Gr (c+1) X c1 M1→lw (cT (iu Φ) F 61 [.g [vo]] M1 c1 (Φ 61)) fun r M' c'=>r= .b (cP p.out)∧Gr (c+1) X c' M':=fun M1 c1 g=>(w61 Φ h61 h77 (g.ok okX) (hoX.grow g) hso).mono (by rintro r M2 c2 ⟨h1,h2⟩;exact⟨h1,g.trans h2⟩)
 have gR:Gr (c+1) X (c+13) X:=(Gr.refl okX).up (by omega)
 have L3:∀(M1:Mem) (c1:Nat),Gr (c+1) X c1 M1→loadN F M1 c 3 1=some [vo]:=fun M1 c1 g=>(g.loadN (ay _) _ _).trans l3
 cases O with
 |false=>
  cases B with
  |true=>
   simp only[WX,rn,k4,k5,nc,di,do',dl,dg];exact⟨by rw[PO];rfl,gX⟩
  |false=>
   cases I with
   |false=>
    simp only[WX,k4,k5,nc,di,do',dl,dg];exact LAST X _ (X1 (G1 (X1 (G2 (bD (bK (bB (X8 (X2 []))))))))) gR (by rw[PO];rfl)
   |true=>
    simp only[WX,k4,k5,nc,di,do',dl,dg,l2];refine aD ((INP _ _ gR).mono ?_);rintro r M2 c2 ⟨rfl,g2⟩;cases hf:cP p.inp with
    |true=>
     rw[hf]at PO;simp only[WX];exact LAST M2 c2 (X1 (G1 (X1 (G2 (bD (bK (bB (X8 (X2 []))))))))) g2 (by rw[PO];rfl)
    |false=>
     rw[hf]at PO;simp only[WX,rn];exact⟨by rw[PO];rfl,gX0.trans g2⟩
 |true=>
  have PO:jI p=(!(I&& !cP p.inp)&&(!!cP p.out&&p.cmds.all (zg p.cmds.length (I||true)))):=by rw[PO];cases B<;>rfl
  cases B
  all_goals
   cases I with
   |false=>
    simp only[WX,k4,k5,nc,di,do',dl,dg,l3];refine aD ((OUT _ _ gR).mono ?_);rintro r M2 c2 ⟨rfl,g2⟩;cases hf:cP p.out with
    |true=>
     rw[hf]at PO;simp only[WX];exact LAST M2 c2 (X1 (G1 (X1 (G2 (bD (bK (bB (X8 (X2 []))))))))) g2 (by rw[PO];rfl)
    |false=>
     rw[hf]at PO;simp only[WX,rn];exact⟨by rw[PO];rfl,gX0.trans g2⟩
   |true=>
    simp only[WX,k4,k5,nc,di,do',dl,dg,l2];refine aD ((INP _ _ gR).mono ?_);rintro r M2 c2 ⟨rfl,g2⟩;cases hf:cP p.inp with
    |true=>
     rw[hf]at PO;have l3':=L3 M2 c2 g2;simp only[WX,l3'];refine aD ((OUT _ _ g2).mono ?_);rintro r M3 c3 ⟨rfl,g3⟩;cases hf:cP p.out with
     |true=>
      rw[hf]at PO;simp only[WX];exact LAST M3 c3 (X1 (G1 (X1 (G2 (bD (bK (bB (X8 (X2 []))))))))) g3 (by rw[PO];rfl)
     |false=>
      rw[hf]at PO;simp only[WX,rn];exact⟨by rw[PO];rfl,gX0.trans g3⟩
    |false=>
     rw[hf]at PO;simp only[WX,rn];exact⟨by rw[PO];rfl,gX0.trans g2⟩
abbrev aE2(u:List (Option V))(x1 x3 x4:V):T:=(.n (.n (.n (.n (.n (aq u 127 63 191 31 159 95 223) (uO u 15) (aq u 143 79 207 47 175 111 239)) (uO u 7) (.n (aq u 135 71 199 39 167 103 231) (uO u 23) (aq u 151 87 215 55 183 119 247))) (some x3) (.n (.n (aq u 131 67 195 35 163 99 227) (uO u 19) (aq u 147 83 211 51 179 115 243)) (uO u 11) (.n (aq u 139 75 203 43 171 107 235) (uO u 27) (aq u 155 91 219 59 187 123 251)))) (some x1) (.n (.n (.n (aq u 129 65 193 33 161 97 225) (uO u 17) (aq u 145 81 209 49 177 113 241)) (uO u 9) (.n (aq u 137 73 201 41 169 105 233) (uO u 25) (aq u 153 89 217 57 185 121 249))) (uO u 5) (.n (.n (aq u 133 69 197 37 165 101 229) (uO u 21) (aq u 149 85 213 53 181 117 245)) (uO u 13) (.n (aq u 141 77 205 45 173 109 237) (uO u 29) (aq u 157 93 221 61 189 125 253))))) (uO u 0) (.n (.n (.n (.n (aq u 128 64 192 32 160 96 224) (uO u 16) (aq u 144 80 208 48 176 112 240)) (uO u 8) (.n (aq u 136 72 200 40 168 104 232) (uO u 24) (aq u 152 88 216 56 184 120 248))) (some x4) (.n (.n (aq u 132 68 196 36 164 100 228) (uO u 20) (aq u 148 84 212 52 180 116 244)) (uO u 12) (.n (aq u 140 76 204 44 172 108 236) (uO u 28) (aq u 156 92 220 60 188 124 252)))) (uO u 2) (.n (.n (.n (aq u 130 66 194 34 162 98 226) (uO u 18) (aq u 146 82 210 50 178 114 242)) (uO u 10) (.n (aq u 138 74 202 42 170 106 234) (uO u 26) (aq u 154 90 218 58 186 122 250))) (uO u 6) (.n (.n (aq u 134 70 198 38 166 102 230) (uO u 22) (aq u 150 86 214 54 182 118 246)) (uO u 14) (.n (aq u 142 78 206 46 174 110 238) (uO u 30) (aq u 158 94 222 62 190 126 254))))))
abbrev Tp(u:List (Option V))(x2:V):T:=(.n (.n (.n (.n (.n (aq u 127 63 191 31 159 95 223) (uO u 15) (aq u 143 79 207 47 175 111 239)) (uO u 7) (.n (aq u 135 71 199 39 167 103 231) (uO u 23) (aq u 151 87 215 55 183 119 247))) (uO u 3) (.n (.n (aq u 131 67 195 35 163 99 227) (uO u 19) (aq u 147 83 211 51 179 115 243)) (uO u 11) (.n (aq u 139 75 203 43 171 107 235) (uO u 27) (aq u 155 91 219 59 187 123 251)))) (uO u 1) (.n (.n (.n (aq u 129 65 193 33 161 97 225) (uO u 17) (aq u 145 81 209 49 177 113 241)) (uO u 9) (.n (aq u 137 73 201 41 169 105 233) (uO u 25) (aq u 153 89 217 57 185 121 249))) (uO u 5) (.n (.n (aq u 133 69 197 37 165 101 229) (uO u 21) (aq u 149 85 213 53 181 117 245)) (uO u 13) (.n (aq u 141 77 205 45 173 109 237) (uO u 29) (aq u 157 93 221 61 189 125 253))))) (uO u 0) (.n (.n (.n (.n (aq u 128 64 192 32 160 96 224) (uO u 16) (aq u 144 80 208 48 176 112 240)) (uO u 8) (.n (aq u 136 72 200 40 168 104 232) (uO u 24) (aq u 152 88 216 56 184 120 248))) (uO u 4) (.n (.n (aq u 132 68 196 36 164 100 228) (uO u 20) (aq u 148 84 212 52 180 116 244)) (uO u 12) (.n (aq u 140 76 204 44 172 108 236) (uO u 28) (aq u 156 92 220 60 188 124 252)))) (some x2) (.n (.n (.n (aq u 130 66 194 34 162 98 226) (uO u 18) (aq u 146 82 210 50 178 114 242)) (uO u 10) (.n (aq u 138 74 202 42 170 106 234) (uO u 26) (aq u 154 90 218 58 186 122 250))) (uO u 6) (.n (.n (aq u 134 70 198 38 166 102 230) (uO u 22) (aq u 150 86 214 54 182 118 246)) (uO u 14) (.n (aq u 142 78 206 46 174 110 238) (uO u 30) (aq u 158 94 222 62 190 126 254))))))
abbrev Tq(u:List (Option V))(x1 x3 x4 x9:V):T:=(.n (.n (.n (.n (.n (aq u 127 63 191 31 159 95 223) (uO u 15) (aq u 143 79 207 47 175 111 239)) (uO u 7) (.n (aq u 135 71 199 39 167 103 231) (uO u 23) (aq u 151 87 215 55 183 119 247))) (some x3) (.n (.n (aq u 131 67 195 35 163 99 227) (uO u 19) (aq u 147 83 211 51 179 115 243)) (uO u 11) (.n (aq u 139 75 203 43 171 107 235) (uO u 27) (aq u 155 91 219 59 187 123 251)))) (some x1) (.n (.n (.n (aq u 129 65 193 33 161 97 225) (uO u 17) (aq u 145 81 209 49 177 113 241)) (some x9) (.n (aq u 137 73 201 41 169 105 233) (uO u 25) (aq u 153 89 217 57 185 121 249))) (uO u 5) (.n (.n (aq u 133 69 197 37 165 101 229) (uO u 21) (aq u 149 85 213 53 181 117 245)) (uO u 13) (.n (aq u 141 77 205 45 173 109 237) (uO u 29) (aq u 157 93 221 61 189 125 253))))) (uO u 0) (.n (.n (.n (.n (aq u 128 64 192 32 160 96 224) (uO u 16) (aq u 144 80 208 48 176 112 240)) (uO u 8) (.n (aq u 136 72 200 40 168 104 232) (uO u 24) (aq u 152 88 216 56 184 120 248))) (some x4) (.n (.n (aq u 132 68 196 36 164 100 228) (uO u 20) (aq u 148 84 212 52 180 116 244)) (uO u 12) (.n (aq u 140 76 204 44 172 108 236) (uO u 28) (aq u 156 92 220 60 188 124 252)))) (uO u 2) (.n (.n (.n (aq u 130 66 194 34 162 98 226) (uO u 18) (aq u 146 82 210 50 178 114 242)) (uO u 10) (.n (aq u 138 74 202 42 170 106 234) (uO u 26) (aq u 154 90 218 58 186 122 250))) (uO u 6) (.n (.n (aq u 134 70 198 38 166 102 230) (uO u 22) (aq u 150 86 214 54 182 118 246)) (uO u 14) (.n (aq u 142 78 206 46 174 110 238) (uO u 30) (aq u 158 94 222 62 190 126 254))))))
abbrev aE3(u:List (Option V))(x1:V):T:=(.n (.n (.n (.n (.n (aq u 127 63 191 31 159 95 223) (uO u 15) (aq u 143 79 207 47 175 111 239)) (uO u 7) (.n (aq u 135 71 199 39 167 103 231) (uO u 23) (aq u 151 87 215 55 183 119 247))) (uO u 3) (.n (.n (aq u 131 67 195 35 163 99 227) (uO u 19) (aq u 147 83 211 51 179 115 243)) (uO u 11) (.n (aq u 139 75 203 43 171 107 235) (uO u 27) (aq u 155 91 219 59 187 123 251)))) (some x1) (.n (.n (.n (aq u 129 65 193 33 161 97 225) (uO u 17) (aq u 145 81 209 49 177 113 241)) (uO u 9) (.n (aq u 137 73 201 41 169 105 233) (uO u 25) (aq u 153 89 217 57 185 121 249))) (uO u 5) (.n (.n (aq u 133 69 197 37 165 101 229) (uO u 21) (aq u 149 85 213 53 181 117 245)) (uO u 13) (.n (aq u 141 77 205 45 173 109 237) (uO u 29) (aq u 157 93 221 61 189 125 253))))) (uO u 0) (.n (.n (.n (.n (aq u 128 64 192 32 160 96 224) (uO u 16) (aq u 144 80 208 48 176 112 240)) (uO u 8) (.n (aq u 136 72 200 40 168 104 232) (uO u 24) (aq u 152 88 216 56 184 120 248))) (uO u 4) (.n (.n (aq u 132 68 196 36 164 100 228) (uO u 20) (aq u 148 84 212 52 180 116 244)) (uO u 12) (.n (aq u 140 76 204 44 172 108 236) (uO u 28) (aq u 156 92 220 60 188 124 252)))) (uO u 2) (.n (.n (.n (aq u 130 66 194 34 162 98 226) (uO u 18) (aq u 146 82 210 50 178 114 242)) (uO u 10) (.n (aq u 138 74 202 42 170 106 234) (uO u 26) (aq u 154 90 218 58 186 122 250))) (uO u 6) (.n (.n (aq u 134 70 198 38 166 102 230) (uO u 22) (aq u 150 86 214 54 182 118 246)) (uO u 14) (.n (aq u 142 78 206 46 174 110 238) (uO u 30) (aq u 158 94 222 62 190 126 254))))))
abbrev bH2(u:List (Option V))(x1 x3:V):T:=(.n (.n (.n (.n (.n (aq u 127 63 191 31 159 95 223) (uO u 15) (aq u 143 79 207 47 175 111 239)) (uO u 7) (.n (aq u 135 71 199 39 167 103 231) (uO u 23) (aq u 151 87 215 55 183 119 247))) (some x3) (.n (.n (aq u 131 67 195 35 163 99 227) (uO u 19) (aq u 147 83 211 51 179 115 243)) (uO u 11) (.n (aq u 139 75 203 43 171 107 235) (uO u 27) (aq u 155 91 219 59 187 123 251)))) (some x1) (.n (.n (.n (aq u 129 65 193 33 161 97 225) (uO u 17) (aq u 145 81 209 49 177 113 241)) (uO u 9) (.n (aq u 137 73 201 41 169 105 233) (uO u 25) (aq u 153 89 217 57 185 121 249))) (uO u 5) (.n (.n (aq u 133 69 197 37 165 101 229) (uO u 21) (aq u 149 85 213 53 181 117 245)) (uO u 13) (.n (aq u 141 77 205 45 173 109 237) (uO u 29) (aq u 157 93 221 61 189 125 253))))) (uO u 0) (.n (.n (.n (.n (aq u 128 64 192 32 160 96 224) (uO u 16) (aq u 144 80 208 48 176 112 240)) (uO u 8) (.n (aq u 136 72 200 40 168 104 232) (uO u 24) (aq u 152 88 216 56 184 120 248))) (uO u 4) (.n (.n (aq u 132 68 196 36 164 100 228) (uO u 20) (aq u 148 84 212 52 180 116 244)) (uO u 12) (.n (aq u 140 76 204 44 172 108 236) (uO u 28) (aq u 156 92 220 60 188 124 252)))) (uO u 2) (.n (.n (.n (aq u 130 66 194 34 162 98 226) (uO u 18) (aq u 146 82 210 50 178 114 242)) (uO u 10) (.n (aq u 138 74 202 42 170 106 234) (uO u 26) (aq u 154 90 218 58 186 122 250))) (uO u 6) (.n (.n (aq u 134 70 198 38 166 102 230) (uO u 22) (aq u 150 86 214 54 182 118 246)) (uO u 14) (.n (aq u 142 78 206 46 174 110 238) (uO u 30) (aq u 158 94 222 62 190 126 254))))))
def ae3:CC:=(.reg [(aa a1 (.bx 39 6 z0)),(qq a2 (.mv xF))])
def aI9:=wu ae3.eq_1
def ae4:CC:=(.reg [(qq dT (.fa 5 z1)),(qq eP (.ld1 ft)),(qq fg (.ln .slice dL)),(qq eQ (.bi .lss eN (x6 1))),(qq fh (.mv ed)),(aA dM (.fa 5 z1) fh),(aA fu (.ld1 gK) fh),(aA gL (.ln .slice iA) fh),(aA fy (.bi .gtr iB (x6 6)) fh),(qq jr (.pk gb xT iC)),(qq gH (.mv l8)),(aA fY (.fa 4 z1) gH),(aA jt (.ld1 kL) gH),(aA gU (.mv lA) gH),(aF jX (.fa 3 z1) gU),(aF gv (.fa 0 kM) gU),(aF kd (.ld1 lB) gU),(aF gV (.ln .slice nl) gU),(aF lE (.bi .eql nn (x6 0)) gU),(aA ip (.pk lg nK xF) gH),(qq ke (.pk la xT ot))])
def aJ0:=wu ae4.eq_1
def ae5:CC:=(.seq (.reg [(qq a2 (.mv xF))]) .ret)
def Gv:=wu ae5.eq_1
def ae6:CC:=(.seq ae4 (.cond oz ae5 .skip))
def aJ1:=wu ae6.eq_1
def ae7:CC:=(.reg [(qq lj (.fa 2 z1)),(qq np (.fa 0 pq)),(qq nM (.ld1 pz)),(qq jY (.ln .slice ru)),(qq jZ (.bi .gtr rv (x6 0))),(qq nN (.mv rx)),(aF k8 (.fa 2 z1) nN),(aF nq (.ldn 1 qF) nN),(lW mN (.call 64 [rU]) nN),(aF pC (.un .not rV) nN),(qq js (.pk sC sD xF)),(qq lF (.mv ry)),(aA pD (.fa 3 z1) lF),(aA ng (.fa 0 sF) lF),(aA pE (.ld1 rW) lF),(aA lG (.ln .slice rX) lF),(aA pF (.bi .gtr vm (x6 0)) lF),(aA kQ (.mv sG) lF),(aF nh (.fa 3 z1) kQ),(aF px (.ldn 1 vn) kQ),(lW rA (.call 64 [vp]) kQ),(aF oD (.un .not uM) kQ),(aA sP (.pk uE vq xF) lF),(qq pG (.pk sE xT wM))])
def AZ:=wu ae7.eq_1
def ae8:CC:=(.seq (.reg [(qq a2 (.mv xF))]) .ret)
def B6:=wu ae8.eq_1
def ae9:CC:=(.seq ae7 (.cond za ae8 .skip))
def B7:=wu ae9.eq_1
def af0:CC:=(.reg [(qq a3 (.mv (x6 0)))])
def bN3:=wu af0.eq_1
def af1:CC:=(.reg [(qq pH (.mv z3)),(qq uI (.fa 5 z1)),(qq vw (.ld1 wN)),(qq vz (.ln .slice Bx)),(qq rZ (.bi .lss zl Bd))])
def bN4:=wu af1.eq_1
def Nk:CC:=(.seq af1 (.cond Be .skip (.exit 0)))
def bd2:=wu Nk.eq_1
def Nl:CC:=(.reg [(qq sQ (.fa 5 z1)),(qq ou (.ld1 Bg)),(qq vC (.mv z3)),(qq uT (.iaS 1 zm BA)),(qq oE (.ldn 1 zb)),(aa a4 (.al 42 [.l0])),(ez (.st 1 z4 zn))])
def bd3:=wu Nl.eq_1
def Nm:CC:=(.reg [(qq uU (.ldn 1 z4)),(ee uV (.call 66 [zo])),(ee vD (.call 65 [zp])),(qq qJ (.mv BB)),(qq py (.ex 0 wO)),(qq vE (.ex 1 wO)),(qq fA (.ex 2 wO)),(qq a5 (.mv Bh)),(qq a6 (.mv BC)),(qq a7 (.mv uF))])
def bd4:=wu Nm.eq_1
def Nn:CC:=(.reg [(qq qK (.fa 0 z4)),(qq uJ (.ld1 BD)),(qq wW (.ln .slice BE)),(qq zc (.bi .sub BF (x6 1))),(qq a8 (.mv EK))])
def UB:=wu Nn.eq_1
def Np:CC:=(.reg [(qq zd (.mv z7)),(qq ze (.un .not EL)),(qq vF (.mv EM)),(aA zx (.mv z8) vF),(aA pI (.mv z5) vF),(aA uW (.bi .lss GC GD) vF),(qq BJ (.pk GB xT GE)),(qq wX (.mv GF)),(aA BK (.mv z6) wX),(aA BL (.bi .geq IK (x6 0)) wX),(aA sR (.mv GH) wX),(aF EU (.mv z8) sR),(aF GT (.mv z6) sR),(aF EV (.bi .gtr IM J1) sR),(aA EW (.pk IL J2 xF) wX),(qq BM (.pk GG xT J3))])
def UC:=wu Np.eq_1
def Nq:CC:=(.seq (.reg [(qq a2 (.mv xF))]) .ret)
def yQ:=wu Nq.eq_1
def Nr:CC:=(.seq Np (.cond J4 Nq .skip))
def UD:=wu Nr.eq_1
def Ns:CC:=(.reg [(qq GU (.ldn 1 z4)),(ee Jp (.call 67 [J5])),(qq zy (.mv Vr)),(aF Jq (.fa 5 z1) zy),(aF Jr (.ld1 Vt) zy),(aF Js (.ln .slice Vu) zy),(aF rz (.bi .gtr Vv (x6 1)) zy),(aF iX (.mv uD) zy),(aA uN (.fa 2 z1) iX),(aA uP (.fa 0 yX) iX),(aA uQ (.ld1 yY) iX),(aA GP (.ln .slice yZ) iX),(aA wV (.fa 3 z1) iX),(aA GQ (.fa 0 Vc) iX),(aA GR (.ld1 Vd) iX),(aA Jf (.ln .slice Ve) iX),(aA Jg (.bi .add Vb Yc) iX),(aA uR (.bi .gtr Yd (x6 0)) iX),(aF Jh (.pk EJ xT Ye) zy),(qq Ji (.pk Vs Yf xF))])
def bd5:=wu Ns.eq_1
def Nt:CC:=(.seq (.reg [(qq a2 (.mv xF))]) .ret)
def bd6:=wu Nt.eq_1
def Cs:CC:=(.seq Ns (.cond Yg Nt .skip))
def bd7:=wu Cs.eq_1
def Ct:CC:=(.reg [(qq a9 (.mv (x6 0)))])
def bd8:=wu Ct.eq_1
def Nu:CC:=(.reg [(qq Jj (.mv z9)),(qq Jk (.fa 0 z4)),(qq Jl (.ld1 Yi)),(qq Jm (.ln .slice Yj)),(qq sO (.bi .lss Yh Yk))])
def bd9:=wu Nu.eq_1
def Nv:CC:=(.cond Yl .skip (.exit 2))
def be0:=wu Nv.eq_1
def Nw:CC:=(.reg [(qq VG (.fa 0 z4)),(qq VH (.ld1 bn1)),(qq VI (.mv z9)),(qq VJ (.iaS 1 bn2 bn3)),(qq VK (.ldn 1 bn4)),(ee uS (.call 64 [bn5])),(qq VL (.un .not bn6))])
def be1:=wu Nw.eq_1
def Nx:CC:=(.seq (.reg [(qq a2 (.mv xF))]) .ret)
def be2:=wu Nx.eq_1
def Ny:CC:=(.cond bn7 Nx .skip)
def be3:=wu Ny.eq_1
def Nz:CC:=(.reg [(qq Jn (.mv z9)),(qq VF (.bi .add Ym (x6 1))),(qq a9 (.mv bn0))])
def be4:=wu Nz.eq_1
def sT:CC:=(.seq (.seq Nu Nv) (.seq (.block 3 (.seq Nw Ny)) Nz))
def be5:=wu sT.eq_1
def NA:CC:=(.seq Nr (.seq Cs (.seq Ct (.block 2 (.loop sT)))))
def UE:=wu NA.eq_1
def xz:CC:=(.reg [(qq vA (.mv z3)),(qq s5 (.bi .add Bf (x6 1))),(qq a3 (.mv Bz))])
def be6:=wu xz.eq_1
def NC:CC:=(.seq (.block 1 (.seq Nl (.seq Nm (.seq Nn NA)))) xz)
def be7:=wu NC.eq_1
def xA:CC:=(.seq (.reg [(qq a2 (.mv xT))]) .ret)
def be8:=wu xA.eq_1
def xC:CC:=(.seq (.seq af0 (.block 0 (.loop (.seq Nk NC)))) xA)
def be9:=wu xC.eq_1
def c41:CF:= .mk 8 [.t a2] (.seq ae3 (.seq ae6 (.seq ae9 xC)))
theorem e41(v0:V):bz 8 [v0]=(.n sk7 (some v0) sk7):=rfl
def GJ:=ai @e41 (ai @aI9 (ai @aJ0 (ai @Gv (ai @aJ1 (ai @AZ (ai @B6 (ai @B7 (ai @bN3 (ai @bN4 (ai @bd2 (ai @bd3 (ai @bd4 (ai @UB (ai @UC (ai @yQ (ai @UD (ai @bd5 (ai @bd6 (ai @bd7 (ai @bd8 (ai @bd9 (ai @be0 (ai @be1 (ai @be2 (ai @be3 (ai @be4 (ai @be5 (ai @UE (ai @be6 (ai @be7 (ai @be8 (@be9))))))))))))))))))))))))))))))))
theorem l41(Φ:Nat→Option CF)(h64:Φ 64=some c64)(h69:Φ 69=some (.orc (aO h78))){F:RO}{M:Mem}{c b i c2:Nat}(ok:cK F M c2)(hbb:b<c2){v:V}{l:eF}(hl:ff F M c2 v l)(hs:J9 l)(A:load1 F M b 0=some v)(u:List (Option V))(Q:Ex→St→Prop)
 (hQ:l.all cP=true→ ∀(u:List (Option V)) M' c',Gr c2 M c' M'→Q (.ext 2) (.mk ((aE2 u (.p c 0) (.i .i64 (i:Int)) (.p b 0))) [] M' c'))
 (hR:l.all cP=false→ ∀(u:List (Option V)) M' c',Gr c2 M c' M'→Q .ret (.mk ((Tp u (.b false))) [] M' c')):
 Wp (.loop sT) (K Φ none 41 F) (.mk ((Tq u (.p c 0) (.i .i64 (i:Int)) (.p b 0) (.i .i64 0))) [] M c2) Q:=by
 have n1:=hl.len
 have mx:=hl.max
 obtain⟨I,hI⟩:∃I:Nat→St→Prop,∀n s',I n s'↔(∃(j c1:Nat) (M1:Mem) (u:List (Option V)),n=l.length-j∧j≤l.length∧s'= .mk ((Tq u (.p c 0) (.i .i64 (i:Int)) (.p b 0) (.i .i64 (j:Int)))) [] M1 c1∧Gr c2 M c1 M1∧l.all cP=(l.drop j).all cP):=⟨fun n s'=>_,fun _ _=>Iff.rfl⟩
 refine bw I ?_ l.length _ ((hI _ _).2 ⟨0,_,_,(X1 (G1 (X1 (G2 (X4 (G1 (bD (bD (bD (bK (bB (X4 (X1 []))))))))))))),rfl,ax _,rfl,Gr.refl ok,rfl⟩)
 intro n s' hIs
 obtain⟨j,c1,M1,u,rfl,hj,rfl,gr1,hb⟩:=(hI _ _).1 hIs
 clear hIs
 have A1:load1 F M1 b 0=some v:=(gr1.load1 hbb _).trans A
 by_cases hlt:j<l.length
 ·have q8:cz .add (.i .i64 (j:Int)) (.i .i64 1)=some (.i .i64 ((j+1:Nat):Int)):=by rw[aX _ _ (by omega) (by omega)];simp
  have d1:decide ((j:Int)<(l.length:Int))=true:=ah (by omega);obtain⟨b',o,x,hbx,ia,_,ld,hw⟩:=cg.at1 (hl.grow gr1) j hlt;have ia:=ia .i64;have hw:dw F M1 c1 x l[j]:=hw;have hd:l.drop j=l[j]::l.drop (j+1):=bX hlt;rw[hd,List.all_cons]at hb;have hsj:=hs l[j] (List.getElem_mem _);generalize l[j]=w at hb hw hsj;simp only[WX,GJ,A1,n1,d1,ia,ld,aB];refine aD ((w64 Φ h64 h69 (gr1.ok ok) hw hsj).mono ?_);rintro r M2 c3 ⟨rfl,g2⟩;cases hf:cP w with
  |true=>
   rw[hf]at hb;simp only[WX,GJ,q8];exact⟨l.length-(j+1),by omega,(hI _ _).2 ⟨j+1,_,_,(X1 (G1 (X1 (G2 (X4 (G1 (bD (bD (bD (bK (bB (X4 (X1 []))))))))))))),rfl,hlt,rfl,gr1.trans g2,hb⟩⟩
  |false=>
   rw[hf]at hb;simp only[WX,GJ];exact hR hb (X2 (G1 (bD (bD (bD (bK (bB (X8 (X4 []))))))))) _ _ (gr1.trans g2)
 ·obtain rfl:j=l.length:=by omega
  have d1:decide ((l.length:Int)<(l.length:Int))=false:=ag (by omega);rw[cm]at hb;simp only[WX,GJ,A1,n1,d1,aB];exact hQ hb (X1 (G1 (X1 (G2 (bD (bD (bD (bK (bB (X8 (X2 []))))))))))) _ _ gr1
def cbR(l:eF):Bool:= !(Dn (HT l)).2.2||(decide ((l.length:Int)-1<(Dn (HT l)).1)||(decide (0≤(Dn (HT l)).2.1)&&decide ((Dn (HT l)).2.1<(l.length:Int)-1)))
def ll(n:Nat)(io:Bool)(l:eF):Bool:= !cbR l&&(!(Hg (HT l)&&(decide (1<n)||io))&&l.all cP)
theorem kn3(s:List UInt8):(∃x,kn s=some x∧Dn s=(x.1,x.2.1,true)∧Hg s=x.2.2)∨(kn s=none∧Hg s=false∧Dn s=(0,0,false)):=by
 rcases RY s with rfl|rfl|rfl|rfl|rfl|rfl|rfl|rfl|rfl|rfl|rfl|rfl|rfl|rfl|rfl|h
 all_goals first|exact .inr h|exact .inl ⟨_,rfl,rfl,rfl⟩
theorem aP4(n:Nat)(io:Bool)(l:eF):zg n io l=ll n io l:=by
 unfold zg ll cbR nv Wg HT
 cases hs:stS l with
 |true=>
  have h0:Dn []=(0,0,false):=rfl;rw[ac rfl,h0];cases kn (zO l)<;>rfl
 |false=>
  rw[ab (by simp)];rcases kn3 (zO l)with⟨x,h1,h2,h3⟩|⟨h1,h2,h3⟩
  ·rw[h1,h2,h3];obtain⟨x1,x2,x3⟩:=x;dsimp only;have e1:decide (x1≤(l.length:Int)-1)= !decide ((l.length:Int)-1<x1):=by rw[←decide_not];congr 1;exact propext (by omega)
   have e2:decide (x2<0)= !decide (0≤x2):=by rw[←decide_not];congr 1;exact propext (by omega)
   have e3:decide ((l.length:Int)-1≤x2)= !decide (x2<(l.length:Int)-1):=by rw[←decide_not];congr 1;exact propext (by omega)
   rw[e1,e2,e3];generalize decide ((l.length:Int)-1<x1)=a;generalize decide (0≤x2)=b;generalize decide (x2<(l.length:Int)-1)=d;generalize l.all cP=e;generalize(decide (1<n)||io)=f;cases a<;>cases b<;>cases d<;>cases e<;>cases f<;>cases x3<;>rfl
  ·rw[h1,h2,h3];rfl
theorem m41(Φ:Nat→Option CF)(h64:Φ 64=some c64)(h69:Φ 69=some (.orc (aO h78)))(h66:Φ 66=some c66)(h65:Φ 65=some (.orc (aO h65)))(h67:Φ 67=some c67)(h84:Φ 84=some (.orc (aO h84))){F:RO}{M:Mem}{c c2:Nat}(ok:cK F M c2)(hcc:c<c2){vi vo vc:V}{wi wo:List Pc}{cs:List eF}(hi:uK vi=some (.i .i64 (wi.length:Int)))(ho:uK vo=some (.i .i64 (wo.length:Int)))(hli:wi.length≤1000000)(hlo:wo.length≤1000000)(hc:jg F M c2 vc cs)(hs:∀x∈cs,J9 x)(A2:load1 F M c 2=some vi)(A3:load1 F M c 3=some vo)(A5:load1 F M c 5=some vc)(u:List (Option V))(Q:Ex→St→Prop)
 (hQ:∀(u:List (Option V)) M' c',Gr c2 M c' M'→Q .ret (.mk ((Tp u (.b (cs.all (ll cs.length (hasW wi||hasW wo)))))) [] M' c')):
 Wp xC (K Φ none 41 F) (.mk ((aE3 u (.p c 0))) [] M c2) Q:=by
 have n1:=hc.len
 have mx:=hc.max
 obtain⟨io,hio⟩:∃io,(hasW wi||hasW wo)=io:=⟨_,rfl⟩
 have dio:decide ((0:Int)<(wi.length:Int)+(wo.length:Int))=io:=by
  rw[←hio];unfold hasW;rw[←Bool.decide_or];congr 1;exact propext (by omega)
 have qio:cz .add (.i .i64 (wi.length:Int)) (.i .i64 (wo.length:Int))=some (.i .i64 ((wi.length:Int)+(wo.length:Int))):=aX _ _ (by omega) (by omega)
 rw[hio]at hQ
 simp only[WX,GJ]
 obtain⟨I,hI⟩:∃I:Nat→St→Prop,∀n s',I n s'↔(∃(i c1:Nat) (M1:Mem) (u:List (Option V)),n=cs.length-i∧i≤cs.length∧s'= .mk ((bH2 u (.p c 0) (.i .i64 (i:Int)))) [] M1 c1∧Gr c2 M c1 M1∧cs.all (ll cs.length io)=(cs.drop i).all (ll cs.length io)):=⟨fun n s'=>_,fun _ _=>Iff.rfl⟩
 refine bw I ?_ cs.length _ ((hI _ _).2 ⟨0,_,_,(X1 (G1 (X1 (G1 (bD (bD (bD (bK (bB (X8 (X2 (X1 [])))))))))))),rfl,ax _,rfl,Gr.refl ok,rfl⟩)
 intro n s' hIs
 obtain⟨i,c1,M1,u,rfl,hle,rfl,gr1,hb⟩:=(hI _ _).1 hIs
 clear hIs
 have B5:load1 F M1 c 5=some vc:=(gr1.load1 hcc _).trans A5
 by_cases hlt:i<cs.length
 ·have q8:cz .add (.i .i64 (i:Int)) (.i .i64 1)=some (.i .i64 ((i+1:Nat):Int)):=by rw[aX _ _ (by omega) (by omega)];simp
  have d1:decide ((i:Int)<(cs.length:Int))=true:=ah (by omega);obtain⟨b,o,x,hbx,ia,_,ld,hw⟩:=cg.at1 (hc.grow gr1) i hlt;have ia:=ia .i64;have hw:ff F M1 c1 x cs[i]:=hw;have hd:cs.drop i=cs[i]::cs.drop (i+1):=bX hlt;rw[hd,List.all_cons]at hb;have hsi:=hs cs[i] (List.getElem_mem _);generalize cs[i]=w at hb hw hsi;obtain⟨y1,y2,y3⟩:=hw.one;have hG:∀v,flatten (V.g [v])=[v]:=fun _=>rfl;have ok1:=gr1.ok ok;have hle1:=gr1.le;have sn:bS (M1.set c1 (af 42 [.l0])) c1 0 [x]=some (M1.set c1 (af 42 [x])):=dS rfl y3;have m1:(M1.set c1 (af 42 [x])).get c1=some (af 42 [x]):=am _ _ _;have g1':=(Gr.refl ok1).set c1 (af 42 [x]) (aj _) (ay _) (aH _);have g1:=gr1.trans g1';have kx:loadN F (M1.set c1 (af 42 [x])) c1 0 1=some [x]:=aY m1 1 rfl;have kx1:load1 F (M1.set c1 (af 42 [x])) c1 0=some x:=au m1 0;generalize M1.set c1 (af 42 [x])=Y at sn m1 g1' g1 kx kx1;have hwY:=hw.grow g1';have okY:=g1.ok ok;simp only[WX,GJ,B5,n1,d1,ia,ld,hG,sn,kx];refine aD ((w66 Φ h66 okY hwY).mono ?_);rintro r M2 c3 ⟨rfl,g2⟩;have ok2:=g2.ok okY;have hle2:=g2.le;have hh:=aS3 (HT w);obtain⟨E1,E2,E3,hE⟩:∃E1 E2 E3,Dn (HT w)=(E1,E2,E3):=⟨_,_,_,rfl⟩
  have hcb:cbR w=(!E3||(decide ((w.length:Int)-1<E1)||(decide (0≤E2)&&decide (E2<(w.length:Int)-1)))):=by unfold cbR;rw[hE]
  rw[hE]at hh;unfold RX at hh;have kx2:load1 F M2 c1 0=some x:=(g2.load1 (by omega) _).trans kx1;have kn2:loadN F M2 c1 0 1=some [x]:=(g2.loadN (by omega) _ _).trans kx;have nw:=hw.len;have mw:=hw.max;have sb:cz .sub (.i .i64 (w.length:Int)) (.i .i64 1)=some (.i .i64 ((w.length:Int)-1)):=se _ _ (by omega) (by omega);have G:Gr c2 M c3 M2:=g1.trans g2;have BADC:ll cs.length io w=false→ ∀(u:List (Option V)) M' c',Gr c2 M c' M'→Q .ret (.mk ((Tp u (.b false))) [] M' c'):=by
   intro hx u M' c' g;have:=hQ u M' c' g
   rwa [hb,hx,Bool.false_and]at this
  have REST:cbR w=false→ ∀u:List (Option V),Wp Cs (K Φ none 41 F) (.mk ((aE2 u (.p c 0) (.i .i64 (i:Int)) (.p c1 0))) [] M2 c3) (gJ (.seq Ct (.block 2 (.loop sT))) (K Φ none 41 F) (dF 1 (gJ xz (K Φ none 41 F) (jo I (cs.length-i) (dF 0 (gJ xA (K Φ none 41 F) Q)))))):=by
   intro hcb0 u;simp only[WX,GJ,kn2];refine aD ((w67 Φ h67 h66 h84 ok2 (hwY.grow g2)).mono ?_);rintro r M3 c4 ⟨rfl,g3⟩;have G3:=G.trans g3;have ok3:=G3.ok ok;have hle3:=g3.le;have C2:load1 F M3 c 2=some vi:=(G3.load1 hcc _).trans A2;have C3:load1 F M3 c 3=some vo:=(G3.load1 hcc _).trans A3;have C5:load1 F M3 c 5=some vc:=(G3.load1 hcc _).trans A5;have dn:=Rb cs.length;have LOOP:(Hg (HT w)&&(decide (1<cs.length)||io))=false→ ∀u:List (Option V),Wp (.loop sT) (K Φ none 41 F) (.mk ((Tq u (.p c 0) (.i .i64 (i:Int)) (.p c1 0) (.i .i64 0))) [] M3 c4) (dF 2 (dF 1 (gJ xz (K Φ none 41 F) (jo I (cs.length-i) (dF 0 (gJ xA (K Φ none 41 F) Q)))))):=by
    intro hch u;refine l41 Φ h64 h69 ok3 (by omega) (hwY.grow (g2.trans g3)) hsi ((g3.load1 (by omega) _).trans kx2) u _ ?_ ?_
    ·intro ha u M4 c5 g4;simp only[WX,Nat.reduceEqDiff,reduceCtorEq,GJ,q8];exact⟨cs.length-(i+1),by omega,(hI _ _).2 ⟨i+1,_,_,(X1 (G1 (X1 (G1 (bD (bD (bD (bK (bB (X8 (X2 (X1 [])))))))))))),rfl,hlt,rfl,G3.trans g4,by rw[hb];unfold ll;rw[hcb0,hch,ha];rfl⟩⟩
    ·intro ha u M4 c5 g4;simp only[WX];exact BADC (by unfold ll;rw[hcb0,hch,ha];rfl) u _ _ (G3.trans g4)
   cases hch:Hg (HT w)with
   |false=>
    simp only[WX,GJ];exact LOOP (by rw[hch];rfl) (X1 (G1 (X1 (G2 (X4 (G1 (bD (bD (bD (bK (bB (X4 (X1 [])))))))))))))
   |true=>
    cases hD:decide (1<cs.length)with
    |true=>
     have dn:=dn.trans hD;simp only[WX,GJ,C5,n1,dn];exact BADC (by unfold ll;rw[hch,hD];simp) (X2 (G1 (bD (bD (bD (bK (bB (X8 (X4 []))))))))) _ _ G3
    |false=>
     have dn:=dn.trans hD;cases io with
     |true=>
      simp only[WX,GJ,C5,C2,C3,n1,dn,hi,ho,qio,dio,aB];exact BADC (by unfold ll;rw[hch];simp) (X2 (G1 (bD (bD (bD (bK (bB (X8 (X4 []))))))))) _ _ G3
     |false=>
      simp only[WX,GJ,C5,C2,C3,n1,dn,hi,ho,qio,dio,aB];exact LOOP (by rw[hD];simp) (X1 (G1 (X1 (G2 (X4 (G1 (bD (bD (bD (bK (bB (X4 (X1 [])))))))))))))
  simp only[WX,UB,UC,UD,UE,h65,hh,kx2,nw,sb,aB];obtain⟨a1,ha1⟩:∃a,decide ((w.length:Int)-1<E1)=a:=⟨_,rfl⟩
  obtain⟨a2,ha2⟩:∃a,decide (0≤E2)=a:=⟨_,rfl⟩
  obtain⟨a3,ha3⟩:∃a,decide (E2<(w.length:Int)-1)=a:=⟨_,rfl⟩
  rw[ha1,ha2,ha3]at hcb;cases E3 with
  |false=>
   simp only[WX,yQ];exact BADC (by unfold ll;rw[hcb];rfl) (X2 (G1 (bD (bD (bD (bK (bB (X8 (X4 []))))))))) _ _ G
  |true=>
   cases a1 with
   |true=>
    simp only[WX,yQ,ha1];exact BADC (by unfold ll;rw[hcb];rfl) (X2 (G1 (bD (bD (bD (bK (bB (X8 (X4 []))))))))) _ _ G
   |false=>
    cases a2 with
    |false=>
     simp only[WX,ha1,ha2];exact REST hcb (X1 (G1 (X1 (G2 (bD (bD (bD (bK (bB (X8 (X2 [])))))))))))
    |true=>
     cases a3 with
     |true=>
      simp only[WX,yQ,ha1,ha2,ha3];exact BADC (by unfold ll;rw[hcb];rfl) (X2 (G1 (bD (bD (bD (bK (bB (X8 (X4 []))))))))) _ _ G
     |false=>
      simp only[WX,ha1,ha2,ha3];exact REST hcb (X1 (G1 (X1 (G2 (bD (bD (bD (bK (bB (X8 (X2 [])))))))))))
 ·obtain rfl:i=cs.length:=by omega
  have d1:decide ((cs.length:Int)<(cs.length:Int))=false:=ag (by omega);rw[cm]at hb;simp only[WX,GJ,B5,n1,d1];rw[hb]at hQ;exact hQ (X2 (G1 (bD (bD (bD (bK (bB (X8 (X4 []))))))))) _ _ gr1
theorem bw4(w:List Pc):decide ((w.length:Int)=0)= !hasW w:=by unfold hasW;rw[←decide_not];congr 1;exact propext (by omega)
def yr(p:dD):Bool:= !decide (p.cmds.length<1)&&(!decide (6<p.cmds.length)&&(!(p.beh&& !hasW p.out)&&(!(hasW p.inp&& !cP p.inp)&&(!(hasW p.out&& !cP p.out)&&p.cmds.all (ll p.cmds.length (hasW p.inp||hasW p.out))))))
theorem Xk(p:dD):yr p=jI p:=by
 unfold yr jI
 rw[show zg p.cmds.length (hasW p.inp||hasW p.out)=ll p.cmds.length (hasW p.inp||hasW p.out)from funext fun l=>aP4 _ _ l]
theorem w41(Φ:Nat→Option CF)(h:Φ 41=some c41)(h64:Φ 64=some c64)(h69:Φ 69=some (.orc (aO h78)))(h66:Φ 66=some c66)(h65:Φ 65=some (.orc (aO h65)))(h67:Φ 67=some c67)(h84:Φ 84=some (.orc (aO h84))){F:RO}{M:Mem}{c:Nat}(ok:cK F M c){e:List V}{p:dD}(hp:P1 F M c e p)(hs:GM p):
 Calls Φ F 41 [.g e] M c fun r M' c'=>r= .b (yr p)∧Gr c M c' M':=by
 refine aN h ?_
 obtain⟨vi,vo,vc,rfl,hi,ho,hc⟩:=hp
 obtain⟨hsi,hso,hsc,hli,hlo⟩:=hs
 obtain⟨y1,y2,_⟩:=hi.one
 obtain⟨z1,z2,_⟩:=ho.one
 obtain⟨x1,_,_⟩:=hc.one
 have hG:flatten (V.g [.i .i64 p.join,.b p.nt,vi,vo,.b p.beh,vc])=[.i .i64 p.join,.b p.nt,vi,vo,.b p.beh,vc]:=rfl
 have hA:aL [.i .i64 p.join,.b p.nt,vi,vo,.b p.beh,vc]=true:=by
  rw[aw,aw,aw,aw,aw,aw,bZ,y1,z1,x1];rfl
 have gX:=(Gr.refl ok).set c (af 39 [.i .i64 p.join,.b p.nt,vi,vo,.b p.beh,vc]) (aj _) (ay _) (aH _)
 have m0:(M.set c (af 39 [.i .i64 p.join,.b p.nt,vi,vo,.b p.beh,vc])).get c=some (af 39 [.i .i64 p.join,.b p.nt,vi,vo,.b p.beh,vc]):=am _ _ _
 have hiX:=hi.grow gX
 have hoX:=ho.grow gX
 have hcX:=hc.grow gX
 have k2:load1 F (M.set c (af 39 [.i .i64 p.join,.b p.nt,vi,vo,.b p.beh,vc])) c 2=some vi:=au m0 2
 have k3:load1 F (M.set c (af 39 [.i .i64 p.join,.b p.nt,vi,vo,.b p.beh,vc])) c 3=some vo:=au m0 3
 have k4:load1 F (M.set c (af 39 [.i .i64 p.join,.b p.nt,vi,vo,.b p.beh,vc])) c 4=some (.b p.beh):=au m0 4
 have k5:load1 F (M.set c (af 39 [.i .i64 p.join,.b p.nt,vi,vo,.b p.beh,vc])) c 5=some vc:=au m0 5
 have okX:=gX.ok ok
 have hfr:=okX.free
 have ni:=hi.len
 have no:=ho.len
 have nc:=hc.len
 have di:=qT p.inp
 have do':=qT p.out
 have de:=bw4 p.out
 have dl:=Fc p.cmds.length
 have dg:=az5 p.cmds.length
 have l2:loadN F (M.set c (af 39 [.i .i64 p.join,.b p.nt,vi,vo,.b p.beh,vc])) c 2 1=some [vi]:=bW M c 2 1 39 [.i .i64 p.join,.b p.nt,vi,vo,.b p.beh,vc] (by simp)
 have l3:loadN F (M.set c (af 39 [.i .i64 p.join,.b p.nt,vi,vo,.b p.beh,vc])) c 3 1=some [vo]:=bW M c 3 1 39 [.i .i64 p.join,.b p.nt,vi,vo,.b p.beh,vc] (by simp)
 have PO:yr p=(!decide (p.cmds.length<1)&&(!decide (6<p.cmds.length)&&(!(p.beh&& !hasW p.out)&&(!(hasW p.inp&& !cP p.inp)&&(!(hasW p.out&& !cP p.out)&&p.cmds.all (ll p.cmds.length (hasW p.inp||hasW p.out))))))):=rfl
 have LAST:∀(M1:Mem) (c1:Nat) (u:List (Option V)),Gr (c+1) (M.set c (af 39 [.i .i64 p.join,.b p.nt,vi,vo,.b p.beh,vc])) c1 M1→yr p=p.cmds.all (ll p.cmds.length (hasW p.inp||hasW p.out))→Wp xC (K Φ none 41 F) (.mk ((aE3 u (.p c 0))) [] M1 c1) (nk F [.t (.r .h)] fun r M' c'=>r= .b (yr p)∧Gr c M c' M'):=by
  intro M1 c1 u g hpo;refine m41 Φ h64 h69 h66 h65 h67 h84 (g.ok okX) (by have:=g.le;omega) ni no hli hlo (hcX.grow g) hsc ((g.load1 (ay _) 2).trans k2) ((g.load1 (ay _) 3).trans k3) ((g.load1 (ay _) 5).trans k5) u _ ?_;intro u M2 c2 g2;simp only[WX];exact⟨by rw[hpo],gX.trans (g.trans g2)⟩
 have h0:aL [vi]=true∧aL [vo]=true:=⟨by rw[aw,bZ,y1];rfl,by rw[aw,bZ,z1];rfl⟩
 obtain⟨hA1,hA2⟩:=h0
 simp only[WX,Nat.reduceAdd,e41,aI9,aJ0,aJ1,hG,y1,z1,x1,Bool.and_self,k5,nc]
 generalize M.set c (af 39 [.i .i64 p.join,.b p.nt,vi,vo,.b p.beh,vc])=X at gX m0 hiX hoX hcX k2 k3 k4 k5 okX hfr l2 l3 LAST⊢
 by_cases n1:p.cmds.length<1
 ·rw[ah n1]at dl PO;simp only[WX,Gv,dl];exact⟨by rw[PO];rfl,gX⟩
 rw[ag n1]at dl PO
 by_cases n6:6<p.cmds.length
 ·rw[ah n6]at dg PO;simp only[WX,Gv,k5,nc,dl,dg];exact⟨by rw[PO];rfl,gX⟩
 rw[ag n6]at dg PO
 generalize hasW p.inp=I at di PO LAST
 generalize hasW p.out=O at do' de PO LAST
 generalize p.beh=B at k4 PO
 have hG1:∀v,flatten (V.g [v])=[v]:=fun _=>rfl
 have INP:∀(M1:Mem) (c1:Nat),Gr (c+1) X c1 M1→lw (cT (iu Φ) F 64 [.g [vi]] M1 c1 (Φ 64)) fun r M' c'=>r= .b (cP p.inp)∧Gr (c+1) X c' M':=fun M1 c1 g=>(w64 Φ h64 h69 (g.ok okX) (hiX.grow g) hsi).mono (by rintro r M2 c2 ⟨h1,h2⟩;exact⟨h1,g.trans h2⟩)
 have OUT:∀(M1:Mem) (c1:Nat),Gr (c+1) X c1 M1→lw (cT (iu Φ) F 64 [.g [vo]] M1 c1 (Φ 64)) fun r M' c'=>r= .b (cP p.out)∧Gr (c+1) X c' M':=fun M1 c1 g=>(w64 Φ h64 h69 (g.ok okX) (hoX.grow g) hso).mono (by rintro r M2 c2 ⟨h1,h2⟩;exact⟨h1,g.trans h2⟩)
 have gR:Gr (c+1) X (c+1) X:=Gr.refl okX
 have L3:∀(M1:Mem) (c1:Nat),Gr (c+1) X c1 M1→loadN F M1 c 3 1=some [vo]:=fun M1 c1 g=>(g.loadN (ay _) _ _).trans l3
 cases O with
 |false=>
  cases B with
  |true=>
   simp only[WX,Nat.reduceAdd,Gv,k3,k4,k5,no,nc,de,dl,dg];exact⟨by rw[PO];rfl,gX⟩
  |false=>
   cases I with
   |false=>
    simp only[WX,Nat.reduceAdd,AZ,B7,k2,k3,k4,k5,ni,no,nc,di,do',dl,dg];exact LAST X _ (X1 (G1 (bD (bD (bD (bK (bB (X8 (X4 (X1 [])))))))))) gR (by rw[PO];rfl)
   |true=>
    simp only[WX,Nat.reduceAdd,AZ,B7,k2,k4,k5,ni,nc,di,dl,dg,l2];refine aD ((INP _ _ gR).mono ?_);rintro r M2 c2 ⟨rfl,g2⟩;have k3':=(g2.load1 (ay _) 3).trans k3;cases hf:cP p.inp with
    |true=>
     rw[hf]at PO;simp only[WX,k3',no,do',aB];exact LAST M2 c2 (X1 (G1 (bD (bD (bD (bK (bB (X8 (X4 (X1 [])))))))))) g2 (by rw[PO];rfl)
    |false=>
     rw[hf]at PO;simp only[WX,B6];exact⟨by rw[PO];rfl,gX.trans g2⟩
 |true=>
  have PO:yr p=(!(I&& !cP p.inp)&&(!!cP p.out&&p.cmds.all (ll p.cmds.length (I||true)))):=by rw[PO];cases B<;>rfl
  cases B
  all_goals
   cases I with
   |false=>
    simp only[WX,Nat.reduceAdd,AZ,B7,k2,k3,k4,k5,ni,no,nc,di,do',de,dl,dg,l3];refine aD ((OUT _ _ gR).mono ?_);rintro r M2 c2 ⟨rfl,g2⟩;cases hf:cP p.out with
    |true=>
     rw[hf]at PO;simp only[WX];exact LAST M2 c2 (X1 (G1 (bD (bD (bD (bK (bB (X8 (X4 (X1 [])))))))))) g2 (by rw[PO];rfl)
    |false=>
     rw[hf]at PO;simp only[WX,B6];exact⟨by rw[PO];rfl,gX.trans g2⟩
   |true=>
    simp only[WX,Nat.reduceAdd,AZ,B7,k2,k3,k4,k5,ni,no,nc,di,de,dl,dg,l2];refine aD ((INP _ _ gR).mono ?_);rintro r M2 c2 ⟨rfl,g2⟩;cases hf:cP p.inp with
    |true=>
     rw[hf]at PO;have l3':=L3 M2 c2 g2;have k3':=(g2.load1 (ay _) 3).trans k3;simp only[WX,l3',k3',no,do',aB];refine aD ((OUT _ _ g2).mono ?_);rintro r M3 c3 ⟨rfl,g3⟩;cases hf:cP p.out with
     |true=>
      rw[hf]at PO;simp only[WX];exact LAST M3 c3 (X1 (G1 (bD (bD (bD (bK (bB (X8 (X4 (X1 [])))))))))) g3 (by rw[PO];rfl)
     |false=>
      rw[hf]at PO;simp only[WX,B6];exact⟨by rw[PO];rfl,gX.trans g3⟩
    |false=>
     rw[hf]at PO;simp only[WX,B6];exact⟨by rw[PO];rfl,gX.trans g2⟩
abbrev bH3(u:List (Option V))(x1 x2 x6 x7 x8:V):T:=(.n (.n (.n (.n (gq u 15) (some x7) (gq u 23)) (uO u 3) (fq u 19 11 27)) (some x1) (aq u 17 9 25 5 21 13 29)) (uO u 0) (.n (.n (.n (gq u 16) (some x8) (gq u 24)) (uO u 4) (fq u 20 12 28)) (some x2) (.n (fq u 18 10 26) (some x6) (fq u 22 14 30))))
def ab2:CC:=(.reg [(aa a0 (.al 76 [(.s 0 0),(.s 0 0),(.s 0 0),(.s 0 0)]))])
def ab3:CC:=(.reg [(qq a1 (.bld [(.s 0 0),(.s 0 0),(.s 0 0),(.s 0 0)] [(0,1,(.c (.s 0 0))),(1,1,(.c (.s 1 59))),(2,1,(.c (.s 2 9766))),(3,1,(.c (.s 2 31868)))])),(ez (.st 4 z0 z1))])
def QQ:CF:= .mk 2 [.cn a0 4] (.seq ab2 (.seq ab3 .ret))
theorem e33:bz 2 []=re:=rfl
def B33:=ai @e33 (ai (wu ab2.eq_1) (wu ab3.eq_1))
def ak1:CC:=(.reg [(qq a3 (.ld1 z1)),(qq a4 (.mv z0)),(ee a5 (.app 9 1 16 z3 z4)),(ez (.st 1 z1 z5))])
def zf:CF:= .mk 3 [] ak1
theorem e57(v0 v1:V):bz 3 [v0,v1]=(.n (.n sk1 (some v1) sk1) (some v0) re):=rfl
def B57:=ai @e57 (wu ak1.eq_1)
def ak2:CC:=(.reg [(qq a5 (.fa 0 z2)),(qq a6 (.ld1 z5)),(qq a7 (.ln .slice z6)),(qq a8 (.mv (x6 0)))])
def ak3:CC:=(.reg [(qq a9 (.bi .lss z8 z7))])
def ak4:CC:=(.reg [(qq dT (.iaS 1 z6 z8)),(qq eP (.ldn 1 ft)),(aa a4 (.al 36 [.l0])),(ez (.st 1 z4 dL))])
def ak5:CC:=(.dreg 5 [(0,0,(qq fg (.ld1 z1))),(1,0,(qq eQ (.ldn 1 z4))),(2,2,(ee fh (.call 59 [ed]))),(3,6,(aa dM (.bsl 9 1 1 [(.s 0 0)] [(0,gb)]))),(4,15,(ee fu (.cv eN [gK])))])
def ak6:CC:=(.reg [(qq gL (.bi .add z8 (x6 1))),(qq a8 (.mv iB))])
def ak7:CC:=(.seq (.cond z9 .skip (.exit 0)) (.seq (.block 1 (.seq ak4 ak5)) ak6))
def ak8:CC:=(.seq (.reg [(aa a2 (.bx 42 1 z0))]) (.seq ak2 (.block 0 (.loop (.seq ak3 ak7)))))
def Vm:CF:= .mk 5 [] ak8
theorem e58(v0 v1:V):bz 5 [v0,v1]=(.n (.n jp (some v1) jp) (some v0) ow):=rfl
def B58:=ai @e58 (ai (wu ak2.eq_1) (ai (wu ak3.eq_1) (ai (wu ak4.eq_1) (ai (wu ak5.eq_1) (ai (wu ak6.eq_1) (ai (wu ak7.eq_1) (wu ak8.eq_1)))))))
def tA:Nat→List UInt8
 |1=>[59]
 |2=>[38,38]
 |3=>[124,124]
 |_=>[]
def RQ:V:= .g [sV (tA 0),sV (tA 1),sV (tA 2),sV (tA 3)]
theorem w33(Φ:Nat→Option CF)(h:Φ 33=some QQ){F:RO}{M:Mem}{c:Nat}(ok:cK F M c):Calls Φ F 33 [] M c fun r M' c'=>r=RQ∧Gr c M c' M':=by
 refine aN h ?_
 have hG:flatten (V.g [V.s 0 0,.s 1 59,.s 2 9766,.s 2 31868])=[V.s 0 0,.s 1 59,.s 2 9766,.s 2 31868]:=rfl
 have sn:bS (M.set c (af 76 [V.s 0 0,.s 0 0,.s 0 0,.s 0 0])) c 0 [V.s 0 0,.s 1 59,.s 2 9766,.s 2 31868]=some (M.set c (af 76 [V.s 0 0,.s 1 59,.s 2 9766,.s 2 31868])):=dS rfl rfl
 have ld:=aY (F:=F) (am M c (af 76 [V.s 0 0,.s 1 59,.s 2 9766,.s 2 31868])) 4 rfl
 have gX:=(Gr.refl ok).set c (af 76 [V.s 0 0,.s 1 59,.s 2 9766,.s 2 31868]) (aj _) (ay _) (aH _)
 simp only[WX,Nat.reduceAdd,Nat.reduceLeDiff,B33,hG,sn,ld]
 exact⟨rfl,gX⟩
structure pu(M0:Mem)(c:Nat)(M1:Mem)(c1:Nat)(ws:List (List UInt8)):Prop where
 gr:Gr c M0 c1 M1
 hc:c+3≤c1
 m1:∃v b,M1.get (c+1)=some (af 69 [v])∧bm M1 (c+3) c1 b 9 1 v (gG ws)
 m2:M1.get (c+2)=some (af 105 [.f 57 [] [.p (c+1) 0]])
def Kp(c:Nat)(M1:Mem)(c1:Nat)(M2:Mem)(c2:Nat):Prop:=c1≤c2∧ ∀x ty l,x<c1→x≠c+1→ty≠9→M1.get x=some (af ty l)→M2.get x=some (af ty l)
theorem Kp.refl{c c1:Nat}{M1:Mem}:Kp c M1 c1 M1 c1:=⟨aj _,fun _ _ _ _ _ _ h=>h⟩
theorem Kp.trans{c c1 c2 c3:Nat}{M1 M2 M3:Mem}(h:Kp c M1 c1 M2 c2)(h2:Kp c M2 c2 M3 c3):Kp c M1 c1 M3 c3:=⟨bc h.1 h2.1,fun x ty l h1 h3 h4 h5=>h2.2 x ty l (Nat.lt_of_lt_of_le h1 h.1) h3 h4 (h.2 x ty l h1 h3 h4 h5)⟩
theorem Kp.of{c c1 c2:Nat}{M1 M2:Mem}(g:Gr c1 M1 c2 M2):Kp c M1 c1 M2 c2:=⟨g.le,fun x _ _ h1 _ _ h=>(g.old x h1).trans h⟩
theorem pu.grow{M0 M1 M2:Mem}{c c1 c2:Nat}{ws:List (List UInt8)}(h:pu M0 c M1 c1 ws)(g:Gr c1 M1 c2 M2):pu M0 c M2 c2 ws:=by
 obtain⟨gr,hc,⟨v,b,h1,h2⟩,m2⟩:=h
 exact⟨⟨bc gr.le g.le,fun x hx=>(g.old x (by omega)).trans (gr.old x hx),g.new⟩,bc hc g.le,⟨v,b,(g.old _ (by omega)).trans h1,h2.gr g⟩,(g.old _ (by omega)).trans m2⟩
theorem Th(a b:List (List UInt8)):gG (a++b)=gG a++gG b:=List.map_append ..
theorem XT(l:List (List UInt8)):aL (gG l).flatten=true:=by
 induction l with
 |nil=>rfl
 |cons w r ih=>show aL (sV w::(gG r).flatten)=true;rw[aw,ih];rfl
theorem XH{ty ty':Nat}{l l':List V}(h:ty≠ty'):qo ty l≠af ty' l':=by
 intro e;unfold qo af at e;injection e with e;exact h e
theorem w57(Φ:Nat→Option CF)(h:Φ 57=some zf){F:RO}{M0 M1:Mem}{c c1:Nat}{ws xs:List (List UInt8)}{vs:V}(hW:pu M0 c M1 c1 ws)(hv:cA F M1 c1 1 vs (gG xs))(hz:dq (ws++xs)≤1000000):
 Calls Φ F 57 [vs,.p (c+1) 0] M1 c1 fun _ M' c'=>pu M0 c M' c' (ws++xs)∧Kp c M1 c1 M' c':=by
 refine aN h ?_
 obtain⟨gr,hc,⟨v,b0,h1,h2⟩,m2⟩:=hW
 obtain⟨b,h2,hbk⟩:∃b,bm M1 (c+3) c1 b 9 1 v (gG ws)∧ ∀x ty l,x<c1→ty≠9→M1.get x=some (af ty l)→x≠b:=by
  rcases h2 with⟨a0,⟨a1,a2⟩|⟨a1,a2,a3,a4⟩⟩
  ·exact⟨c1,⟨a0,.inl ⟨a1,a2⟩⟩,fun x _ _ hx _ _=>by omega⟩
  ·refine⟨b0,⟨a0,.inr ⟨a1,a2,a3,a4⟩⟩,fun x ty l hx hty hm e=>?_⟩;subst e;rw[a4]at hm;exact XH (Ne.symm hty) (ae hm)
 have l1:load1 F M1 (c+1) 0=some v:=au h1 0
 have gA:Gr (c+3) M1 c1 M1:=⟨hc,fun _ _=>rfl,gr.new⟩
 have hll:=yK (ws++xs)
 have hn:(gG ws).length+(gG xs).length≤1000000:=by
  rw[aG]at hll;unfold gG;rw[List.length_map,List.length_map];omega
 simp only[WX,B57,l1]
 refine aD ((hJ (bytes:=16) h2 gA (by decide) hv (XT xs) (fP (by omega) (by omega))).mono ?_)
 rintro v' M2 c2 ⟨b',hA,g2,hle,hfr,hb'⟩
 have w3:bO v'=true∧flatten v'=[v']∧aL [v']=true:=by
  rcases hA with⟨_,⟨_,rfl⟩|⟨_,_,rfl,_⟩⟩<;>exact⟨rfl,rfl,rfl⟩
 obtain⟨w1,w2,w3⟩:=w3
 have st:=aJ ((g2.old (c+1) (by omega)).trans h1) 0 [v'] (by simp) w3
 simp only[WX,w2,st]
 refine⟨⟨⟨by have:=gr.le;omega,fun x hx=>by rw[ak _ _ (by omega)];exact(g2.old x (by omega)).trans (gr.old x hx),fun x hx=>by rw[ak _ _ (by omega)];exact g2.new x hx⟩,by omega,⟨v',b',am _ _ _,?_⟩,by rw[ak _ _ (by omega)];exact(g2.old _ (by omega)).trans m2⟩,hle,fun x ty l hx hn hty hm=>?_⟩
 ·rw[Th];exact lH hA (by omega)
 ·rw[ak _ _ hn,hfr x hx (hbk x ty l hx hty hm)];exact hm
theorem mB{F:RO}{M:Mem}{c b:Nat}(xs:List (List UInt8))(h:M.get b=some (d7 [V.s 0 0] 9 (xs.map sV)))(hb:b<c):cA F M c 1 (.l b 0 xs.length xs.length) (gG xs):=by
 have e:(gG xs).flatten=xs.map sV:=by
  clear h
  induction xs with
  |nil=>rfl
  |cons w r ih=>show sV w::(gG r).flatten=_;rw[ih];rfl
 exact J0 (d:=[V.s 0 0]) (ty:=9) (by rw[h,e]) hb (fun e he=>by obtain⟨x,_,rfl⟩:=List.mem_map.1 he;rfl) (by unfold gG;rw[List.length_map])
theorem Tl{a b c:List (List UInt8)}(h:dq (a++(b++c))≤1000000):dq (a++b)≤1000000:=by rw[bH]at *;rw[bH]at h;omega
theorem w58(Φ:Nat→Option CF)(h:Φ 58=some Vm)(h57:Φ 57=some zf)(h59:Φ 59=some CR)(h77:Φ 77=some (.orc (aO h77)))(h52:Φ 52=some zL)(h54:Φ 54=some zM)(h71:Φ 71=some xN){F:RO}{M0 M1:Mem}{c c1:Nat}{ws:List (List UInt8)}(ok0:cK F M0 c)(hW:pu M0 c M1 c1 ws){x:V}{l:eF}(hl:ff F M0 c x l)(hs:J9 l)(hz:dq (ws++l.map cw)≤1000000):
 Calls Φ F 58 [.g [x],.p (c+2) 0] M1 c1 fun _ M' c'=>pu M0 c M' c' (ws++l.map cw)∧Kp c M1 c1 M' c':=by
 refine aN h ?_
 obtain⟨y1,y2,y3⟩:=hl.one
 have hG:∀v,flatten (V.g [v])=[v]:=fun _=>rfl
 have ok1:=hW.gr.ok ok0
 have gX:=(Gr.refl ok1).set c1 (af 42 [x]) (aj _) (ay _) (aH _)
 have k0:load1 F (M1.set c1 (af 42 [x])) c1 0=some x:=au (am _ _ _) 0
 have n1:=hl.len
 have mx:=hl.max
 simp only[WX,B58,hG,y3,k0,n1]
 have hWX:=hW.grow gX
 have KX:Kp c M1 c1 (M1.set c1 (af 42 [x])) (c1+1):=Kp.of gX
 generalize M1.set c1 (af 42 [x])=X at gX hWX KX⊢
 clear k0
 obtain⟨I,hI⟩:∃I:Nat→St→Prop,∀n s',I n s'↔(∃(i c2:Nat) (M2:Mem) (u:List (Option V)),n=l.length-i∧i≤l.length∧s'= .mk ((bH3 u (.p (c+2) 0) (.p c1 0) x (.i .i64 (l.length:Int)) (.i .i64 (i:Int)))) [] M2 c2∧pu M0 c M2 c2 (ws++(l.take i).map cw)∧Kp c M1 c1 M2 c2):=⟨fun n s'=>_,fun _ _=>Iff.rfl⟩
 refine bw I ?_ l.length _ ((hI _ _).2 ⟨0,_,_,(X1 (G2 (X2 (X1 (G2 (G1 (bB (X4 (X2 []))))))))),rfl,ax _,rfl,by simpa using hWX,KX⟩)
 intro n s' hIs
 obtain⟨i,c2,M2,u,rfl,hle,rfl,hW2,K2⟩:=(hI _ _).1 hIs
 clear hIs
 by_cases hlt:i<l.length
 ·have q8:cz .add (.i .i64 (i:Int)) (.i .i64 1)=some (.i .i64 ((i+1:Nat):Int)):=by rw[aX _ _ (by omega) (by omega)];simp
  have d1:decide ((i:Int)<(l.length:Int))=true:=ah (by omega);have ok2:=hW2.gr.ok ok0;obtain⟨b,o,y,hbx,ia,_,ld,hw⟩:=cg.at1 (hl.grow hW2.gr) i hlt;have ia:=ia .i64;have hw0:dw F M2 c2 y l[i]:=hw;have htk:(l.take (i+1)).map cw=(l.take i).map cw++[cw l[i]]:=by rw[List.take_succ_eq_append_getElem hlt,List.map_append];rfl
  have hz1:dq (ws++((l.take i).map cw++[cw l[i]]))≤1000000:=by
   rw[←htk];have e:=(List.take_append_drop (i+1) l)
   have:l.map cw=(l.take (i+1)).map cw++(l.drop (i+1)).map cw:=by rw[←List.map_append,e]
   rw[this]at hz;exact Tl hz
  have hsi:=hs l[i] (List.getElem_mem _);generalize l[i]=w at hw0 htk hz1 hsi;rw[←aQ]at hz1;have hwl:(cw w).length≤1000000:=by
   rw[bH]at hz1;simp only[dq]at hz1;omega
  obtain⟨z1,z2,z3⟩:=hw0.one;have gY:=(Gr.refl ok2).set c2 (af 36 [y]) (aj _) (ay _) (aH _);have sn:bS (M2.set c2 (af 36 [.l0])) c2 0 [y]=some (M2.set c2 (af 36 [y])):=dS rfl z3;have kY:loadN F (M2.set c2 (af 36 [y])) c2 0 1=some [y]:=aY (am _ _ _) 1 rfl;have hWY:=hW2.grow gY;have KY:=K2.trans (Kp.of gY);generalize(l.take i).map cw=T at htk hz1 hW2 hWY;generalize hYe:M2.set c2 (af 36 [y])=Y at gY sn kY hWY KY;have okY:=gY.ok ok2;have hfr:=okY.free;have b2:load1 F Y (c+2) 0=some (.f 57 [] [.p (c+1) 0]):=au hWY.m2 0;simp only[WX,Nat.reduceAdd,B58,d1,ia,ld,hG,sn,kY,b2];have g5:Gr (c2+1) Y (c2+6) Y:=(Gr.refl okY).up (by omega);have ok5:=g5.ok okY;have hwY:=(hw0.grow gY).grow g5;refine nJ _ _ _ _ _ _ _ _ _ _ _ ok5 ?_;intro F1 N1 okn hlk;refine(show lw (cT (iu Φ) F1 59 [.g [y]] N1 (c2+6) (Φ 59)) _ from(w59 Φ h59 h77 h52 h54 h71 okn (hwY.lk hlk) hsi hwl).mono ?_);rintro r M3 c3 ⟨rfl,g3⟩;refine⟨g3,fun M4 g4 _=>?_⟩;have hle3:=g4.le;have lk:(look F M4 (c2+4)).isNone=true:=by rw[cH (g4.old _ (by omega)),okY.look (by omega)];rfl
  have hc2:=hW2.hc;have rf:bU (c2+4) [(1,c2),(0,c+2)]=true:=by rw[aU _ _ _ _ (by omega),aU _ _ _ _ (by omega),cF]
  have gZ:=(g5.trans g4).set (c2+4) (d7 [V.s 0 0] 9 [sV (cw w)]) (by omega) (by omega) (aj _);have hF:flatten (sV (cw w))=[sV (cw w)]:=rfl;have hO:bO (sV (cw w))=true:=rfl;simp only[WX,Nat.reducePow,Nat.reduceDiv,Nat.reduceMod,Nat.reduceBEq,Nat.reduceAdd,lk,rf,uw,mj,rq,hF,hO];refine du ((w57 Φ h57 (hWY.grow gZ) (mB [cw w] (am _ _ _) (by omega)) hz1).mono ?_);rintro _ M5 c5 ⟨hW5,K5⟩;refine⟨(hW5.gr.ok ok0).free,?_⟩;simp only[WX,B58,q8];exact⟨l.length-(i+1),by omega,(hI _ _).2 ⟨i+1,_,_,(X1 (G2 (X2 (X1 (G2 (G1 (bB (X4 (X2 []))))))))),rfl,hlt,rfl,by rw[htk,←aQ];exact hW5,(KY.trans (Kp.of gZ)).trans K5⟩⟩
 ·obtain rfl:i=l.length:=by omega
  have d1:decide ((l.length:Int)<(l.length:Int))=false:=ag (by omega);rw[List.take_length]at hW2;simp only[WX,B58,d1];exact⟨hW2,K2⟩
abbrev mD(u:List (Option V))(x1 x3 x4 x5 x7 x13 x14 x15:V):T:=(.n (.n (.n (.n (.n (fq u 63 31 95) (some x15) (fq u 79 47 111)) (some x7) (aq u 71 39 103 23 87 55 119)) (some x3) (.n (aq u 67 35 99 19 83 51 115) (uO u 11) (aq u 75 43 107 27 91 59 123))) (some x1) (.n (.n (aq u 65 33 97 17 81 49 113) (uO u 9) (aq u 73 41 105 25 89 57 121)) (some x5) (.n (aq u 69 37 101 21 85 53 117) (some x13) (aq u 77 45 109 29 93 61 125)))) (uO u 0) (.n (.n (.n (aq u 64 32 96 16 80 48 112) (uO u 8) (aq u 72 40 104 24 88 56 120)) (some x4) (.n (aq u 68 36 100 20 84 52 116) (uO u 12) (aq u 76 44 108 28 92 60 124))) (uO u 2) (.n (.n (aq u 66 34 98 18 82 50 114) (uO u 10) (aq u 74 42 106 26 90 58 122)) (uO u 6) (.n (aq u 70 38 102 22 86 54 118) (some x14) (aq u 78 46 110 30 94 62 126)))))
abbrev aE4(u:List (Option V))(x1 x3 x4 x5 x7 x8 x13 x14 x15 x35 x36 x37:V):T:=(.n (.n (.n (.n (.n (fq u 63 31 95) (some x15) (fq u 79 47 111)) (some x7) (aq u 71 39 103 23 87 55 119)) (some x3) (.n (.n (.n (gq u 67) (some x35) (gq u 99)) (uO u 19) (fq u 83 51 115)) (uO u 11) (aq u 75 43 107 27 91 59 123))) (some x1) (.n (.n (aq u 65 33 97 17 81 49 113) (uO u 9) (aq u 73 41 105 25 89 57 121)) (some x5) (.n (.n (.n (gq u 69) (some x37) (gq u 101)) (uO u 21) (fq u 85 53 117)) (some x13) (aq u 77 45 109 29 93 61 125)))) (uO u 0) (.n (.n (.n (aq u 64 32 96 16 80 48 112) (some x8) (aq u 72 40 104 24 88 56 120)) (some x4) (.n (.n (.n (gq u 68) (some x36) (gq u 100)) (uO u 20) (fq u 84 52 116)) (uO u 12) (aq u 76 44 108 28 92 60 124))) (uO u 2) (.n (.n (aq u 66 34 98 18 82 50 114) (uO u 10) (aq u 74 42 106 26 90 58 122)) (uO u 6) (.n (aq u 70 38 102 22 86 54 118) (some x14) (aq u 78 46 110 30 94 62 126)))))
def ac5:CC:=(.reg [(aa a1 (.bx 25 1 z0)),(qq a2 (.mv (.c (.s 0 0))))])
def bM2:=wu ac5.eq_1
def ac6:CC:=(.reg [(qq dT (.mkf 57 [] [z3])),(aa a4 (.al 105 [.f0])),(ez (.st 1 z4 ft))])
def bM3:=wu ac6.eq_1
def ac7:CC:=(.reg [(qq eP (.mkf 58 [] [z4])),(qq a5 (.mv dL))])
def bM4:=wu ac7.eq_1
def ac8:CC:=(.reg [(qq fg (.fa 0 z1)),(qq eQ (.ld1 eN)),(qq fh (.ln .slice ed)),(qq dM (.mv (x6 0)))])
def bM5:=wu ac8.eq_1
def ac9:CC:=(.reg [(qq fu (.bi .lss gK gb))])
def aI3:=wu ac9.eq_1
def ad0:CC:=(.reg [(qq gL (.iaS 6 ed gK)),(qq fy (.ldn 6 iB)),(aa a7 (.al 39 [(.i .i64 0),(.b false),.l0,.l0,(.b false),.l0])),(ez (.st 6 z7 iC))])
def aI4:=wu ad0.eq_1
def ad1:CC:=(.reg [(qq jr (.fa 0 z7)),(qq gH (.ld1 l8)),(qq fY (.bi .gtr la (x6 0)))])
def bM6:=wu ad1.eq_1
def ad3:CC:=(.dreg 7 [(0,0,(qq jt (.ld1 z4))),(2,0,(qq jX (.fa 0 z7))),(3,4,(qq gv (.ld1 kM))),(1,0,(ee gU (.call 33 []))),(4,14,(qq kd (.ixA1 4 1 lg lB))),(5,30,(aa gV (.bsl 9 1 1 [(.s 0 0)] [(0,nl)]))),(6,63,(ee lE (.cv lA [nn])))])
def bM7:=wu ad3.eq_1
def Nd:CC:=(.seq ad1 (.cond kL ad3 .skip))
def bM8:=wu Nd.eq_1
def MP:CC:=(.reg [(qq ip (.fa 1 z7)),(qq ke (.ld1 ot))])
def bb0:=wu MP.eq_1
def MQ:CC:=(.reg [(qq lj (.ld1 z4)),(aa np (.bsl 9 1 1 [(.s 0 0)] [(0,(.c (.s 1 33)))])),(ee nM (.cv pq [pz]))])
def bb1:=wu MQ.eq_1
def Ck:CC:=(.seq MP (.cond oz MQ .skip))
def bb4:=wu Ck.eq_1
def MR:CC:=(.reg [(qq jY (.fa 5 z7)),(qq jZ (.ld1 rv)),(qq nN (.ln .slice rx)),(qq k8 (.mv (x6 0)))])
def Um:=wu MR.eq_1
def Cl:CC:=(.reg [(qq nq (.bi .lss qF sC))])
def Un:=wu Cl.eq_1
def MS:CC:=(.reg [(qq mN (.mv qF)),(qq pC (.iaS 1 rx qF)),(qq js (.ldn 1 sD)),(aa a9 (.al 42 [.l0])),(qq a8 (.mv rV)),(ez (.st 1 z9 ry))])
def Uo:=wu MS.eq_1
def MT:CC:=(.reg [(qq lF (.mv z8)),(qq pD (.bi .gtr sE (x6 0)))])
def bb7:=wu MT.eq_1
def MU:CC:=(.reg [(qq ng (.ld1 z4)),(aa pE (.bsl 9 1 1 [(.s 0 0)] [(0,(.c (.s 1 124)))])),(ee lG (.cv rW [rX]))])
def bb8:=wu MU.eq_1
def Cm:CC:=(.seq MT (.cond sF MU .skip))
def bb9:=wu Cm.eq_1
def MV:CC:=(.reg [(qq pF (.mv z5)),(qq kQ (.ldn 1 z9)),(ee nh (.cv sG [uE]))])
def Up:=wu MV.eq_1
def MW:CC:=(.reg [(qq px (.mv z8)),(qq rA (.bi .eql vp (x6 0))),(qq oD (.mv uM)),(aF sP (.fa 2 z7) oD),(aF pG (.fa 0 wM) oD),(aF pH (.ld1 za) oD),(aF uI (.ln .slice zl) oD),(aF vw (.bi .gtr wN (x6 0)) oD),(qq vz (.pk vq Bx xF))])
def Uq:=wu MW.eq_1
def Cn:CC:=(.dreg 6 [(0,0,(qq rZ (.ld1 z4))),(1,0,(qq vA (.fa 2 z7))),(2,2,(qq s5 (.ldn 1 Bf))),(3,6,(ee sQ (.call 59 [Bz]))),(4,14,(aa ou (.bsl 9 2 1 [(.s 0 0)] [(0,(.c (.s 1 60))),(1,Bg)]))),(5,31,(ee vC (.cv Be [zm])))])
def bc0:=wu Cn.eq_1
def MX:CC:=(.seq MW (.cond Bd Cn .skip))
def Ur:=wu MX.eq_1
def MY:CC:=(.reg [(qq uT (.bi .add qF (x6 1))),(qq k8 (.mv zb))])
def bc1:=wu MY.eq_1
def MZ:CC:=(.seq (.block 3 (.seq MS (.seq Cm (.seq MV MX)))) MY)
def Us:=wu MZ.eq_1
def Co:CC:=(.seq (.cond rU .skip (.exit 2)) MZ)
def Ut:=wu Co.eq_1
def N0:CC:=(.reg [(qq qJ (.fa 4 z7)),(qq uU (.ld1 wO)),(qq oE (.mv zo))])
def Ey:=wu N0.eq_1
def Cp:CC:=(.dreg 6 [(0,0,(qq uV (.ld1 z4))),(1,0,(qq vD (.fa 3 z7))),(2,2,(qq py (.ldn 1 BB))),(3,6,(ee vE (.call 59 [Bh]))),(4,14,(aa fA (.bsl 9 2 1 [(.s 0 0)] [(0,(.c (.s 2 15934))),(1,BC)]))),(5,31,(ee qK (.cv zp [uF])))])
def bc2:=wu Cp.eq_1
def N3:CC:=(.reg [(qq wW (.fa 3 z7)),(qq zc (.fa 0 BF)),(qq zd (.ld1 EK)),(qq ze (.ln .slice EL)),(qq vF (.bi .gtr EM (x6 0))),(qq uJ (.mv GB))])
def Uu:=wu N3.eq_1
def Cq:CC:=(.dreg 6 [(0,0,(qq zx (.ld1 z4))),(1,0,(qq pI (.fa 3 z7))),(2,2,(qq uW (.ldn 1 GD))),(3,6,(ee BJ (.call 59 [GE]))),(4,14,(aa wX (.bsl 9 2 1 [(.s 0 0)] [(0,(.c (.s 1 62))),(1,GF)]))),(5,31,(ee BK (.cv GC [GG])))])
def bc3:=wu Cq.eq_1
def N4:CC:=(.seq N3 (.cond BE Cq .skip))
def Uv:=wu N4.eq_1
def Cr:CC:=(.seq N0 (.cond zn Cp N4))
def Ez:=wu Cr.eq_1
def N5:CC:=(.seq (.seq MR (.block 2 (.loop (.seq Cl Co)))) (.block 4 Cr))
def Uw:=wu N5.eq_1
def N6:CC:=(.reg [(qq BL (.bi .add gK (x6 1))),(qq dM (.mv GH))])
def Ux:=wu N6.eq_1
def N7:CC:=(.seq (.block 1 (.seq ad0 (.seq Nd (.seq Ck N5)))) N6)
def Uy:=wu N7.eq_1
def N8:CC:=(.seq (.cond iA .skip (.exit 0)) N7)
def Uz:=wu N8.eq_1
def Na:CC:=(.reg [(qq sR (.ld1 z3)),(ee EU (.call 60 [IL,(.c (.s 1 32))])),(qq a2 (.mv IM))])
def UA:=wu Na.eq_1
def Nb:CC:=(.seq (.seq ac8 (.block 0 (.loop (.seq ac9 N8)))) (.seq Na .ret))
def bc4:=wu Nb.eq_1
def Nc:CC:=(.seq (.reg [(aa a3 (.al 69 [.l0]))]) (.seq ac6 (.seq ac7 Nb)))
def bc5:=wu Nc.eq_1
def c39:CF:= .mk 7 [.t a2] (.seq ac5 Nc)
theorem e39(v0:V):bz 7 [v0]=(.n vg (some v0) vg):=rfl
def zr:=ai @e39 (ai @bM2 (ai @bM3 (ai @bM4 (ai @bM5 (ai @aI3 (ai @aI4 (ai @bM6 (ai @bM7 (ai @bM8 (ai @bb0 (ai @bb1 (ai @bb4 (ai @Um (ai @Un (ai @Uo (ai @bb7 (ai @bb8 (ai @bb9 (ai @Up (ai @Uq (ai @bc0 (ai @Ur (ai @bc1 (ai @Us (ai @Ut (ai @Ey (ai @bc2 (ai @Uu (ai @bc3 (ai @Uv (ai @Ez (ai @Uw (ai @Ux (ai @Uy (ai @Uz (ai @UA (ai @bc4 (@bc5))))))))))))))))))))))))))))))))))))))
theorem Wn{F:RO}(len sz:Nat)(x i:X)(M:Mem)(t:T):lq (.ixA1 len sz x i) F M t=oV (r5 len sz (x.ev t) (i.ev t)):=by
 refine(fE ?_).trans (congrArg oV (TI (F:=F) len sz x i M t))
 intro F' M'
 refine jJ ?_
 show((DB (x.ev t) QR.f fun cs=>oQ len sz cs (rE (i.ev t)))= .f∨ ∃y,(DB (x.ev t) QR.f fun cs=>oQ len sz cs (rE (i.ev t)))= .v y)
 cases x.ev t with
 |g cs=>
  show(oQ len sz cs (rE (i.ev t))= .f∨ ∃y,oQ len sz cs (rE (i.ev t))= .v y);cases rE (i.ev t)with
  |none=>exact .inl rfl
  |some m=>
   show((bif Nat.blt m len then qr (oT cs (Nat.mul m sz))else QR.f)= .f∨ ∃y,(bif Nat.blt m len then qr (oT cs (Nat.mul m sz))else QR.f)= .v y);cases Nat.blt m len with
   |false=>exact .inl rfl
   |true=>
    show(qr (oT cs (Nat.mul m sz))= .f∨ ∃y,qr (oT cs (Nat.mul m sz))= .v y);cases oT cs (Nat.mul m sz)with
    |none=>exact .inl rfl
    |some y=>exact .inr ⟨y,rfl⟩
 |_=>exact .inl rfl
def gI(inp:List Pc):Nat→List eF→List (List UInt8)
 |_,[]=>[]
 |k,c::r=>(if 0<k then[[124]]else[])++(c.map cw++((if(decide (k=0)&&hasW inp)=true then[[60],cw inp]else[])++gI inp (k+1) r))
def jD(beh:Bool)(out:List Pc):List (List UInt8):=if beh=true then[[62,62],cw out]else if hasW out=true then[[62],cw out]else[]
def I4(p:dD):List (List UInt8):=(if 0<p.join then[tA p.join.toNat]else[])++((if p.nt=true then[[33]]else[])++(gI p.inp 0 p.cmds++jD p.beh p.out))
def kZ:List dD→List (List UInt8)
 |[]=>[]
 |p::r=>I4 p++kZ r
theorem bZ1(Φ:Nat→Option CF)(h33:Φ 33=some QQ)(h57:Φ 57=some zf){F:RO}{M0 M2:Mem}{c c2 pb N i:Nat}{cur:List (List UInt8)}{vl vi vo vc:V}{j:Int}{nt beh:Bool}(ok0:cK F M0 c)(hW:pu M0 c M2 c2 cur)(mb:M2.get pb=some (af 39 [.i .i64 j,.b nt,vi,vo,.b beh,vc]))(hp1:c+3≤pb)(hp2:pb<c2)(hj0:0≤j)(hj3:j≤3)(hz:dq (cur++(if 0<j then[tA j.toNat]else[]))≤1000000)(u:List (Option V))(Q:Ex→St→Prop)
 (hQ:∀(u:List (Option V)) M' c',pu M0 c M' c' (cur++(if 0<j then[tA j.toNat]else[]))→Kp c M2 c2 M' c'→Q .nrm (.mk ((mD u (.p c 0) (.p (c+1) 0) (.p (c+2) 0) (.f 58 [] [.p (c+2) 0]) (.p pb 0) vl (.i .i64 (N:Int)) (.i .i64 (i:Int)))) [] M' c')):
 Wp Nd (K Φ none 39 F) (.mk ((mD u (.p c 0) (.p (c+1) 0) (.p (c+2) 0) (.f 58 [] [.p (c+2) 0]) (.p pb 0) vl (.i .i64 (N:Int)) (.i .i64 (i:Int)))) [] M2 c2) Q:=by
 have ok2:=hW.gr.ok ok0
 have l0:load1 F M2 pb 0=some (.i .i64 j):=au mb 0
 by_cases hj:0<j
 ·have dj:decide ((0:Int)<j)=true:=ah hj;rw[ac hj]at hz hQ;have b2:load1 F M2 (c+2) 0=some (.f 57 [] [.p (c+1) 0]):=au hW.m2 0;have hfr:=ok2.free;simp only[WX,zr,l0,dj,b2,aB];have g5:Gr c2 M2 (c2+7) M2:=(Gr.refl ok2).up (by omega);have ok5:=g5.ok ok2;refine nJ _ _ _ _ _ _ _ _ _ _ _ ok5 ?_;intro F1 N1 okn hlk;refine(show lw (cT (iu Φ) F1 33 [] N1 (c2+7) (Φ 33)) _ from(w33 Φ h33 okn).mono ?_);rintro r M3 c3 ⟨rfl,g3⟩;refine⟨g3,fun M4 g4 _=>?_⟩;have hle3:=g4.le;have lk:(look F M4 (c2+5)).isNone=true:=by rw[cH (g4.old _ (by omega)),ok2.look (by omega)];rfl
  have hc2:=hW.hc;have rf:bU (c2+5) [(3,pb),(0,c+2)]=true:=by rw[aU _ _ _ _ (by omega),aU _ _ _ _ (by omega),cF]
  have gZ:=(g5.trans g4).set (c2+5) (d7 [V.s 0 0] 9 [sV (tA j.toNat)]) (by omega) (by omega) (aj _);have hF:flatten (sV (tA j.toNat))=[sV (tA j.toNat)]:=rfl;have hO:bO (sV (tA j.toNat))=true:=rfl;have hix:r5 4 1 RQ (.i .i64 j)=some (sV (tA j.toNat)):=by
   unfold RQ;rw[pU,ac ⟨by omega,by omega⟩];have:j=1∨j=2∨j=3:=by omega
   rcases this with rfl|rfl|rfl<;>rfl
  simp only[WX,Nat.reducePow,Nat.reduceDiv,Nat.reduceMod,Nat.reduceBEq,lk,rf,uw,mj,rq,hF,hO,Wn,hix];refine du ((w57 Φ h57 (hW.grow gZ) (mB [tA j.toNat] (am _ _ _) (by omega)) hz).mono ?_);rintro _ M5 c5 ⟨hW5,K5⟩;refine⟨(hW5.gr.ok ok0).free,?_⟩;simp only[WX];exact hQ (X1 (G1 (X1 (G2 (G1 (X1 (G1 (X4 (X1 (G2 (G1 (bD (bK (X8 (X4 (X2 (X1 []))))))))))))))))) _ _ hW5 ((Kp.of gZ).trans K5)
 ·have dj:decide ((0:Int)<j)=false:=ag hj;rw[ab hj,bF]at hQ;simp only[WX,zr,l0,dj,aB];exact hQ (X1 (G1 (X1 (G2 (G1 (X1 (G1 (X4 (X1 (G2 (G1 (bD (bK (X8 (X4 (X2 (X1 []))))))))))))))))) _ _ hW Kp.refl
theorem bZ2(Φ:Nat→Option CF)(h57:Φ 57=some zf){F:RO}{M0 M2:Mem}{c c2 pb N i:Nat}{cur:List (List UInt8)}{vl vi vo vc:V}{j:Int}{nt beh:Bool}(ok0:cK F M0 c)(hW:pu M0 c M2 c2 cur)(mb:M2.get pb=some (af 39 [.i .i64 j,.b nt,vi,vo,.b beh,vc]))(hz:dq (cur++(if nt=true then[[33]]else[]))≤1000000)(u:List (Option V))(Q:Ex→St→Prop)
 (hQ:∀(u:List (Option V)) M' c',pu M0 c M' c' (cur++(if nt=true then[[33]]else[]))→Kp c M2 c2 M' c'→Q .nrm (.mk ((mD u (.p c 0) (.p (c+1) 0) (.p (c+2) 0) (.f 58 [] [.p (c+2) 0]) (.p pb 0) vl (.i .i64 (N:Int)) (.i .i64 (i:Int)))) [] M' c')):
 Wp Ck (K Φ none 39 F) (.mk ((mD u (.p c 0) (.p (c+1) 0) (.p (c+2) 0) (.f 58 [] [.p (c+2) 0]) (.p pb 0) vl (.i .i64 (N:Int)) (.i .i64 (i:Int)))) [] M2 c2) Q:=by
 have ok2:=hW.gr.ok ok0
 have l1:load1 F M2 pb 1=some (.b nt):=au mb 1
 cases nt with
 |true=>
  rw[ac rfl]at hz hQ;have b2:load1 F M2 (c+2) 0=some (.f 57 [] [.p (c+1) 0]):=au hW.m2 0;have gZ:=(Gr.refl ok2).set c2 (d7 [V.s 0 0] 9 [sV [33]]) (aj _) (ay _) (aH _);simp only[WX,zr,l1,b2];refine aD ((w57 Φ h57 (hW.grow gZ) (mB [[33]] (am _ _ _) (ay _)) hz).mono ?_);rintro _ M5 c5 ⟨hW5,K5⟩;simp only[WX];exact hQ (X1 (G1 (X1 (G2 (G1 (X1 (G1 (X4 (X1 (G2 (G1 (bD (bK (X8 (X4 (X2 (X1 []))))))))))))))))) _ _ hW5 ((Kp.of gZ).trans K5)
 |false=>
  rw[ab (by simp),bF]at hQ;simp only[WX,zr,l1];exact hQ (X1 (G1 (X1 (G2 (G1 (X1 (G1 (X4 (X1 (G2 (G1 (bD (bK (X8 (X4 (X2 (X1 []))))))))))))))))) _ _ hW Kp.refl
theorem bZ0(Φ:Nat→Option CF)(h57:Φ 57=some zf)(h59:Φ 59=some CR)(h77:Φ 77=some (.orc (aO h77)))(h52:Φ 52=some zL)(h54:Φ 54=some zM)(h71:Φ 71=some xN){F:RO}{M0 M2:Mem}{c c2 pb N i k n:Nat}{cur:List (List UInt8)}{vl vi vo vc:V}{j:Int}{nt beh:Bool}{w:List Pc}(ok0:cK F M0 c)(hW:pu M0 c M2 c2 cur)(mb:M2.get pb=some (af 39 [.i .i64 j,.b nt,vi,vo,.b beh,vc]))(hp1:c+3≤pb)(hp2:pb<c2)(hw:dw F M0 c vi w)(hs:∀q∈w,q.1.length≤1000000)(hz:dq (cur++[[60],cw w])≤1000000)(u:List (Option V))(Q:Ex→St→Prop)
 (hQ:∀(u:List (Option V)) M' c',pu M0 c M' c' (cur++[[60],cw w])→Kp c M2 c2 M' c'→Q .nrm (.mk ((aE4 u (.p c 0) (.p (c+1) 0) (.p (c+2) 0) (.f 58 [] [.p (c+2) 0]) (.p pb 0) (.i .i64 (k:Int)) vl (.i .i64 (N:Int)) (.i .i64 (i:Int)) vc (.i .i64 (n:Int)) (.i .i64 (k:Int)))) [] M' c')):
 Wp Cn (K Φ none 39 F) (.mk ((aE4 u (.p c 0) (.p (c+1) 0) (.p (c+2) 0) (.f 58 [] [.p (c+2) 0]) (.p pb 0) (.i .i64 (k:Int)) vl (.i .i64 (N:Int)) (.i .i64 (i:Int)) vc (.i .i64 (n:Int)) (.i .i64 (k:Int)))) [] M2 c2) Q:=by
 have ok2:=hW.gr.ok ok0
 obtain⟨z1,z2,z3⟩:=hw.one
 have hG:∀v,flatten (V.g [v])=[v]:=fun _=>rfl
 have lf:loadN F M2 pb 2 1=some [vi]:=by rw[cO mb,bW _ _ _ _ _ _ (by simp)];rfl
 have b2:load1 F M2 (c+2) 0=some (.f 57 [] [.p (c+1) 0]):=au hW.m2 0
 have hfr:=ok2.free
 simp only[WX,zr,lf,b2]
 have g5:Gr c2 M2 (c2+6) M2:=(Gr.refl ok2).up (by omega)
 have ok5:=g5.ok ok2
 have hwl:(cw w).length≤1000000:=by
  rw[bH]at hz;simp only[dq]at hz;omega
 refine nJ _ _ _ _ _ _ _ _ _ _ _ ok5 ?_
 intro F1 N1 okn hlk
 refine(show lw (cT (iu Φ) F1 59 [.g [vi]] N1 (c2+6) (Φ 59)) _ from(w59 Φ h59 h77 h52 h54 h71 okn (((hw.grow hW.gr).grow g5).lk hlk) hs hwl).mono ?_)
 rintro r M3 c3 ⟨rfl,g3⟩
 refine⟨g3,fun M4 g4 _=>?_⟩
 have hle3:=g4.le
 have lk:(look F M4 (c2+4)).isNone=true:=by rw[cH (g4.old _ (by omega)),ok2.look (by omega)];rfl
 have hc2:=hW.hc
 have rf:bU (c2+4) [(2,pb),(0,c+2)]=true:=by rw[aU _ _ _ _ (by omega),aU _ _ _ _ (by omega),cF]
 have gZ:=(g5.trans g4).set (c2+4) (d7 [V.s 0 0] 9 [sV [60],sV (cw w)]) (by omega) (by omega) (aj _)
 have hF:flatten (sV (cw w))=[sV (cw w)]:=rfl
 have hO:bO (sV (cw w))=true:=rfl
 simp only[WX,Nat.reducePow,Nat.reduceDiv,Nat.reduceMod,Nat.reduceBEq,Nat.reduceAdd,lk,rf,uw,mj,rq,hF,hO]
 refine du ((w57 Φ h57 (hW.grow gZ) (mB [[60],cw w] (am _ _ _) (by omega)) hz).mono ?_)
 rintro _ M5 c5 ⟨hW5,K5⟩
 refine⟨(hW5.gr.ok ok0).free,?_⟩
 simp only[WX]
 exact hQ (X1 (G1 (X1 (G2 (G1 (X1 (G2 (X4 (G2 (G1 (bB (X2 (X1 (G2 (G1 (bD (bB (X8 (X1 []))))))))))))))))))) _ _ hW5 ((Kp.of gZ).trans K5)
theorem bY7(Φ:Nat→Option CF)(h57:Φ 57=some zf)(h59:Φ 59=some CR)(h77:Φ 77=some (.orc (aO h77)))(h52:Φ 52=some zL)(h54:Φ 54=some zM)(h71:Φ 71=some xN){F:RO}{M0 M2:Mem}{c c2 pb N i:Nat}{cur:List (List UInt8)}{vl vi vo vc:V}{j:Int}{nt beh:Bool}{w:List Pc}(ok0:cK F M0 c)(hW:pu M0 c M2 c2 cur)(mb:M2.get pb=some (af 39 [.i .i64 j,.b nt,vi,vo,.b beh,vc]))(hp1:c+3≤pb)(hp2:pb<c2)(hw:dw F M0 c vo w)(hs:∀q∈w,q.1.length≤1000000)(hz:dq (cur++[[62,62],cw w])≤1000000)(u:List (Option V))(Q:Ex→St→Prop)
 (hQ:∀(u:List (Option V)) M' c',pu M0 c M' c' (cur++[[62,62],cw w])→Kp c M2 c2 M' c'→Q .nrm (.mk ((mD u (.p c 0) (.p (c+1) 0) (.p (c+2) 0) (.f 58 [] [.p (c+2) 0]) (.p pb 0) vl (.i .i64 (N:Int)) (.i .i64 (i:Int)))) [] M' c')):
 Wp Cp (K Φ none 39 F) (.mk ((mD u (.p c 0) (.p (c+1) 0) (.p (c+2) 0) (.f 58 [] [.p (c+2) 0]) (.p pb 0) vl (.i .i64 (N:Int)) (.i .i64 (i:Int)))) [] M2 c2) Q:=by
 have ok2:=hW.gr.ok ok0
 obtain⟨z1,z2,z3⟩:=hw.one
 have hG:∀v,flatten (V.g [v])=[v]:=fun _=>rfl
 have lf:loadN F M2 pb 3 1=some [vo]:=by rw[cO mb,bW _ _ _ _ _ _ (by simp)];rfl
 have b2:load1 F M2 (c+2) 0=some (.f 57 [] [.p (c+1) 0]):=au hW.m2 0
 have hfr:=ok2.free
 simp only[WX,zr,lf,b2]
 have g5:Gr c2 M2 (c2+6) M2:=(Gr.refl ok2).up (by omega)
 have ok5:=g5.ok ok2
 have hwl:(cw w).length≤1000000:=by
  rw[bH]at hz;simp only[dq]at hz;omega
 refine nJ _ _ _ _ _ _ _ _ _ _ _ ok5 ?_
 intro F1 N1 okn hlk
 refine(show lw (cT (iu Φ) F1 59 [.g [vo]] N1 (c2+6) (Φ 59)) _ from(w59 Φ h59 h77 h52 h54 h71 okn (((hw.grow hW.gr).grow g5).lk hlk) hs hwl).mono ?_)
 rintro r M3 c3 ⟨rfl,g3⟩
 refine⟨g3,fun M4 g4 _=>?_⟩
 have hle3:=g4.le
 have lk:(look F M4 (c2+4)).isNone=true:=by rw[cH (g4.old _ (by omega)),ok2.look (by omega)];rfl
 have hc2:=hW.hc
 have rf:bU (c2+4) [(2,pb),(0,c+2)]=true:=by rw[aU _ _ _ _ (by omega),aU _ _ _ _ (by omega),cF]
 have gZ:=(g5.trans g4).set (c2+4) (d7 [V.s 0 0] 9 [sV [62,62],sV (cw w)]) (by omega) (by omega) (aj _)
 have hF:flatten (sV (cw w))=[sV (cw w)]:=rfl
 have hO:bO (sV (cw w))=true:=rfl
 simp only[WX,Nat.reducePow,Nat.reduceDiv,Nat.reduceMod,Nat.reduceBEq,Nat.reduceAdd,lk,rf,uw,mj,rq,hF,hO]
 refine du ((w57 Φ h57 (hW.grow gZ) (mB [[62,62],cw w] (am _ _ _) (by omega)) hz).mono ?_)
 rintro _ M5 c5 ⟨hW5,K5⟩
 refine⟨(hW5.gr.ok ok0).free,?_⟩
 simp only[WX]
 exact hQ (X1 (G1 (X1 (G2 (G1 (X1 (G1 (X4 (X1 (G2 (G1 (bD (bK (X8 (X4 (X2 (X1 []))))))))))))))))) _ _ hW5 ((Kp.of gZ).trans K5)
theorem bY8(Φ:Nat→Option CF)(h57:Φ 57=some zf)(h59:Φ 59=some CR)(h77:Φ 77=some (.orc (aO h77)))(h52:Φ 52=some zL)(h54:Φ 54=some zM)(h71:Φ 71=some xN){F:RO}{M0 M2:Mem}{c c2 pb N i:Nat}{cur:List (List UInt8)}{vl vi vo vc:V}{j:Int}{nt beh:Bool}{w:List Pc}(ok0:cK F M0 c)(hW:pu M0 c M2 c2 cur)(mb:M2.get pb=some (af 39 [.i .i64 j,.b nt,vi,vo,.b beh,vc]))(hp1:c+3≤pb)(hp2:pb<c2)(hw:dw F M0 c vo w)(hs:∀q∈w,q.1.length≤1000000)(hz:dq (cur++[[62],cw w])≤1000000)(u:List (Option V))(Q:Ex→St→Prop)
 (hQ:∀(u:List (Option V)) M' c',pu M0 c M' c' (cur++[[62],cw w])→Kp c M2 c2 M' c'→Q .nrm (.mk ((mD u (.p c 0) (.p (c+1) 0) (.p (c+2) 0) (.f 58 [] [.p (c+2) 0]) (.p pb 0) vl (.i .i64 (N:Int)) (.i .i64 (i:Int)))) [] M' c')):
 Wp Cq (K Φ none 39 F) (.mk ((mD u (.p c 0) (.p (c+1) 0) (.p (c+2) 0) (.f 58 [] [.p (c+2) 0]) (.p pb 0) vl (.i .i64 (N:Int)) (.i .i64 (i:Int)))) [] M2 c2) Q:=by
 have ok2:=hW.gr.ok ok0
 obtain⟨z1,z2,z3⟩:=hw.one
 have hG:∀v,flatten (V.g [v])=[v]:=fun _=>rfl
 have lf:loadN F M2 pb 3 1=some [vo]:=by rw[cO mb,bW _ _ _ _ _ _ (by simp)];rfl
 have b2:load1 F M2 (c+2) 0=some (.f 57 [] [.p (c+1) 0]):=au hW.m2 0
 have hfr:=ok2.free
 simp only[WX,zr,lf,b2]
 have g5:Gr c2 M2 (c2+6) M2:=(Gr.refl ok2).up (by omega)
 have ok5:=g5.ok ok2
 have hwl:(cw w).length≤1000000:=by
  rw[bH]at hz;simp only[dq]at hz;omega
 refine nJ _ _ _ _ _ _ _ _ _ _ _ ok5 ?_
 intro F1 N1 okn hlk
 refine(show lw (cT (iu Φ) F1 59 [.g [vo]] N1 (c2+6) (Φ 59)) _ from(w59 Φ h59 h77 h52 h54 h71 okn (((hw.grow hW.gr).grow g5).lk hlk) hs hwl).mono ?_)
 rintro r M3 c3 ⟨rfl,g3⟩
 refine⟨g3,fun M4 g4 _=>?_⟩
 have hle3:=g4.le
 have lk:(look F M4 (c2+4)).isNone=true:=by rw[cH (g4.old _ (by omega)),ok2.look (by omega)];rfl
 have hc2:=hW.hc
 have rf:bU (c2+4) [(2,pb),(0,c+2)]=true:=by rw[aU _ _ _ _ (by omega),aU _ _ _ _ (by omega),cF]
 have gZ:=(g5.trans g4).set (c2+4) (d7 [V.s 0 0] 9 [sV [62],sV (cw w)]) (by omega) (by omega) (aj _)
 have hF:flatten (sV (cw w))=[sV (cw w)]:=rfl
 have hO:bO (sV (cw w))=true:=rfl
 simp only[WX,Nat.reducePow,Nat.reduceDiv,Nat.reduceMod,Nat.reduceBEq,Nat.reduceAdd,lk,rf,uw,mj,rq,hF,hO]
 refine du ((w57 Φ h57 (hW.grow gZ) (mB [[62],cw w] (am _ _ _) (by omega)) hz).mono ?_)
 rintro _ M5 c5 ⟨hW5,K5⟩
 refine⟨(hW5.gr.ok ok0).free,?_⟩
 simp only[WX]
 exact hQ (X1 (G1 (X1 (G2 (G1 (X1 (G1 (X4 (X1 (G2 (G1 (bD (bK (X8 (X4 (X2 (X1 []))))))))))))))))) _ _ hW5 ((Kp.of gZ).trans K5)
abbrev aE5(u:List (Option V))(x1 x3 x4 x5 x7 x8 x9 x13 x14 x15 x35 x36 x37:V):T:=(.n (.n (.n (.n (.n (fq u 63 31 95) (some x15) (fq u 79 47 111)) (some x7) (aq u 71 39 103 23 87 55 119)) (some x3) (.n (.n (.n (gq u 67) (some x35) (gq u 99)) (uO u 19) (fq u 83 51 115)) (uO u 11) (aq u 75 43 107 27 91 59 123))) (some x1) (.n (.n (aq u 65 33 97 17 81 49 113) (some x9) (aq u 73 41 105 25 89 57 121)) (some x5) (.n (.n (.n (gq u 69) (some x37) (gq u 101)) (uO u 21) (fq u 85 53 117)) (some x13) (aq u 77 45 109 29 93 61 125)))) (uO u 0) (.n (.n (.n (aq u 64 32 96 16 80 48 112) (some x8) (aq u 72 40 104 24 88 56 120)) (some x4) (.n (.n (.n (gq u 68) (some x36) (gq u 100)) (uO u 20) (fq u 84 52 116)) (uO u 12) (aq u 76 44 108 28 92 60 124))) (uO u 2) (.n (.n (aq u 66 34 98 18 82 50 114) (uO u 10) (aq u 74 42 106 26 90 58 122)) (uO u 6) (.n (aq u 70 38 102 22 86 54 118) (some x14) (aq u 78 46 110 30 94 62 126)))))
abbrev Ts(u:List (Option V))(x1 x3 x4 x5 x7 x13 x14 x15 x35 x36 x37:V):T:=(.n (.n (.n (.n (.n (fq u 63 31 95) (some x15) (fq u 79 47 111)) (some x7) (aq u 71 39 103 23 87 55 119)) (some x3) (.n (.n (.n (gq u 67) (some x35) (gq u 99)) (uO u 19) (fq u 83 51 115)) (uO u 11) (aq u 75 43 107 27 91 59 123))) (some x1) (.n (.n (aq u 65 33 97 17 81 49 113) (uO u 9) (aq u 73 41 105 25 89 57 121)) (some x5) (.n (.n (.n (gq u 69) (some x37) (gq u 101)) (uO u 21) (fq u 85 53 117)) (some x13) (aq u 77 45 109 29 93 61 125)))) (uO u 0) (.n (.n (.n (aq u 64 32 96 16 80 48 112) (uO u 8) (aq u 72 40 104 24 88 56 120)) (some x4) (.n (.n (.n (gq u 68) (some x36) (gq u 100)) (uO u 20) (fq u 84 52 116)) (uO u 12) (aq u 76 44 108 28 92 60 124))) (uO u 2) (.n (.n (aq u 66 34 98 18 82 50 114) (uO u 10) (aq u 74 42 106 26 90 58 122)) (uO u 6) (.n (aq u 70 38 102 22 86 54 118) (some x14) (aq u 78 46 110 30 94 62 126)))))
abbrev bH4(u:List (Option V))(x1 x3 x4 x5 x13 x14 x15:V):T:=(.n (.n (.n (.n (.n (fq u 63 31 95) (some x15) (fq u 79 47 111)) (uO u 7) (aq u 71 39 103 23 87 55 119)) (some x3) (.n (aq u 67 35 99 19 83 51 115) (uO u 11) (aq u 75 43 107 27 91 59 123))) (some x1) (.n (.n (aq u 65 33 97 17 81 49 113) (uO u 9) (aq u 73 41 105 25 89 57 121)) (some x5) (.n (aq u 69 37 101 21 85 53 117) (some x13) (aq u 77 45 109 29 93 61 125)))) (uO u 0) (.n (.n (.n (aq u 64 32 96 16 80 48 112) (uO u 8) (aq u 72 40 104 24 88 56 120)) (some x4) (.n (aq u 68 36 100 20 84 52 116) (uO u 12) (aq u 76 44 108 28 92 60 124))) (uO u 2) (.n (.n (aq u 66 34 98 18 82 50 114) (uO u 10) (aq u 74 42 106 26 90 58 122)) (uO u 6) (.n (aq u 70 38 102 22 86 54 118) (some x14) (aq u 78 46 110 30 94 62 126)))))
theorem kJ{a b:List (List UInt8)}{n:Nat}(h:dq (a++b)≤n):dq a≤n:=by rw[bH]at h;omega
theorem bZ4(Φ:Nat→Option CF)(h57:Φ 57=some zf){F:RO}{M0 M2:Mem}{c c2 pb N i k n qb:Nat}{cur:List (List UInt8)}{vl vc:V}(ok0:cK F M0 c)(hW:pu M0 c M2 c2 cur)(hz:dq (cur++(if 0<k then[[124]]else[]))≤1000000)(u:List (Option V))(Q:Ex→St→Prop)
 (hQ:∀(u:List (Option V)) M' c',pu M0 c M' c' (cur++(if 0<k then[[124]]else[]))→Kp c M2 c2 M' c'→Q .nrm (.mk ((aE5 u (.p c 0) (.p (c+1) 0) (.p (c+2) 0) (.f 58 [] [.p (c+2) 0]) (.p pb 0) (.i .i64 (k:Int)) (.p qb 0) vl (.i .i64 (N:Int)) (.i .i64 (i:Int)) vc (.i .i64 (n:Int)) (.i .i64 (k:Int)))) [] M' c')):
 Wp Cm (K Φ none 39 F) (.mk ((aE5 u (.p c 0) (.p (c+1) 0) (.p (c+2) 0) (.f 58 [] [.p (c+2) 0]) (.p pb 0) (.i .i64 (k:Int)) (.p qb 0) vl (.i .i64 (N:Int)) (.i .i64 (i:Int)) vc (.i .i64 (n:Int)) (.i .i64 (k:Int)))) [] M2 c2) Q:=by
 have ok2:=hW.gr.ok ok0
 by_cases hk:0<k
 ·have dk:decide ((0:Int)<(k:Int))=true:=ah (by omega);rw[ac hk]at hz hQ;have b2:load1 F M2 (c+2) 0=some (.f 57 [] [.p (c+1) 0]):=au hW.m2 0;have gZ:=(Gr.refl ok2).set c2 (d7 [V.s 0 0] 9 [sV [124]]) (aj _) (ay _) (aH _);simp only[WX,zr,dk,b2];refine aD ((w57 Φ h57 (hW.grow gZ) (mB [[124]] (am _ _ _) (ay _)) hz).mono ?_);rintro _ M5 c5 ⟨hW5,K5⟩;simp only[WX];exact hQ (X1 (G1 (X1 (G2 (G1 (X1 (G2 (G1 (X2 (X1 (G2 (G1 (bB (X2 (X1 (G2 (G1 (bD (bB (X8 (X1 []))))))))))))))))))))) _ _ hW5 ((Kp.of gZ).trans K5)
 ·have dk:decide ((0:Int)<(k:Int))=false:=ag (by omega);rw[ab hk,bF]at hQ;simp only[WX,zr,dk];exact hQ (X1 (G1 (X1 (G2 (G1 (X1 (G2 (G1 (X2 (X1 (G2 (G1 (bB (X2 (X1 (G2 (G1 (bD (bB (X8 (X1 []))))))))))))))))))))) _ _ hW Kp.refl
theorem m39(Φ:Nat→Option CF)(h57:Φ 57=some zf)(h58:Φ 58=some Vm)(h59:Φ 59=some CR)(h77:Φ 77=some (.orc (aO h77)))(h52:Φ 52=some zL)(h54:Φ 54=some zM)(h71:Φ 71=some xN){F:RO}{M0 M2:Mem}{c c2 pb N i:Nat}{cur:List (List UInt8)}{vl vi vo vc:V}{j:Int}{nt beh:Bool}{wi:List Pc}{cs:List eF}(ok0:cK F M0 c)(hW:pu M0 c M2 c2 cur)(mb:M2.get pb=some (af 39 [.i .i64 j,.b nt,vi,vo,.b beh,vc]))(hp1:c+3≤pb)(hp2:pb<c2)(hw:dw F M0 c vi wi)(hs:∀q∈wi,q.1.length≤1000000)(hc:jg F M0 c vc cs)(hsc:∀x∈cs,J9 x)(hz:dq (cur++gI wi 0 cs)≤1000000)(u:List (Option V))(Q:Ex→St→Prop)
 (hQ:∀(u:List (Option V)) M' c',pu M0 c M' c' (cur++gI wi 0 cs)→Kp c M2 c2 M' c'→Q (.ext 2) (.mk ((mD u (.p c 0) (.p (c+1) 0) (.p (c+2) 0) (.f 58 [] [.p (c+2) 0]) (.p pb 0) vl (.i .i64 (N:Int)) (.i .i64 (i:Int)))) [] M' c')):
 Wp (.loop (.seq Cl Co)) (K Φ none 39 F) (.mk ((Ts u (.p c 0) (.p (c+1) 0) (.p (c+2) 0) (.f 58 [] [.p (c+2) 0]) (.p pb 0) vl (.i .i64 (N:Int)) (.i .i64 (i:Int)) vc (.i .i64 (cs.length:Int)) (.i .i64 0))) [] M2 c2) Q:=by
 have n1:=hc.len
 have mx:=hc.max
 obtain⟨I,hI⟩:∃I:Nat→St→Prop,∀n s',I n s'↔(∃(k c3:Nat) (M3:Mem) (cu:List (List UInt8)) (u:List (Option V)),n=cs.length-k∧k≤cs.length∧s'= .mk ((Ts u (.p c 0) (.p (c+1) 0) (.p (c+2) 0) (.f 58 [] [.p (c+2) 0]) (.p pb 0) vl (.i .i64 (N:Int)) (.i .i64 (i:Int)) vc (.i .i64 (cs.length:Int)) (.i .i64 (k:Int)))) [] M3 c3∧pu M0 c M3 c3 cu∧Kp c M2 c2 M3 c3∧cu++gI wi k (cs.drop k)=cur++gI wi 0 cs):=⟨fun n s'=>_,fun _ _=>Iff.rfl⟩
 refine bw I ?_ cs.length _ ((hI _ _).2 ⟨0,_,_,_,(X1 (G1 (X1 (G2 (G1 (X1 (G1 (X4 (X1 (G2 (G1 (bB (X2 (X1 (G2 (G1 (bD (bB (X8 (X1 [])))))))))))))))))))),rfl,ax _,rfl,hW,Kp.refl,rfl⟩)
 intro n s' hIs
 obtain⟨k,c3,M3,cu,u,rfl,hk,rfl,hW3,K3,he⟩:=(hI _ _).1 hIs
 clear hIs
 by_cases hlt:k<cs.length
 ·have q8:cz .add (.i .i64 (k:Int)) (.i .i64 1)=some (.i .i64 ((k+1:Nat):Int)):=by rw[aX _ _ (by omega) (by omega)];simp
  have d1:decide ((k:Int)<(cs.length:Int))=true:=ah (by omega);obtain⟨b,o,x,hbx,ia,_,ld0,hw0⟩:=cg.at1 hc k hlt;have ia:=ia .i64;have ld:loadN F M3 b o 1=some [x]:=(hW3.gr.loadN hbx _ _).trans ld0;have hw1:ff F M0 c x cs[k]:=hw0;have hd:cs.drop k=cs[k]::cs.drop (k+1):=bX hlt;rw[hd,gI]at he;have hsk:=hsc cs[k] (List.getElem_mem _);generalize cs[k]=w at hw1 hsk he;generalize hR:gI wi (k+1) (cs.drop (k+1))=R at he;obtain⟨A,hA⟩:∃A,(if 0<k then[[(124:UInt8)]]else[])=A:=⟨_,rfl⟩
  obtain⟨C,hC⟩:∃C,(if(decide (k=0)&&hasW wi)=true then[[60],cw wi]else[])=C:=⟨_,rfl⟩
  rw[hA,hC]at he;have hzA:dq (cu++A)≤1000000:=kJ (b:=w.map cw++(C++R)) (by rw[aQ,he];exact hz);have hzB:dq (cu++A++w.map cw)≤1000000:=kJ (b:=C++R) (by rw[aQ,aQ,he];exact hz);have hzC:dq (cu++A++w.map cw++C)≤1000000:=kJ (b:=R) (by rw[aQ,aQ,aQ,he];exact hz);obtain⟨y1,y2,y3⟩:=hw1.one;have hG:∀v,flatten (V.g [v])=[v]:=fun _=>rfl;have ok3:=hW3.gr.ok ok0;have sn:bS (M3.set c3 (af 42 [.l0])) c3 0 [x]=some (M3.set c3 (af 42 [x])):=dS rfl y3;have gY:=(Gr.refl ok3).set c3 (af 42 [x]) (aj _) (ay _) (aH _);have my:(M3.set c3 (af 42 [x])).get c3=some (af 42 [x]):=am _ _ _;have hWY:=hW3.grow gY;have KY:=K3.trans (Kp.of gY);generalize M3.set c3 (af 42 [x])=Y at sn gY my hWY KY;have hc3:=hW3.hc;simp only[WX,Un,Uo,Us,Ut,d1,ia,ld,hG,sn];refine bZ4 Φ h57 ok0 hWY (by rw[hA];exact hzA) (X1 (G1 (X1 (G2 (G1 (X1 (G2 (G1 (X2 (X1 (G2 (G1 (bB (X2 (X1 (G2 (G1 (bD (bB (X8 (X1 []))))))))))))))))))))) _ ?_;intro u M4 c4 hW4 K4;rw[hA]at hW4;have kx:loadN F M4 c3 0 1=some [x]:=aY (K4.2 c3 42 [x] (ay _) (by omega) (by omega) my) 1 rfl;simp only[WX,Up,kx];refine aD ((w58 Φ h58 h57 h59 h77 h52 h54 h71 ok0 hW4 hw1 hsk hzB).mono ?_);rintro _ M5 c5 ⟨hW5,K5⟩;have K6:=KY.trans (K4.trans K5);have mb6:=K6.2 pb 39 _ hp2 (by omega) (by omega) mb;have hle6:=K6.1;have m62:load1 F M5 pb 2=some vi:=au mb6 2;have ni:=hw.len;have di:=qT wi;have NXT:∀(u:List (Option V)) M' c',pu M0 c M' c' (cu++A++w.map cw++C)→Kp c M5 c5 M' c'→I (cs.length-(k+1)) (.mk ((Ts u (.p c 0) (.p (c+1) 0) (.p (c+2) 0) (.f 58 [] [.p (c+2) 0]) (.p pb 0) vl (.i .i64 (N:Int)) (.i .i64 (i:Int)) vc (.i .i64 (cs.length:Int)) (.i .i64 ((k+1:Nat):Int)))) [] M' c'):=by
   intro u M' c' hW' K';exact(hI _ _).2 ⟨k+1,_,_,_,(X1 (G1 (X1 (G2 (G1 (X1 (G1 (X4 (X1 (G2 (G1 (bB (X2 (X1 (G2 (G1 (bD (bB (X8 (X1 [])))))))))))))))))))),rfl,hlt,rfl,hW',K6.trans K',by rw[hR,←he];simp only[aQ]⟩
  by_cases hk0:k=0
  ·have d0:decide ((k:Int)=0)=true:=ah (by omega);rw[ah hk0,Bool.true_and]at hC;cases hI0:hasW wi with
   |true=>
    rw[hI0]at di;rw[ac hI0]at hC;subst hC;simp only[WX,Uq,Ur,d0,m62,ni,di,aB];refine bZ0 Φ h57 h59 h77 h52 h54 h71 ok0 hW5 mb6 hp1 (by omega) hw hs hzC (X1 (G1 (X1 (G2 (G1 (X1 (G2 (X4 (G2 (G1 (bB (X2 (X1 (G2 (G1 (bD (bB (X8 (X1 []))))))))))))))))))) _ ?_;intro u M7 c7 hW7 K7;simp only[WX,zr,q8];exact⟨cs.length-(k+1),by omega,NXT (X1 (G1 (X1 (G2 (G1 (X1 (G1 (X4 (X1 (G2 (G1 (bB (X2 (X1 (G2 (G1 (bD (bB (X8 (X1 [])))))))))))))))))))) _ _ hW7 K7⟩
   |false=>
    rw[hI0]at di;rw[ab (by rw[hI0];simp)]at hC;subst hC;simp only[WX,zr,d0,m62,ni,di,aB,q8];exact⟨cs.length-(k+1),by omega,NXT (X1 (G1 (X1 (G2 (G1 (X1 (G1 (X4 (X1 (G2 (G1 (bB (X2 (X1 (G2 (G1 (bD (bB (X8 (X1 [])))))))))))))))))))) _ _ (by rw[bF];exact hW5) Kp.refl⟩
  ·have d0:decide ((k:Int)=0)=false:=ag (by omega);rw[ag hk0,Bool.false_and,ab (by simp)]at hC;subst hC;simp only[WX,zr,d0,q8];exact⟨cs.length-(k+1),by omega,NXT (X1 (G1 (X1 (G2 (G1 (X1 (G1 (X4 (X1 (G2 (G1 (bB (X2 (X1 (G2 (G1 (bD (bB (X8 (X1 [])))))))))))))))))))) _ _ (by rw[bF];exact hW5) Kp.refl⟩
 ·obtain rfl:k=cs.length:=by omega
  have d1:decide ((cs.length:Int)<(cs.length:Int))=false:=ag (by omega);rw[cm,gI,bF]at he;subst he;simp only[WX,zr,d1];exact hQ (X1 (G1 (X1 (G2 (G1 (X1 (G1 (X4 (X1 (G2 (G1 (bD (bK (X8 (X4 (X2 (X1 []))))))))))))))))) _ _ hW3 K3
theorem bZ3(Φ:Nat→Option CF)(h57:Φ 57=some zf)(h59:Φ 59=some CR)(h77:Φ 77=some (.orc (aO h77)))(h52:Φ 52=some zL)(h54:Φ 54=some zM)(h71:Φ 71=some xN){F:RO}{M0 M2:Mem}{c c2 pb N i:Nat}{cur:List (List UInt8)}{vl vi vo vc:V}{j:Int}{nt beh:Bool}{w:List Pc}(ok0:cK F M0 c)(hW:pu M0 c M2 c2 cur)(mb:M2.get pb=some (af 39 [.i .i64 j,.b nt,vi,vo,.b beh,vc]))(hp1:c+3≤pb)(hp2:pb<c2)(hw:dw F M0 c vo w)(hs:∀q∈w,q.1.length≤1000000)(hz:dq (cur++jD beh w)≤1000000)(u:List (Option V))(Q:Ex→St→Prop)
 (hQ:∀(u:List (Option V)) M' c',pu M0 c M' c' (cur++jD beh w)→Q .nrm (.mk ((mD u (.p c 0) (.p (c+1) 0) (.p (c+2) 0) (.f 58 [] [.p (c+2) 0]) (.p pb 0) vl (.i .i64 (N:Int)) (.i .i64 (i:Int)))) [] M' c')):
 Wp Cr (K Φ none 39 F) (.mk ((mD u (.p c 0) (.p (c+1) 0) (.p (c+2) 0) (.f 58 [] [.p (c+2) 0]) (.p pb 0) vl (.i .i64 (N:Int)) (.i .i64 (i:Int)))) [] M2 c2) Q:=by
 have l4:load1 F M2 pb 4=some (.b beh):=au mb 4
 have l3:load1 F M2 pb 3=some vo:=au mb 3
 have no:=hw.len
 have do':=qT w
 unfold jD at hz hQ
 cases beh with
 |true=>
  rw[ac rfl]at hz hQ;simp only[WX,Ey,Ez,l4];exact bY7 Φ h57 h59 h77 h52 h54 h71 ok0 hW mb hp1 hp2 hw hs hz (X1 (G1 (X1 (G2 (G1 (X1 (G1 (X4 (X1 (G2 (G1 (bD (bK (X8 (X4 (X2 (X1 []))))))))))))))))) _ fun u M' c' h _=>hQ u M' c' h
 |false=>
  rw[ab (by simp)]at hz hQ;cases hO:hasW w with
  |true=>
   rw[hO]at do'
   rw[ac hO]at hz hQ;simp only[WX,Ey,Uu,Uv,Ez,l4,l3,no,do',aB];exact bY8 Φ h57 h59 h77 h52 h54 h71 ok0 hW mb hp1 hp2 hw hs hz (X1 (G1 (X1 (G2 (G1 (X1 (G1 (X4 (X1 (G2 (G1 (bD (bK (X8 (X4 (X2 (X1 []))))))))))))))))) _ fun u M' c' h _=>hQ u M' c' h
  |false=>
   rw[hO]at do'
   rw[ab (by rw[hO];simp),bF]at hQ;simp only[WX,zr,l4,l3,no,do',aB];exact hQ (X1 (G1 (X1 (G2 (G1 (X1 (G1 (X4 (X1 (G2 (G1 (bD (bK (X8 (X4 (X2 (X1 []))))))))))))))))) _ _ hW
theorem w39(Φ:Nat→Option CF)(h:Φ 39=some c39)(h33:Φ 33=some QQ)(h57:Φ 57=some zf)(h58:Φ 58=some Vm)(h59:Φ 59=some CR)(h60:Φ 60=some QS)(h79:Φ 79=some Vo)(h89:Φ 89=some QU)(h77:Φ 77=some (.orc (aO h77)))(h52:Φ 52=some zL)(h54:Φ 54=some zM)(h71:Φ 71=some xN){F:RO}{M:Mem}{c:Nat}(ok:cK F M c){vl:V}{l:List dD}(hl:iF F M c vl l)(hj:∀p∈l,0≤p.join∧p.join≤3)(hS:∀p∈l,GM p)(hz:dq (kZ l)≤1000000):
 Calls Φ F 39 [.g [vl]] M c fun r M' c'=>r=sV (dA [32] (kZ l))∧Gr c M c' M':=by
 refine aN h ?_
 obtain⟨y1,y2,y3⟩:=hl.one
 have hG:∀v,flatten (V.g [v])=[v]:=fun _=>rfl
 have n1:=hl.len
 have mx:=hl.max
 have sn:bS (((M.set c (af 25 [vl])).set (c+1) (af 69 [.l0])).set (c+2) (af 105 [.f0])) (c+2) 0 [.f 57 [] [.p (c+1) 0]]=some (((M.set c (af 25 [vl])).set (c+1) (af 69 [.l0])).set (c+2) (af 105 [.f 57 [] [.p (c+1) 0]])):=dS rfl rfl
 have g3:Gr c M (c+3) (((M.set c (af 25 [vl])).set (c+1) (af 69 [.l0])).set (c+2) (af 105 [.f 57 [] [.p (c+1) 0]])):=(((Gr.refl ok).set c _ (aj _) (ay _) (aH _)).set (c+1) _ (by omega) (show c+1<c+2 by omega) (by omega)).set (c+2) _ (by omega) (by omega) (by omega)
 have k0:load1 F (((M.set c (af 25 [vl])).set (c+1) (af 69 [.l0])).set (c+2) (af 105 [.f 57 [] [.p (c+1) 0]])) c 0=some vl:=au (ty:=25) (l:=[vl]) (by rw[ak _ _ (by omega),ak _ _ (by omega),am]) 0
 have hW0:pu M c (((M.set c (af 25 [vl])).set (c+1) (af 69 [.l0])).set (c+2) (af 105 [.f 57 [] [.p (c+1) 0]])) (c+3) []:=⟨g3,aj _,⟨.l0,0,by rw[ak _ _ (by omega),am],bm.nil⟩,am _ _ _⟩
 have hfn:∀a b c,flatten (V.f a b c)=[V.f a b c]:=fun _ _ _=>rfl
 simp only[WX,Nat.reduceAdd,zr,hG,y3,sn,hfn,k0,n1,aB]
 generalize((M.set c (af 25 [vl])).set (c+1) (af 69 [.l0])).set (c+2) (af 105 [.f 57 [] [.p (c+1) 0]])=X at g3 hW0⊢
 clear k0 sn
 obtain⟨I,hI⟩:∃I:Nat→St→Prop,∀n s',I n s'↔(∃(i c1:Nat) (M1:Mem) (cur:List (List UInt8)) (u:List (Option V)),n=l.length-i∧i≤l.length∧s'= .mk ((bH4 u (.p c 0) (.p (c+1) 0) (.p (c+2) 0) (.f 58 [] [.p (c+2) 0]) vl (.i .i64 (l.length:Int)) (.i .i64 (i:Int)))) [] M1 c1∧pu M c M1 c1 cur∧cur++kZ (l.drop i)=kZ l):=⟨fun n s'=>_,fun _ _=>Iff.rfl⟩
 refine bw I ?_ l.length _ ((hI _ _).2 ⟨0,_,_,_,(X1 (G1 (X1 (G2 (G1 (X4 (X2 (X1 (G2 (G1 (bD (bK (X8 (X4 (X2 (X1 [])))))))))))))))),rfl,ax _,rfl,hW0,rfl⟩)
 intro n s' hIs
 obtain⟨i,c1,M1,cur,u,rfl,hi,rfl,hW,he⟩:=(hI _ _).1 hIs
 clear hIs
 by_cases hlt:i<l.length
 ·have q8:cz .add (.i .i64 (i:Int)) (.i .i64 1)=some (.i .i64 ((i+1:Nat):Int)):=by rw[aX _ _ (by omega) (by omega)];simp
  have d1:decide ((i:Int)<(l.length:Int))=true:=ah (by omega);obtain⟨b,o,e,hbx,ia,ld0,el,hp⟩:=hl.at (by decide) i hlt;have ia:=ia .i64;have ld:loadN F M1 b o 6=some e:=(hW.gr.loadN hbx _ _).trans ld0;have hd:l.drop i=l[i]::l.drop (i+1):=bX hlt;rw[hd,kZ]at he;obtain⟨hj0,hj3⟩:=hj l[i] (List.getElem_mem _);obtain⟨hsi,hso,hsc,_,_⟩:=hS l[i] (List.getElem_mem _);generalize l[i]=p at hp he hj0 hj3 hsi hso hsc;generalize hR:kZ (l.drop (i+1))=R at he;unfold I4 at he;obtain⟨A,hA⟩:∃A,(if 0<p.join then[tA p.join.toNat]else[])=A:=⟨_,rfl⟩
  obtain⟨B,hB⟩:∃B,(if p.nt=true then[[(33:UInt8)]]else[])=B:=⟨_,rfl⟩
  rw[hA,hB]at he;obtain⟨vi,vo,vc,rfl,a1,a2,a3⟩:=hp;have he2:cur++(A++(B++(gI p.inp 0 p.cmds++(jD p.beh p.out++R))))=kZ l:=by rw[←he];simp only[aQ]
  have hzA:dq (cur++A)≤1000000:=kJ (b:=B++(gI p.inp 0 p.cmds++(jD p.beh p.out++R))) (by rw[aQ,he2];exact hz);have hzB:dq (cur++A++B)≤1000000:=kJ (b:=gI p.inp 0 p.cmds++(jD p.beh p.out++R)) (by rw[aQ,aQ,he2];exact hz);have hzC:dq (cur++A++B++gI p.inp 0 p.cmds)≤1000000:=kJ (b:=jD p.beh p.out++R) (by rw[aQ,aQ,aQ,he2];exact hz);have hzD:dq (cur++A++B++gI p.inp 0 p.cmds++jD p.beh p.out)≤1000000:=kJ (b:=R) (by rw[aQ,aQ,aQ,aQ,he2];exact hz);obtain⟨p1,p2,p3⟩:=a1.one;obtain⟨o1,o2,o3⟩:=a2.one;obtain⟨r1,r2,r3⟩:=a3.one;have hG6:flatten (V.g [.i .i64 p.join,.b p.nt,vi,vo,.b p.beh,vc])=[.i .i64 p.join,.b p.nt,vi,vo,.b p.beh,vc]:=rfl;have hA6:aL [.i .i64 p.join,.b p.nt,vi,vo,.b p.beh,vc]=true:=by
   rw[aw,aw,aw,aw,aw,aw,bZ,p1,o1,r1];rfl
  have ok1:=hW.gr.ok ok;have sn:bS (M1.set c1 (af 39 [.i .i64 0,.b false,.l0,.l0,.b false,.l0])) c1 0 [.i .i64 p.join,.b p.nt,vi,vo,.b p.beh,vc]=some (M1.set c1 (af 39 [.i .i64 p.join,.b p.nt,vi,vo,.b p.beh,vc])):=dS rfl hA6;have gY:=(Gr.refl ok1).set c1 (af 39 [.i .i64 p.join,.b p.nt,vi,vo,.b p.beh,vc]) (aj _) (ay _) (aH _);have my:(M1.set c1 (af 39 [.i .i64 p.join,.b p.nt,vi,vo,.b p.beh,vc])).get c1=some (af 39 [.i .i64 p.join,.b p.nt,vi,vo,.b p.beh,vc]):=am _ _ _;have hWY:=hW.grow gY;generalize M1.set c1 (af 39 [.i .i64 p.join,.b p.nt,vi,vo,.b p.beh,vc])=Y at sn gY my hWY;have hc1:=hW.hc;simp only[WX,Nat.reduceAdd,aI3,aI4,Uy,Uz,d1,ia,ld,hG6,Bool.and_self,sn];refine bZ1 Φ h33 h57 ok hWY my (by omega) (ay _) hj0 hj3 (by rw[hA];exact hzA) (X1 (G1 (X1 (G2 (G1 (X1 (G1 (X4 (X1 (G2 (G1 (bD (bK (X8 (X4 (X2 (X1 []))))))))))))))))) _ ?_;intro u M2 c2 hW2 K2;rw[hA]at hW2;have m2:=K2.2 c1 39 _ (ay _) (by omega) (by omega) my;have hle2:=K2.1;simp only[WX];refine bZ2 Φ h57 ok hW2 m2 (by rw[hB];exact hzB) (X1 (G1 (X1 (G2 (G1 (X1 (G1 (X4 (X1 (G2 (G1 (bD (bK (X8 (X4 (X2 (X1 []))))))))))))))))) _ ?_;intro u M3 c3 hW3 K3;rw[hB]at hW3;have m3:=K3.2 c1 39 _ (by omega) (by omega) (by omega) m2;have hle3:=K3.1;have k5:load1 F M3 c1 5=some vc:=au m3 5;have nc:=a3.len;simp only[WX,Um,Uw,k5,nc];refine m39 Φ h57 h58 h59 h77 h52 h54 h71 ok hW3 m3 (by omega) (by omega) a1 hsi a3 hsc hzC (X1 (G1 (X1 (G2 (G1 (X1 (G1 (X4 (X1 (G2 (G1 (bB (X2 (X1 (G2 (G1 (bD (bB (X8 (X1 [])))))))))))))))))))) _ ?_;intro u M4 c4 hW4 K4;have m4:=K4.2 c1 39 _ (by omega) (by omega) (by omega) m3;have hle4:=K4.1;simp only[WX,Nat.reduceEqDiff,reduceCtorEq,Ux,UA];refine bZ3 Φ h57 h59 h77 h52 h54 h71 ok hW4 m4 (by omega) (by omega) a2 hso hzD (X1 (G1 (X1 (G2 (G1 (X1 (G1 (X4 (X1 (G2 (G1 (bD (bK (X8 (X4 (X2 (X1 []))))))))))))))))) _ ?_;intro u M5 c5 hW5;simp only[WX,zr,q8];exact⟨l.length-(i+1),by omega,(hI _ _).2 ⟨i+1,_,_,_,(X1 (G1 (X1 (G2 (G1 (X4 (X2 (X1 (G2 (G1 (bD (bK (X8 (X4 (X2 (X1 [])))))))))))))))),rfl,hlt,rfl,hW5,by rw[hR,←he2];simp only[aQ]⟩⟩
 ·obtain rfl:i=l.length:=by omega
  have d1:decide ((l.length:Int)<(l.length:Int))=false:=ag (by omega);rw[cm,kZ,bF]at he;subst he;obtain⟨gr,hc,⟨v,b,h1,h2⟩,m2⟩:=hW;have l1:load1 F M1 (c+1) 0=some v:=au h1 0;simp only[WX,zr,d1,l1];have e32:V.s 1 32=sV [32]:=rfl;rw[e32];refine aD ((r60 Φ h60 h79 h52 h54 h71 h89 (gr.ok ok) h2.sl hz (by decide) (by decide)).mono ?_);rintro r M2 c2 ⟨rfl,g2⟩;simp only[WX];exact gr.trans g2
abbrev Tt(u:List (Option V))(x1 x3 x4 x5 x6:V):T:=(.n (.n (.n (.n (aq u 63 31 95 15 79 47 111) (uO u 7) (aq u 71 39 103 23 87 55 119)) (some x3) (.n (aq u 67 35 99 19 83 51 115) (uO u 11) (aq u 75 43 107 27 91 59 123))) (some x1) (.n (.n (aq u 65 33 97 17 81 49 113) (uO u 9) (aq u 73 41 105 25 89 57 121)) (some x5) (.n (aq u 69 37 101 21 85 53 117) (uO u 13) (aq u 77 45 109 29 93 61 125)))) (uO u 0) (.n (.n (.n (aq u 64 32 96 16 80 48 112) (uO u 8) (aq u 72 40 104 24 88 56 120)) (some x4) (.n (aq u 68 36 100 20 84 52 116) (uO u 12) (aq u 76 44 108 28 92 60 124))) (uO u 2) (.n (.n (aq u 66 34 98 18 82 50 114) (uO u 10) (aq u 74 42 106 26 90 58 122)) (some x6) (.n (aq u 70 38 102 22 86 54 118) (uO u 14) (aq u 78 46 110 30 94 62 126)))))
abbrev Gh(u:List (Option V))(x1 x3 x4 x5 x6 x7:V):T:=(.n (.n (.n (.n (aq u 63 31 95 15 79 47 111) (some x7) (aq u 71 39 103 23 87 55 119)) (some x3) (.n (aq u 67 35 99 19 83 51 115) (uO u 11) (aq u 75 43 107 27 91 59 123))) (some x1) (.n (.n (aq u 65 33 97 17 81 49 113) (uO u 9) (aq u 73 41 105 25 89 57 121)) (some x5) (.n (aq u 69 37 101 21 85 53 117) (uO u 13) (aq u 77 45 109 29 93 61 125)))) (uO u 0) (.n (.n (.n (aq u 64 32 96 16 80 48 112) (uO u 8) (aq u 72 40 104 24 88 56 120)) (some x4) (.n (aq u 68 36 100 20 84 52 116) (uO u 12) (aq u 76 44 108 28 92 60 124))) (uO u 2) (.n (.n (aq u 66 34 98 18 82 50 114) (uO u 10) (aq u 74 42 106 26 90 58 122)) (some x6) (.n (aq u 70 38 102 22 86 54 118) (uO u 14) (aq u 78 46 110 30 94 62 126)))))
def Zw:CC:=(.reg [(aa a1 (.bx 25 1 z0)),(qq a2 (.mv (.c (.s 0 0))))])
def bL0:=wu Zw.eq_1
def Zx:CC:=(.reg [(qq a3 (.mv (.c (.s 0 0))))])
def bL1:=wu Zx.eq_1
def Zy:CC:=(.reg [(qq a4 (.mv (x6 0)))])
def bL2:=wu Zy.eq_1
def Zz:CC:=(.reg [(qq a9 (.mv z4)),(qq dT (.fa 0 z1)),(qq eP (.ld1 ft)),(qq fg (.ln .slice dL)),(qq eQ (.bi .lss z9 eN))])
def aI1:=wu Zz.eq_1
def ZA:CC:=(.reg [(qq fu (.fa 0 z1)),(qq gL (.ld1 iA)),(qq fy (.mv z4)),(qq jr (.iaS 6 iB iC)),(qq gH (.ldn 6 l8)),(aa a5 (.al 39 [(.i .i64 0),(.b false),.l0,.l0,(.b false),.l0])),(ez (.st 6 z5 la))])
def aI2:=wu ZA.eq_1
def ZB:CC:=(.reg [(qq fY (.mv z4)),(qq jt (.bi .gtr kL (x6 0)))])
def bL3:=wu ZB.eq_1
def ZC:CC:=(.reg [(qq gU (.mv z3)),(aa jX (.bsl 9 4 1 [(.s 0 0)] [(0,(.c (.s 0 0))),(1,(.c (.s 3 2112288))),(2,(.c (.s 4 539371040))),(3,(.c (.s 4 545029152)))])),(qq gv (.fa 0 z5)),(qq kd (.ld1 lB)),(qq gV (.iaS 1 kM nl)),(qq lE (.ld1 nn)),(qq ip (.bi .add lg nK)),(qq a3 (.mv ot))])
def bL4:=wu ZC.eq_1
def Mw:CC:=(.seq ZB (.cond lA ZC .skip))
def bL5:=wu Mw.eq_1
def ZD:CC:=(.reg [(qq ke (.fa 1 z5)),(qq lj (.ld1 oz))])
def Ul:=wu ZD.eq_1
def LP:CC:=(.reg [(qq np (.mv z3)),(qq nM (.bi .add pz (.c (.s 2 8225)))),(qq a3 (.mv ru))])
def Uh:=wu LP.eq_1
def LQ:CC:=(.seq ZD (.cond pq LP .skip))
def Eo:=wu LQ.eq_1
def LT:CC:=(.reg [(qq a6 (.mv (x6 0)))])
def b85:=wu LT.eq_1
def LU:CC:=(.reg [(qq jY (.mv z6)),(qq jZ (.fa 5 z5)),(qq nN (.ld1 rx)),(qq k8 (.ln .slice sC)),(qq nq (.bi .lss rv qF))])
def Ep:=wu LU.eq_1
def LV:CC:=(.seq LU (.cond rU .skip (.exit 2)))
def Er:=wu LV.eq_1
def LW:CC:=(.reg [(qq js (.mv z6)),(qq lF (.bi .gtr ry (x6 0)))])
def Es:=wu LW.eq_1
def LX:CC:=(.reg [(qq pD (.mv z3)),(qq ng (.bi .add sF (.c (.s 3 2128928)))),(qq a3 (.mv rW))])
def Ui:=wu LX.eq_1
def LY:CC:=(.seq LW (.cond sE LX .skip))
def Et:=wu LY.eq_1
def LZ:CC:=(.reg [(qq a7 (.mv (x6 0)))])
def Eu:=wu LZ.eq_1
def Mb:CC:=(.reg [(qq pE (.mv z7)),(qq lG (.fa 5 z5)),(qq pF (.ld1 vm)),(qq kQ (.mv z6)),(qq nh (.iaS 1 sG uE)),(qq px (.fa 0 vn)),(qq rA (.ld1 vp)),(qq oD (.ln .slice uM)),(qq sP (.bi .lss rX vq))])
def b86:=wu Mb.eq_1
def Mc:CC:=(.seq Mb (.cond wM .skip (.exit 4)))
def b87:=wu Mc.eq_1
def Md:CC:=(.reg [(qq uI (.mv z7)),(qq vw (.bi .gtr wN (x6 0)))])
def b88:=wu Md.eq_1
def Me:CC:=(.reg [(qq vz (.mv z3)),(qq rZ (.bi .add Bd (.c (.s 1 32)))),(qq a3 (.mv Be))])
def b89:=wu Me.eq_1
def Mf:CC:=(.seq Md (.cond Bx Me .skip))
def b90:=wu Mf.eq_1
def Mg:CC:=(.reg [(qq vA (.mv z3)),(qq s5 (.fa 5 z5)),(qq sQ (.ld1 Bz)),(qq ou (.mv z6)),(qq vC (.iaS 1 Bg zm)),(qq uT (.fa 0 BA)),(qq oE (.ld1 zb)),(qq qJ (.mv z7)),(qq uU (.iaS 1 zn wO)),(qq uV (.ldn 1 zo)),(ee vD (.call 42 [zp])),(qq py (.bi .add Bf BB)),(qq a3 (.mv Bh))])
def b91:=wu Mg.eq_1
def Mh:CC:=(.reg [(qq pG (.mv z7)),(qq pH (.bi .add za (x6 1))),(qq a7 (.mv zl))])
def b92:=wu Mh.eq_1
def xp:CC:=(.loop (.seq Mc (.seq (.block 5 (.seq Mf Mg)) Mh)))
def b93:=wu xp.eq_1
def Mi:CC:=(.reg [(qq vE (.mv z6)),(qq fA (.bi .eql BC (x6 0))),(qq qK (.mv uF)),(aF uJ (.fa 2 z5) qK),(aF wW (.fa 0 BE) qK),(aF zc (.ld1 BF) qK),(aF zd (.ln .slice EK) qK),(aF ze (.bi .gtr EL (x6 0)) qK),(qq vF (.pk BD EM xF))])
def b94:=wu Mi.eq_1
def Mj:CC:=(.reg [(qq zx (.mv z3)),(qq pI (.bi .add GC (.c (.s 3 2112544)))),(qq uW (.fa 2 z5)),(qq BJ (.ldn 1 GE)),(ee wX (.call 42 [GF])),(qq BK (.bi .add GD GG)),(qq a3 (.mv IK))])
def b95:=wu Mj.eq_1
def Cg:CC:=(.seq Mi (.cond GB Mj .skip))
def b96:=wu Cg.eq_1
def Mk:CC:=(.block 3 (.seq LY (.seq (.seq LZ (.block 4 xp)) Cg)))
def Ew:=wu Mk.eq_1
def Ch:CC:=(.reg [(qq mN (.mv z6)),(qq pC (.bi .add rV (x6 1))),(qq a6 (.mv sD))])
def b97:=wu Ch.eq_1
def xq:CC:=(.seq LT (.block 2 (.loop (.seq LV (.seq Mk Ch)))))
def b98:=wu xq.eq_1
def xr:CC:=(.reg [(qq BL (.fa 3 z5)),(qq sR (.fa 0 GH)),(qq EU (.ld1 IL)),(qq GT (.ln .slice IM)),(qq EV (.bi .gtr J1 (x6 0)))])
def b99:=wu xr.eq_1
def Ml:CC:=(.reg [(qq a8 (.mv (.c (.s 3 2113056))))])
def ba0:=wu Ml.eq_1
def Mn:CC:=(.reg [(qq EW (.fa 4 z5)),(qq BM (.ld1 J3))])
def ba1:=wu Mn.eq_1
def Mo:CC:=(.reg [(qq a8 (.mv (.c (.s 4 540950048))))])
def ba2:=wu Mo.eq_1
def Mp:CC:=(.seq Mn (.cond J4 Mo .skip))
def ba3:=wu Mp.eq_1
def Mq:CC:=(.reg [(qq GU (.mv z3)),(qq Jp (.mv z8)),(qq zy (.bi .add J5 Vr)),(qq Jq (.fa 3 z5)),(qq Jr (.ldn 1 Vt)),(ee Js (.call 42 [Vu])),(qq rz (.bi .add Vs Vv)),(qq a3 (.mv uD))])
def ba4:=wu Mq.eq_1
def xu:CC:=(.cond J2 (.seq Ml (.seq Mp Mq)) .skip)
def ba5:=wu xu.eq_1
def Mt:CC:=(.seq Mw (.seq LQ (.seq xq (.seq xr xu))))
def Uj:=wu Mt.eq_1
def Ci:CC:=(.reg [(qq fh (.mv z4)),(qq dM (.bi .add gb (x6 1))),(qq a4 (.mv gK))])
def ba6:=wu Ci.eq_1
def Mu:CC:=(.seq (.seq Zz (.cond ed .skip (.exit 0))) (.seq (.block 1 (.seq ZA Mt)) Ci))
def Uk:=wu Mu.eq_1
def Cj:CC:=(.reg [(qq iX (.mv z3)),(qq a2 (.mv EJ))])
def ba7:=wu Cj.eq_1
def Mv:CC:=(.seq (.seq Zy (.block 0 (.loop Mu))) (.seq Cj .ret))
def ba8:=wu Mv.eq_1
def c19:CF:= .mk 7 [.t a2] (.seq Zw (.seq Zx Mv))
theorem e19(v0:V):bz 7 [v0]=(.n vg (some v0) vg):=rfl
def vr:=ai @e19 (ai @bL0 (ai @bL1 (ai @bL2 (ai @aI1 (ai @aI2 (ai @bL3 (ai @bL4 (ai @bL5 (ai @Ul (ai @Uh (ai @Eo (ai @b85 (ai @Ep (ai @Er (ai @Es (ai @Ui (ai @Et (ai @Eu (ai @b86 (ai @b87 (ai @b88 (ai @b89 (ai @b90 (ai @b91 (ai @b92 (ai @b93 (ai @b94 (ai @b95 (ai @b96 (ai @Ew (ai @b97 (ai @b98 (ai @b99 (ai @ba0 (ai @ba1 (ai @ba2 (ai @ba3 (ai @ba4 (ai @ba5 (ai @Uj (ai @ba6 (ai @Uk (ai @ba7 (@ba8))))))))))))))))))))))))))))))))))))))))))))
def ga:Nat→eF→List UInt8
 |_,[]=>[]
 |m,w::r=>(if 0<m then[32]else[])++(cw w++ga (m+1) r)
def WJ(k:Nat)(inp:List Pc):List UInt8:=if(decide (k=0)&&hasW inp)=true then[32,60,32]++cw inp else[]
def iY(inp:List Pc):Nat→List eF→List UInt8
 |_,[]=>[]
 |k,c::r=>(if 0<k then[32,124,32]else[])++(ga 0 c++(WJ k inp++iY inp (k+1) r))
def lu(beh:Bool)(out:List Pc):List UInt8:=if hasW out=true then(if beh=true then[32,62,62,32]else[32,62,32])++cw out else[]
def Dl:Nat→List UInt8
 |1=>[32,59,32]
 |2=>[32,38,38,32]
 |3=>[32,124,124,32]
 |_=>[]
def rt:Nat→List dD→List UInt8
 |_,[]=>[]
 |i,p::r=>(if 0<i then Dl p.join.toNat else[])++((if p.nt=true then[33,32]else[])++(iY p.inp 0 p.cmds++(lu p.beh p.out++rt (i+1) r)))
theorem fe{a b:List UInt8}{n:Nat}(h:(a++b).length≤n):a.length≤n:=by rw[aG]at h;omega
theorem iI{a b:List UInt8}(h:(a++b).length≤1000000):cz .add (sV a) (sV b)=some (sV (a++b)):=gw a b (by rw[aG]at h;omega)
theorem l19(Φ:Nat→Option CF)(h42:Φ 42=some W5)(h68:Φ 68=some (.orc (aO h75))){F:RO}{M:Mem}{c c2 pb i k b o:Nat}{cur:List UInt8}{vc x:V}{l:eF}(ok:cK F M c2)(hp2:pb<c2)(A5:load1 F M pb 5=some vc)(ia:fF 1 vc (.i .i64 (k:Int))=some (.p b o))(hb:b<c2)(ld:load1 F M b o=some x)(hl:ff F M c2 x l)(hs:J9 l)(hz:(cur++ga 0 l).length≤1000000)(u:List (Option V))(Q:Ex→St→Prop)
 (hQ:∀(u:List (Option V)) M' c',Gr c2 M c' M'→Q (.ext 4) (.mk ((Tt u (.p c 0) (sV (cur++ga 0 l)) (.i .i64 (i:Int)) (.p pb 0) (.i .i64 (k:Int)))) [] M' c')):
 Wp xp (K Φ none 19 F) (.mk ((Gh u (.p c 0) (sV (cur)) (.i .i64 (i:Int)) (.p pb 0) (.i .i64 (k:Int)) (.i .i64 0))) [] M c2) Q:=by
 have n1:=hl.len
 have mx:=hl.max
 simp only[vr]
 obtain⟨I,hI⟩:∃I:Nat→St→Prop,∀n s',I n s'↔(∃(m c3:Nat) (M3:Mem) (cu:List UInt8) (u:List (Option V)),n=l.length-m∧m≤l.length∧s'= .mk ((Gh u (.p c 0) (sV (cu)) (.i .i64 (i:Int)) (.p pb 0) (.i .i64 (k:Int)) (.i .i64 (m:Int)))) [] M3 c3∧Gr c2 M c3 M3∧cu++ga m (l.drop m)=cur++ga 0 l):=⟨fun n s'=>_,fun _ _=>Iff.rfl⟩
 refine bw I ?_ l.length _ ((hI _ _).2 ⟨0,_,_,_,(X1 (G1 (X1 (G4 (G1 (bD (bK (bB (X4 (X2 (X1 []))))))))))),rfl,ax _,rfl,Gr.refl ok,rfl⟩)
 intro n s' hIs
 obtain⟨m,c3,M3,cu,u,rfl,hm,rfl,gr,he⟩:=(hI _ _).1 hIs
 clear hIs
 have B5:load1 F M3 pb 5=some vc:=(gr.load1 hp2 _).trans A5
 have Bl:load1 F M3 b o=some x:=(gr.load1 hb _).trans ld
 by_cases hlt:m<l.length
 ·have q8:cz .add (.i .i64 (m:Int)) (.i .i64 1)=some (.i .i64 ((m+1:Nat):Int)):=by rw[aX _ _ (by omega) (by omega)];simp
  have d1:decide ((m:Int)<(l.length:Int))=true:=ah (by omega);obtain⟨b',o',y,hbx,iy,_,ldy,hw0⟩:=cg.at1 (hl.grow gr) m hlt;have iy:=iy .i64;have hw:dw F M3 c3 y l[m]:=hw0;have hd:l.drop m=l[m]::l.drop (m+1):=bX hlt;rw[hd,ga]at he;have hsm:=hs l[m] (List.getElem_mem _);generalize l[m]=w at hw hsm he;generalize hR:ga (m+1) (l.drop (m+1))=R at he;obtain⟨A,hA⟩:∃A,(if 0<m then[(32:UInt8)]else[])=A:=⟨_,rfl⟩
  rw[hA]at he;have hzA:(cu++A).length≤1000000:=fe (b:=cw w++R) (by rw[aQ,he];exact hz);have hzB:(cu++A++cw w).length≤1000000:=fe (b:=R) (by rw[aQ,aQ,he];exact hz);have hwl:(cw w).length≤1000000:=by rw[aG]at hzB;omega
  have NXT:∀(u:List (Option V)) M' c',Gr c3 M3 c' M'→I (l.length-(m+1)) (.mk ((Gh u (.p c 0) (sV (cu++A++cw w)) (.i .i64 (i:Int)) (.p pb 0) (.i .i64 (k:Int)) (.i .i64 ((m+1:Nat):Int)))) [] M' c'):=fun u M' c' g=>(hI _ _).2 ⟨m+1,_,_,_,(X1 (G1 (X1 (G4 (G1 (bD (bK (bB (X4 (X2 (X1 []))))))))))),rfl,hlt,rfl,gr.trans g,by rw[hR,←he];simp only[aQ]⟩;have q2:=iI hzB;by_cases hm0:0<m
  ·have d0:decide ((0:Int)<(m:Int))=true:=ah (by omega);rw[ac hm0]at hA;subst hA;have q1:cz .add (sV cu) (.s 1 32)=some (sV (cu++[32])):=iI hzA;simp only[WX,vr,B5,ia,Bl,n1,d1,d0,iy,ldy,q1,aB];refine aD ((w42 Φ h42 h68 (gr.ok ok) hw hsm hwl).mono ?_);rintro r M4 c4 ⟨rfl,g4⟩;simp only[WX,vr,q2,q8];exact⟨l.length-(m+1),by omega,NXT (X1 (G1 (X1 (G4 (G1 (bD (bK (bB (X4 (X2 (X1 []))))))))))) _ _ g4⟩
  ·have d0:decide ((0:Int)<(m:Int))=false:=ag (by omega);rw[ab hm0]at hA;subst hA;rw[bF]at q2 NXT;simp only[WX,vr,B5,ia,Bl,n1,d1,d0,iy,ldy,aB];refine aD ((w42 Φ h42 h68 (gr.ok ok) hw hsm hwl).mono ?_);rintro r M4 c4 ⟨rfl,g4⟩;simp only[WX,vr,q2,q8];exact⟨l.length-(m+1),by omega,NXT (X1 (G1 (X1 (G4 (G1 (bD (bK (bB (X4 (X2 (X1 []))))))))))) _ _ g4⟩
 ·obtain rfl:m=l.length:=by omega
  have d1:decide ((l.length:Int)<(l.length:Int))=false:=ag (by omega);rw[cm,ga,bF]at he;subst he;simp only[WX,vr,B5,ia,Bl,n1,d1,aB];exact hQ (X1 (G1 (X1 (G4 (bD (bK (bB (X8 [])))))))) _ _ gr
theorem m19(Φ:Nat→Option CF)(h42:Φ 42=some W5)(h68:Φ 68=some (.orc (aO h75))){F:RO}{M:Mem}{c c2 pb i:Nat}{cur:List UInt8}{vi vc:V}{wi:List Pc}{cs:List eF}(ok:cK F M c2)(hp2:pb<c2)(A2:load1 F M pb 2=some vi)(A5:load1 F M pb 5=some vc)(L2:loadN F M pb 2 1=some [vi])(hw:dw F M c2 vi wi)(hsi:∀q∈wi,q.1.length≤1000000)(hc:jg F M c2 vc cs)(hsc:∀x∈cs,J9 x)(hz:(cur++iY wi 0 cs).length≤1000000)(u:List (Option V))(Q:Ex→St→Prop)
 (hQ:∀(u:List (Option V)) M' c',Gr c2 M c' M'→Q .nrm (.mk ((nH u (.p c 0) (sV (cur++iY wi 0 cs)) (.i .i64 (i:Int)) (.p pb 0))) [] M' c')):
 Wp xq (K Φ none 19 F) (.mk ((nH u (.p c 0) (sV cur) (.i .i64 (i:Int)) (.p pb 0))) [] M c2) Q:=by
 have n1:=hc.len
 have mx:=hc.max
 have ni:=hw.len
 have di:=qT wi
 simp only[WX,vr]
 obtain⟨I,hI⟩:∃I:Nat→St→Prop,∀n s',I n s'↔(∃(k c3:Nat) (M3:Mem) (cu:List UInt8) (u:List (Option V)),n=cs.length-k∧k≤cs.length∧s'= .mk ((Tt u (.p c 0) (sV (cu)) (.i .i64 (i:Int)) (.p pb 0) (.i .i64 (k:Int)))) [] M3 c3∧Gr c2 M c3 M3∧cu++iY wi k (cs.drop k)=cur++iY wi 0 cs):=⟨fun n s'=>_,fun _ _=>Iff.rfl⟩
 refine bw I ?_ cs.length _ ((hI _ _).2 ⟨0,_,_,_,(X1 (G1 (X1 (G4 (bD (bK (bB (X8 [])))))))),rfl,ax _,rfl,Gr.refl ok,rfl⟩)
 intro n s' hIs
 obtain⟨k,c3,M3,cu,u,rfl,hk,rfl,gr,he⟩:=(hI _ _).1 hIs
 clear hIs
 have B5:load1 F M3 pb 5=some vc:=(gr.load1 hp2 _).trans A5
 by_cases hlt:k<cs.length
 ·have q8:cz .add (.i .i64 (k:Int)) (.i .i64 1)=some (.i .i64 ((k+1:Nat):Int)):=by rw[aX _ _ (by omega) (by omega)];simp
  have d1:decide ((k:Int)<(cs.length:Int))=true:=ah (by omega);obtain⟨b,o,x,hbx,ia,ld,_,hw0⟩:=cg.at1 (hc.grow gr) k hlt;have ia:=ia .i64;have hw1:ff F M3 c3 x cs[k]:=hw0;have hd:cs.drop k=cs[k]::cs.drop (k+1):=bX hlt;rw[hd,iY]at he;have hsk:=hsc cs[k] (List.getElem_mem _);generalize cs[k]=w at hw1 hsk he;generalize hR:iY wi (k+1) (cs.drop (k+1))=R at he;obtain⟨A,hA⟩:∃A,(if 0<k then[(32:UInt8),124,32]else[])=A:=⟨_,rfl⟩
  obtain⟨C,hC⟩:∃C,WJ k wi=C:=⟨_,rfl⟩
  rw[hA,hC]at he;unfold WJ at hC;have hzA:(cu++A).length≤1000000:=fe (b:=ga 0 w++(C++R)) (by rw[aQ,he];exact hz);have hzB:(cu++A++ga 0 w).length≤1000000:=fe (b:=C++R) (by rw[aQ,aQ,he];exact hz);have hzC:(cu++A++ga 0 w++C).length≤1000000:=fe (b:=R) (by rw[aQ,aQ,aQ,he];exact hz);have NXT:∀(u:List (Option V)) M' c',Gr c3 M3 c' M'→I (cs.length-(k+1)) (.mk ((Tt u (.p c 0) (sV (cu++A++ga 0 w++C)) (.i .i64 (i:Int)) (.p pb 0) (.i .i64 ((k+1:Nat):Int)))) [] M' c'):=fun u M' c' g=>(hI _ _).2 ⟨k+1,_,_,_,(X1 (G1 (X1 (G4 (bD (bK (bB (X8 [])))))))),rfl,hlt,rfl,gr.trans g,by rw[hR,←he];simp only[aQ]⟩;have ok3:=gr.ok ok;have hle3:=gr.le;have MID:∀u:List (Option V),Wp xp (K Φ none 19 F) (.mk ((Gh u (.p c 0) (sV (cu++A)) (.i .i64 (i:Int)) (.p pb 0) (.i .i64 (k:Int)) (.i .i64 0))) [] M3 c3) (dF 4 (gJ Cg (K Φ none 19 F) (dF 3 (gJ Ch (K Φ none 19 F) (jo I (cs.length-k) (dF 2 Q)))))):=by
   intro u;refine l19 Φ h42 h68 ok3 (by omega) B5 ia hbx ld hw1 hsk hzB u _ ?_;intro u M4 c4 g4;have G:=gr.trans g4;have Bs:=G.ok ok;have C2:load1 F M4 pb 2=some vi:=(G.load1 hp2 _).trans A2;have D2:loadN F M4 pb 2 1=some [vi]:=(G.loadN hp2 _ _).trans L2;by_cases hk0:k=0
   ·have d0:decide ((k:Int)=0)=true:=ah (by omega);rw[ah hk0,Bool.true_and]at hC;cases hI0:hasW wi with
    |true=>
     rw[hI0]at di;rw[ac hI0]at hC;subst hC;have hwl:(cw wi).length≤1000000:=by simp only[aG]at hzC;omega
     have q1:cz .add (sV (cu++A++ga 0 w)) (.s 3 2112544)=some (sV (cu++A++ga 0 w++[32,60,32])):=iI (fe (b:=cw wi) (by rw[aQ];exact hzC));have q2:cz .add (sV (cu++A++ga 0 w++[32,60,32])) (sV (cw wi))=some (sV (cu++A++ga 0 w++[32,60,32]++cw wi)):=iI (by rw[aQ];exact hzC);rw[←aQ]at NXT;simp only[WX,Nat.reduceEqDiff,vr,d0,C2,D2,ni,di,q1,aB];refine aD ((w42 Φ h42 h68 Bs (hw.grow G) hsi hwl).mono ?_);rintro r M5 c5 ⟨rfl,g5⟩;simp only[WX,vr,q2,q8];exact⟨cs.length-(k+1),by omega,NXT (X1 (G1 (X1 (G4 (bD (bK (bB (X8 [])))))))) _ _ (g4.trans g5)⟩
    |false=>
     rw[hI0]at di;rw[ab (by rw[hI0];simp)]at hC;subst hC;rw[bF]at NXT;simp only[WX,Nat.reduceEqDiff,vr,d0,C2,ni,di,q8,aB];exact⟨cs.length-(k+1),by omega,NXT (X1 (G1 (X1 (G4 (bD (bK (bB (X8 [])))))))) _ _ g4⟩
   ·have d0:decide ((k:Int)=0)=false:=ag (by omega);rw[ag hk0,Bool.false_and,ab (by simp)]at hC;subst hC;rw[bF]at NXT;simp only[WX,Nat.reduceEqDiff,vr,d0,q8];exact⟨cs.length-(k+1),by omega,NXT (X1 (G1 (X1 (G4 (bD (bK (bB (X8 [])))))))) _ _ g4⟩
  by_cases hk0:0<k
  ·have d0:decide ((0:Int)<(k:Int))=true:=ah (by omega);rw[ac hk0]at hA;subst hA;have q1:cz .add (sV cu) (.s 3 2128928)=some (sV (cu++[32,124,32])):=iI hzA;simp only[WX,Ep,Er,Es,Ui,Et,Eu,Ew,B5,n1,d1,d0,q1];exact MID (X1 (G1 (X1 (G4 (G1 (bD (bK (bB (X4 (X2 (X1 [])))))))))))
  ·have d0:decide ((0:Int)<(k:Int))=false:=ag (by omega);rw[ab hk0]at hA;subst hA;rw[bF]at MID;simp only[WX,Ep,Er,Es,Et,Eu,Ew,B5,n1,d1,d0];exact MID (X1 (G1 (X1 (G4 (G1 (bD (bK (bB (X4 (X2 (X1 [])))))))))))
 ·obtain rfl:k=cs.length:=by omega
  have d1:decide ((cs.length:Int)<(cs.length:Int))=false:=ag (by omega);rw[cm,iY,bF]at he;subst he;simp only[WX,vr,B5,n1,d1];exact hQ (X1 (G1 (X1 (G2 (G1 (bD (bK (bB (X8 (X1 [])))))))))) _ _ gr
theorem bY6(Φ:Nat→Option CF)(h42:Φ 42=some W5)(h68:Φ 68=some (.orc (aO h75))){F:RO}{M:Mem}{c c2 pb i:Nat}{cur:List UInt8}{vo:V}{beh:Bool}{w:List Pc}(ok:cK F M c2)(A3:load1 F M pb 3=some vo)(A4:load1 F M pb 4=some (.b beh))(L3:loadN F M pb 3 1=some [vo])(hw:dw F M c2 vo w)(hs:∀q∈w,q.1.length≤1000000)(hz:(cur++lu beh w).length≤1000000)(u:List (Option V))(Q:Ex→St→Prop)
 (hQ:∀(u:List (Option V)) M' c',Gr c2 M c' M'→Q .nrm (.mk ((nH u (.p c 0) (sV (cur++lu beh w)) (.i .i64 (i:Int)) (.p pb 0))) [] M' c')):
 Wp xr (K Φ none 19 F) (.mk ((nH u (.p c 0) (sV cur) (.i .i64 (i:Int)) (.p pb 0))) [] M c2) (gJ xu (K Φ none 19 F) Q):=by
 have no:=hw.len
 have do':=qT w
 unfold lu at hz hQ
 cases hO:hasW w with
 |true=>
  rw[hO]at do'
  rw[ac hO]at hz hQ;have hwl:(cw w).length≤1000000:=by simp only[aG]at hz;omega
  cases beh with
  |true=>
   rw[ac rfl]at hz hQ;have q1:cz .add (sV cur) (.s 4 540950048)=some (sV (cur++[32,62,62,32])):=iI (fe (b:=cw w) (by rw[aQ];exact hz));have q2:cz .add (sV (cur++[32,62,62,32])) (sV (cw w))=some (sV (cur++[32,62,62,32]++cw w)):=iI (by rw[aQ];exact hz);rw[←aQ]at hQ;simp only[WX,vr,A3,A4,L3,no,do',q1,aB];refine aD ((w42 Φ h42 h68 ok hw hs hwl).mono ?_);rintro r M5 c5 ⟨rfl,g5⟩;simp only[WX,q2];exact hQ (X1 (G1 (X1 (G2 (G1 (bD (bK (bB (X8 (X1 [])))))))))) _ _ g5
  |false=>
   rw[ab (by simp)]at hz hQ;have q1:cz .add (sV cur) (.s 3 2113056)=some (sV (cur++[32,62,32])):=iI (fe (b:=cw w) (by rw[aQ];exact hz));have q2:cz .add (sV (cur++[32,62,32])) (sV (cw w))=some (sV (cur++[32,62,32]++cw w)):=iI (by rw[aQ];exact hz);rw[←aQ]at hQ;simp only[WX,vr,A3,A4,L3,no,do',q1,aB];refine aD ((w42 Φ h42 h68 ok hw hs hwl).mono ?_);rintro r M5 c5 ⟨rfl,g5⟩;simp only[WX,q2];exact hQ (X1 (G1 (X1 (G2 (G1 (bD (bK (bB (X8 (X1 [])))))))))) _ _ g5
 |false=>
  rw[hO]at do'
  rw[ab (by rw[hO];simp),bF]at hQ;simp only[WX,vr,A3,no,do',aB];exact hQ (X1 (G1 (X1 (G2 (G1 (bD (bK (bB (X8 (X1 [])))))))))) _ _ (Gr.refl ok)
theorem bY5(Φ:Nat→Option CF){F:RO}{M:Mem}{c c2 pb i:Nat}{cur:List UInt8}{j:Int}{nt:Bool}(ok:cK F M c2)(hp2:pb<c2)(hi:i<9223372036854775807)(A0:load1 F M pb 0=some (.i .i64 j))(hj0:0≤j)(hj3:j≤3)(hz:(cur++(if 0<i then Dl j.toNat else[])).length≤1000000)(u:List (Option V))(Q:Ex→St→Prop)
 (hQ:∀(u:List (Option V)) M' c',Gr c2 M c' M'→Q .nrm (.mk ((nH u (.p c 0) (sV (cur++(if 0<i then Dl j.toNat else[]))) (.i .i64 (i:Int)) (.p pb 0))) [] M' c')):
 Wp Mw (K Φ none 19 F) (.mk ((nH u (.p c 0) (sV cur) (.i .i64 (i:Int)) (.p pb 0))) [] M c2) Q:=by
 by_cases hi0:0<i
 ·have d0:decide ((0:Int)<(i:Int))=true:=ah (by omega);rw[ac hi0]at hz hQ;have gZ:=(Gr.refl ok).set c2 (d7 [V.s 0 0] 9 [V.s 0 0,V.s 3 2112288,V.s 4 539371040,V.s 4 545029152]) (aj _) (ay _) (aH _);have hsl:=mB (F:=F) (c:=c2+1) [Dl 0,Dl 1,Dl 2,Dl 3] (am M c2 (d7 [V.s 0 0] 9 [V.s 0 0,V.s 3 2112288,V.s 4 539371040,V.s 4 545029152])) (ay _);obtain⟨n,rfl⟩:∃n:Nat,j=(n:Int):=⟨j.toNat,by omega⟩
  obtain⟨b,o,hb,ia,ld⟩:=qz hsl n (by simp only[av,aM];omega);have ia:fF 1 (.l c2 0 4 4) (.i .i64 (n:Int))=some (.p b o):=ia .i64
  have hjn:[Dl 0,Dl 1,Dl 2,Dl 3][n]'(by simp only[av,aM];omega)=Dl (n:Int).toNat:=by
   have:n=0∨n=1∨n=2∨n=3:=by omega
   rcases this with rfl|rfl|rfl|rfl<;>rfl
  rw[hjn]at ld;have A0':load1 F (M.set c2 (d7 [V.s 0 0] 9 [V.s 0 0,V.s 3 2112288,V.s 4 539371040,V.s 4 545029152])) pb 0=some (.i .i64 (n:Int)):=(gZ.load1 hp2 _).trans A0;have q1:=iI hz;simp only[WX,Nat.reduceAdd,vr,d0,A0',ia,ld,q1];exact hQ (X1 (G1 (X1 (G2 (G1 (bD (bK (bB (X8 (X1 [])))))))))) _ _ gZ
 ·have d0:decide ((0:Int)<(i:Int))=false:=ag (by omega);rw[ab hi0,bF]at hQ;simp only[WX,vr,d0];exact hQ (X1 (G1 (X1 (G2 (G1 (bD (bK (bB (X8 (X1 [])))))))))) _ _ (Gr.refl ok)
theorem w19(Φ:Nat→Option CF)(h:Φ 19=some c19)(h42:Φ 42=some W5)(h68:Φ 68=some (.orc (aO h75))){F:RO}{M:Mem}{c:Nat}(ok:cK F M c){vl:V}{l:List dD}(hl:iF F M c vl l)(hj:∀p∈l,0≤p.join∧p.join≤3)(hS:∀p∈l,GM p)(hz:(rt 0 l).length≤1000000):
 Calls Φ F 19 [.g [vl]] M c fun r M' c'=>r=sV (rt 0 l)∧Gr c M c' M':=by
 refine aN h ?_
 obtain⟨y1,y2,y3⟩:=hl.one
 have hG:∀v,flatten (V.g [v])=[v]:=fun _=>rfl
 have n1:=hl.len
 have mx:=hl.max
 have gX:=(Gr.refl ok).set c (af 25 [vl]) (aj _) (ay _) (aH _)
 have m0:(M.set c (af 25 [vl])).get c=some (af 25 [vl]):=am _ _ _
 have hX:=hl.grow gX
 have e0:V.s 0 0=sV []:=rfl
 simp only[WX,vr,hG,y3]
 generalize M.set c (af 25 [vl])=X at gX m0 hX⊢
 obtain⟨I,hI⟩:∃I:Nat→St→Prop,∀n s',I n s'↔(∃(i c1:Nat) (M1:Mem) (cur:List UInt8) (u:List (Option V)),n=l.length-i∧i≤l.length∧s'= .mk ((Gg u (.p c 0) (sV cur) (.i .i64 (i:Int)))) [] M1 c1∧Gr (c+1) X c1 M1∧cur++rt i (l.drop i)=rt 0 l):=⟨fun n s'=>_,fun _ _=>Iff.rfl⟩
 refine bw I ?_ l.length _ ((hI _ _).2 ⟨0,_,_,[],(X1 (G1 (X1 (G2 (bD (bK (bB (X8 (X2 []))))))))),rfl,ax _,rfl,Gr.refl (gX.ok ok),rfl⟩)
 intro n s' hIs
 obtain⟨i,c1,M1,cur,u,rfl,hi,rfl,gr,he⟩:=(hI _ _).1 hIs
 clear hIs
 have B0:load1 F M1 c 0=some vl:=(gr.load1 (ay _) _).trans (au m0 0)
 by_cases hlt:i<l.length
 ·have q8:cz .add (.i .i64 (i:Int)) (.i .i64 1)=some (.i .i64 ((i+1:Nat):Int)):=by rw[aX _ _ (by omega) (by omega)];simp
  have d1:decide ((i:Int)<(l.length:Int))=true:=ah (by omega);obtain⟨b,o,e,hbx,ia,ld,el,hp⟩:=(hX.grow gr).at (by decide) i hlt;have ia:=ia .i64;have hd:l.drop i=l[i]::l.drop (i+1):=bX hlt;rw[hd,rt]at he;obtain⟨hj0,hj3⟩:=hj l[i] (List.getElem_mem _);obtain⟨hsi,hso,hsc,_,_⟩:=hS l[i] (List.getElem_mem _);generalize l[i]=p at hp he hj0 hj3 hsi hso hsc;generalize hR:rt (i+1) (l.drop (i+1))=R at he;obtain⟨A,hA⟩:∃A,(if 0<i then Dl p.join.toNat else[])=A:=⟨_,rfl⟩
  obtain⟨B,hB⟩:∃B,(if p.nt=true then[(33:UInt8),32]else[])=B:=⟨_,rfl⟩
  rw[hA,hB]at he;obtain⟨vi,vo,vc,rfl,a1,a2,a3⟩:=hp;have hzA:(cur++A).length≤1000000:=fe (b:=B++(iY p.inp 0 p.cmds++(lu p.beh p.out++R))) (by rw[aQ,he];exact hz);have hzB:(cur++A++B).length≤1000000:=fe (b:=iY p.inp 0 p.cmds++(lu p.beh p.out++R)) (by rw[aQ,aQ,he];exact hz);have hzC:(cur++A++B++iY p.inp 0 p.cmds).length≤1000000:=fe (b:=lu p.beh p.out++R) (by rw[aQ,aQ,aQ,he];exact hz);have hzD:(cur++A++B++iY p.inp 0 p.cmds++lu p.beh p.out).length≤1000000:=fe (b:=R) (by rw[aQ,aQ,aQ,aQ,he];exact hz);obtain⟨p1,p2,p3⟩:=a1.one;obtain⟨o1,o2,o3⟩:=a2.one;obtain⟨r1,r2,r3⟩:=a3.one;have hG6:flatten (V.g [.i .i64 p.join,.b p.nt,vi,vo,.b p.beh,vc])=[.i .i64 p.join,.b p.nt,vi,vo,.b p.beh,vc]:=rfl;have hA6:aL [.i .i64 p.join,.b p.nt,vi,vo,.b p.beh,vc]=true:=by
   rw[aw,aw,aw,aw,aw,aw,bZ,p1,o1,r1];rfl
  have ok1:=gr.ok (gX.ok ok);have sn:bS (M1.set c1 (af 39 [.i .i64 0,.b false,.l0,.l0,.b false,.l0])) c1 0 [.i .i64 p.join,.b p.nt,vi,vo,.b p.beh,vc]=some (M1.set c1 (af 39 [.i .i64 p.join,.b p.nt,vi,vo,.b p.beh,vc])):=dS rfl hA6;have gY:=(Gr.refl ok1).set c1 (af 39 [.i .i64 p.join,.b p.nt,vi,vo,.b p.beh,vc]) (aj _) (ay _) (aH _);have my:(M1.set c1 (af 39 [.i .i64 p.join,.b p.nt,vi,vo,.b p.beh,vc])).get c1=some (af 39 [.i .i64 p.join,.b p.nt,vi,vo,.b p.beh,vc]):=am _ _ _;have k2:loadN F (M1.set c1 (af 39 [.i .i64 p.join,.b p.nt,vi,vo,.b p.beh,vc])) c1 2 1=some [vi]:=bW M1 c1 2 1 39 [.i .i64 p.join,.b p.nt,vi,vo,.b p.beh,vc] (by simp);have k3:loadN F (M1.set c1 (af 39 [.i .i64 p.join,.b p.nt,vi,vo,.b p.beh,vc])) c1 3 1=some [vo]:=bW M1 c1 3 1 39 [.i .i64 p.join,.b p.nt,vi,vo,.b p.beh,vc] (by simp);generalize M1.set c1 (af 39 [.i .i64 p.join,.b p.nt,vi,vo,.b p.beh,vc])=Y at sn gY my k2 k3;have okY:=gY.ok ok1;simp only[WX,Nat.reduceAdd,aI1,aI2,Uj,Uk,B0,n1,d1,ia,ld,hG6,Bool.and_self,sn];refine bY5 Φ (nt:=p.nt) okY (ay _) (by omega) (au my 0) hj0 hj3 (by rw[hA];exact hzA) (X1 (G1 (X1 (G2 (G1 (bD (bK (bB (X8 (X1 [])))))))))) _ ?_;intro u M2 c2 g2;rw[hA];have l1:load1 F M2 c1 1=some (.b p.nt):=(g2.load1 (ay _) _).trans (au my 1)
  have MID:∀u:List (Option V),Wp xq (K Φ none 19 F) (.mk ((nH u (.p c 0) (sV (cur++A++B)) (.i .i64 (i:Int)) (.p c1 0))) [] M2 c2) (gJ (.seq xr xu) (K Φ none 19 F) (dF 1 (gJ Ci (K Φ none 19 F) (jo I (l.length-i) (dF 0 (gJ (.seq Cj .ret) (K Φ none 19 F) (nk F [.t (.r .h)] fun r M' c'=>r=sV (rt 0 l)∧Gr c M c' M'))))))):=by
   intro u;have GY:=gY.trans g2;have hle2:=g2.le;refine m19 Φ h42 h68 (GY.ok ok1) (by omega) ((g2.load1 (ay _) _).trans (au my 2)) ((g2.load1 (ay _) _).trans (au my 5)) ((g2.loadN (ay _) _ _).trans k2) (a1.grow GY) hsi (a3.grow GY) hsc hzC u _ ?_;intro u M3 c3 g3;have g23:=g2.trans g3;simp only[WX];refine bY6 Φ h42 h68 (g23.ok okY) ((g23.load1 (ay _) _).trans (au my 3)) ((g23.load1 (ay _) _).trans (au my 4)) ((g23.loadN (ay _) _ _).trans k3) (a2.grow (gY.trans g23)) hso hzD (X1 (G1 (X1 (G2 (G1 (bD (bK (bB (X8 (X1 [])))))))))) _ ?_;intro u M4 c4 g4;simp only[WX,vr,q8];exact⟨l.length-(i+1),by omega,(hI _ _).2 ⟨i+1,_,_,_,(X1 (G1 (X1 (G2 (bD (bK (bB (X8 (X2 []))))))))),rfl,hlt,rfl,gr.trans (gY.trans (g23.trans g4)),by rw[hR,←he];simp only[aQ]⟩⟩
  cases hnt:p.nt with
  |true=>
   rw[hnt]at l1;rw[ac hnt]at hB;subst hB;have q1:cz .add (sV (cur++A)) (.s 2 8225)=some (sV (cur++A++[33,32])):=iI hzB;simp only[WX,Ul,Uh,Eo,l1,q1];exact MID (X1 (G1 (X1 (G2 (G1 (bD (bK (bB (X8 (X1 []))))))))))
  |false=>
   rw[hnt]at l1;rw[ab (by rw[hnt];simp)]at hB;subst hB;rw[bF]at MID;simp only[WX,Ul,Eo,l1];exact MID (X1 (G1 (X1 (G2 (G1 (bD (bK (bB (X8 (X1 []))))))))))
 ·obtain rfl:i=l.length:=by omega
  have d1:decide ((l.length:Int)<(l.length:Int))=false:=ag (by omega);rw[cm,rt,bF]at he;subst he;simp only[WX,vr,B0,n1,d1];exact gX.trans gr
abbrev bH5(u:List (Option V))(x1 x16 x17 x18:V):T:=(.n (.n (.n (aq u 31 15 47 7 39 23 55) (uO u 3) (aq u 35 19 51 11 43 27 59)) (some x1) (.n (.n (.n (gq u 33) (some x17) (gq u 49)) (uO u 9) (fq u 41 25 57)) (uO u 5) (aq u 37 21 53 13 45 29 61))) (uO u 0) (.n (.n (.n (.n (gq u 32) (some x16) (gq u 48)) (uO u 8) (fq u 40 24 56)) (uO u 4) (aq u 36 20 52 12 44 28 60)) (uO u 2) (.n (.n (.n (gq u 34) (some x18) (gq u 50)) (uO u 10) (fq u 42 26 58)) (uO u 6) (aq u 38 22 54 14 46 30 62))))
def Ze:CC:=(.reg [(aa a1 (.bx 25 1 z0)),(qq a2 (.mv (x6 0)))])
def Zf:CC:=(.reg [(qq a5 (.fa 0 z1)),(qq a6 (.ld1 z5)),(qq a7 (.ln .slice z6)),(qq a8 (.bi .lss z7 (x6 1))),(qq a9 (.mv z8)),(aA dT (.fa 0 z1) a9),(aA eP (.ld1 ft) a9),(aA fg (.ln .slice dL) a9),(aA eQ (.bi .gtr eN (x6 16)) a9),(qq fh (.pk z9 xT ed))])
def Zg:CC:=(.seq (.reg [(qq a2 (.mv (x6 2)))]) .ret)
def Zh:CC:=(.reg [(qq dM (.fa 0 z1)),(qq fu (.ld1 gK)),(qq gL (.ln .slice iA)),(qq fy (.mv (x6 0)))])
def Zi:CC:=(.reg [(qq jr (.bi .lss iC iB))])
def Zj:CC:=(.reg [(qq gH (.mv iC)),(qq fY (.iaS 6 iA iC)),(qq jt (.ldn 6 kL)),(aa a4 (.al 39 [(.i .i64 0),(.b false),.l0,.l0,(.b false),.l0])),(qq a3 (.mv la)),(ez (.st 6 z4 lA))])
def Zk:CC:=(.reg [(qq gU (.mv z3)),(qq jX (.bi .eql lg (x6 0))),(qq gv (.fa 0 z4)),(qq kd (.ld1 lB)),(qq gV (.bi .eql nl (x6 0))),(qq lE (.eq true .bool false kM nn)),(qq ip (.mv nK)),(aA ke (.fa 0 z4) ip),(aA lj (.ld1 oz) ip),(aA np (.bi .lss pq (x6 0)) ip),(qq nM (.pk ot xT pz)),(qq jY (.mv ru)),(aA jZ (.fa 0 z4) jY),(aA nN (.ld1 rx) jY),(aA k8 (.bi .gtr sC (x6 3)) jY),(qq nq (.pk rv xT qF)),(qq mN (.mv rU)),(aA pC (.ldn 6 z4) mN),(lV js (.call 40 [sD]) mN),(aA lF (.un .not ry) mN),(qq pD (.pk rV xT sE))])
def Zl:CC:=(.seq (.reg [(qq a2 (.mv (x6 2)))]) .ret)
def Zm:CC:=(.seq Zk (.cond sF Zl .skip))
def Lw:CC:=(.reg [(qq ng (.bi .add iC (x6 1))),(qq fy (.mv rW))])
def Lx:CC:=(.seq (.cond l8 .skip (.exit 0)) (.seq (.block 1 (.seq Zj Zm)) Lw))
def Ly:CC:=(.reg [(qq pE (.ldn 1 z1)),(ee lG (.call 39 [rX])),(qq pF (.ln .str vm)),(qq kQ (.bi .gtr sG (x6 4096)))])
def Lz:CC:=(.seq (.reg [(qq a2 (.mv (x6 2)))]) .ret)
def LA:CC:=(.seq Ly (.cond uE Lz .skip))
def LB:CC:=(.seq (.reg [(qq a2 (.mv (x6 0)))]) .ret)
def LD:CC:=(.seq (.seq Zh (.block 0 (.loop (.seq Zi Lx)))) (.seq LA LB))
def LE:CC:=(.seq (.seq Zf (.cond gb Zg .skip)) LD)
def c17:CF:= .mk 6 [.t a2] (.seq Ze LE)
theorem e17(v0:V):bz 6 [v0]=(.n qw (some v0) qw):=rfl
def GI:=ai @e17 (ai (wu Ze.eq_1) (ai (wu Zf.eq_1) (ai (wu Zg.eq_1) (ai (wu Zh.eq_1) (ai (wu Zi.eq_1) (ai (wu Zj.eq_1) (ai (wu Zk.eq_1) (ai (wu Zl.eq_1) (ai (wu Zm.eq_1) (ai (wu Lw.eq_1) (ai (wu Lx.eq_1) (ai (wu Ly.eq_1) (ai (wu Lz.eq_1) (ai (wu LA.eq_1) (ai (wu LB.eq_1) (ai (wu LD.eq_1) (wu LE.eq_1)))))))))))))))))
def Z8:CC:=(.reg [(aa a1 (.bx 25 1 z0)),(qq a2 (.mv (.c (.s 0 0)))),(qq a3 (.mv (x6 0)))])
def Z9:CC:=(.reg [(qq a5 (.ldn 1 z1)),(ee a6 (.call 17 [z5])),(qq a4 (.mv z6))])
def Za:CC:=(.reg [(qq a7 (.mv z4)),(qq a8 (.bi .neq z7 (x6 0)))])
def Zb:CC:=(.reg [(qq a9 (.mv z4)),(qq a2 (.mv (.c (.s 0 0)))),(qq a3 (.mv z9))])
def Zc:CC:=(.seq Za (.cond z8 (.seq Zb .ret) .skip))
def Zd:CC:=(.reg [(qq dT (.ldn 1 z1)),(ee eP (.call 39 [ft])),(qq a2 (.mv dL)),(qq a3 (.mv (x6 0)))])
def c16:CF:= .mk 4 [.t a2,.t a3] (.seq Z8 (.seq (.seq Z9 Zc) (.seq Zd .ret)))
theorem e16(v0:V):bz 4 [v0]=(.n jp (some v0) jp):=rfl
def B16:=ai @e16 (ai (wu Z8.eq_1) (ai (wu Z9.eq_1) (ai (wu Za.eq_1) (ai (wu Zb.eq_1) (ai (wu Zc.eq_1) (wu Zd.eq_1))))))
def Zn:CC:=(.reg [(aa a1 (.bx 25 1 z0)),(qq a2 (.mv (x6 0)))])
def Zo:CC:=(.reg [(qq a5 (.fa 0 z1)),(qq a6 (.ld1 z5)),(qq a7 (.ln .slice z6)),(qq a8 (.bi .lss z7 (x6 1))),(qq a9 (.mv z8)),(aA dT (.fa 0 z1) a9),(aA eP (.ld1 ft) a9),(aA fg (.ln .slice dL) a9),(aA eQ (.bi .gtr eN (x6 16)) a9),(qq fh (.pk z9 xT ed))])
def Zp:CC:=(.seq (.reg [(qq a2 (.mv (x6 2)))]) .ret)
def Zq:CC:=(.reg [(qq a3 (.mv (x6 0)))])
def Zr:CC:=(.reg [(qq dM (.mv z3)),(qq fu (.fa 0 z1)),(qq gL (.ld1 iA)),(qq fy (.ln .slice iB)),(qq jr (.bi .lss gK iC))])
def Zs:CC:=(.seq Zr (.cond l8 .skip (.exit 0)))
def Zt:CC:=(.reg [(qq jt (.fa 0 z1)),(qq gU (.ld1 lA)),(qq jX (.mv z3)),(qq gv (.iaS 6 lg kM)),(qq kd (.ldn 6 lB)),(aa a4 (.al 39 [(.i .i64 0),(.b false),.l0,.l0,(.b false),.l0])),(ez (.st 6 z4 nl))])
def Zu:CC:=(.reg [(qq gV (.mv z3)),(qq lE (.bi .eql nn (x6 0))),(qq ip (.mv nK)),(aF ke (.fa 0 z4) ip),(aF lj (.ld1 oz) ip),(aF np (.bi .neq pq (x6 0)) ip),(qq nM (.pk ot pz xF)),(qq jY (.mv ru)),(aA jZ (.mv z3) jY),(aA nN (.bi .gtr rx (x6 0)) jY),(aA k8 (.mv sC) jY),(aF nq (.fa 0 z4) k8),(aF mN (.ld1 rU) k8),(aF pC (.bi .lss rV (x6 1)) k8),(aF js (.mv sD) k8),(aA lF (.fa 0 z4) js),(aA pD (.ld1 sE) js),(aA ng (.bi .gtr sF (x6 3)) js),(aF pE (.pk ry xT rW) k8),(aA lG (.pk qF rX xF) jY),(qq pF (.pk rv xT vm)),(qq kQ (.mv sG)),(aA nh (.ldn 6 z4) kQ),(lV px (.call 41 [vn]) kQ),(aA rA (.un .not vp) kQ),(qq oD (.pk uE xT uM))])
def Zv:CC:=(.seq (.reg [(qq a2 (.mv (x6 2)))]) .ret)
def LF:CC:=(.seq Zu (.cond vq Zv .skip))
def LG:CC:=(.reg [(qq gH (.mv z3)),(qq fY (.bi .add la (x6 1))),(qq a3 (.mv kL))])
def LH:CC:=(.loop (.seq Zs (.seq (.block 1 (.seq Zt LF)) LG)))
def LI:CC:=(.reg [(qq sP (.ldn 1 z1)),(ee pG (.call 19 [wM])),(qq pH (.ln .str za)),(qq uI (.bi .gtr zl (x6 4096)))])
def LJ:CC:=(.seq (.reg [(qq a2 (.mv (x6 2)))]) .ret)
def LL:CC:=(.seq LI (.cond wN LJ .skip))
def LM:CC:=(.seq (.reg [(qq a2 (.mv (x6 0)))]) .ret)
def LN:CC:=(.seq (.seq Zo (.cond gb Zp .skip)) (.seq (.seq Zq (.block 0 LH)) (.seq LL LM)))
def c18:CF:= .mk 6 [.t a2] (.seq Zn LN)
theorem e18(v0:V):bz 6 [v0]=(.n qw (some v0) qw):=rfl
def Bj:=ai @e18 (ai (wu Zn.eq_1) (ai (wu Zo.eq_1) (ai (wu Zp.eq_1) (ai (wu Zq.eq_1) (ai (wu Zr.eq_1) (ai (wu Zs.eq_1) (ai (wu Zt.eq_1) (ai (wu Zu.eq_1) (ai (wu Zv.eq_1) (ai (wu LF.eq_1) (ai (wu LG.eq_1) (ai (wu LH.eq_1) (ai (wu LI.eq_1) (ai (wu LJ.eq_1) (ai (wu LL.eq_1) (ai (wu LM.eq_1) (wu LN.eq_1)))))))))))))))))
def jOk(i:Nat)(j:Int):Bool:=(decide (i=0)==decide (j=0))&&(!decide (j<0)&& !decide (3<j))
def cd:Nat→List dD→Bool
 |_,[]=>true
 |i,p::r=>(jOk i p.join&&jI p)&&cd (i+1) r
def t4(l:List dD):Bool:= !decide (l.length<1)&&(!decide (16<l.length)&&(cd 0 l&& !decide (4096<(dA [32] (kZ l)).length)))
def R3(b:Bool):V:= .i .i64 (if b=true then 0 else 2)
theorem iw:∀(l:List dD) (i:Nat),cd i l=true→ ∀p∈l,0≤p.join∧p.join≤3
 |[],_,_,p,hp=>by cases hp
 |q::r,i,h,p,hp=>by
  rw[cd,aC,aC]at h;rcases bh.1 hp with rfl|hp
  ·have:=h.1.1;unfold jOk at this;rw[aC,aC]at this;have a:=this.2.1;have b:=this.2.2;simp only[Bool.not_eq_true',decide_eq_false_iff_not]at a b;omega
  ·exact iw r _ h.2 p hp
theorem Ra(n:Nat):decide ((16:Int)<(n:Int))=decide (16<n):=by congr 1;exact propext (by omega)
theorem zP(n:Nat):decide ((4096:Int)<(n:Int))=decide (4096<n):=by congr 1;exact propext (by omega)
theorem bw5(n:Nat):decide ((n:Int)=0)=decide (n=0):=by congr 1;exact propext (by omega)
theorem w17(Φ:Nat→Option CF)(h:Φ 17=some c17)(h40:Φ 40=some c40)(h63:Φ 63=some Vn)(h62:Φ 62=some IU)(h80:Φ 80=some IV)(h81:Φ 81=some IW)(h82:Φ 82=some QT)(h90:Φ 90=some IX)(h83:Φ 83=some Hd)(h61:Φ 61=some F5)(h39:Φ 39=some c39)(h33:Φ 33=some QQ)(h57:Φ 57=some zf)(h58:Φ 58=some Vm)(h59:Φ 59=some CR)(h60:Φ 60=some QS)(h79:Φ 79=some Vo)(h89:Φ 89=some QU)(h77:Φ 77=some (.orc (aO h77)))(h52:Φ 52=some zL)(h54:Φ 54=some zM)(h71:Φ 71=some xN){F:RO}{M:Mem}{c:Nat}(ok:cK F M c){vl:V}{l:List dD}(hl:iF F M c vl l)(hS:∀p∈l,GM p)(hz:dq (kZ l)≤1000000):
 Calls Φ F 17 [.g [vl]] M c fun r M' c'=>r=R3 (t4 l)∧Gr c M c' M':=by
 refine aN h ?_
 obtain⟨y1,y2,y3⟩:=hl.one
 have hG:∀v,flatten (V.g [v])=[v]:=fun _=>rfl
 have n1:=hl.len
 have mx:=hl.max
 have gX:=(Gr.refl ok).set c (af 25 [vl]) (aj _) (ay _) (aH _)
 have m0:(M.set c (af 25 [vl])).get c=some (af 25 [vl]):=am _ _ _
 have kX:load1 F (M.set c (af 25 [vl])) c 0=some vl:=au m0 0
 have lX:loadN F (M.set c (af 25 [vl])) c 0 1=some [vl]:=aY m0 1 rfl
 have hX:=hl.grow gX
 simp only[WX,GI,hG,y3,kX,n1,aB]
 generalize M.set c (af 25 [vl])=X at gX m0 hX kX lX⊢
 have okX:=gX.ok ok
 have dl:=Fc l.length
 have dg:=Ra l.length
 have BAD:∀b,t4 l=b→(b=false→(V.i IntKind.i64 2)=R3 (t4 l)):=by intro b hb h0;rw[hb,h0];rfl
 by_cases hl1:l.length<1
 ·rw[ah hl1]at dl;simp only[WX,GI,dl];exact⟨BAD _ rfl (by unfold t4;rw[ah hl1];rfl),gX⟩
 rw[ag hl1]at dl
 by_cases hl16:16<l.length
 ·rw[ah hl16]at dg;simp only[WX,GI,dl,dg,kX,n1,aB];exact⟨BAD _ rfl (by unfold t4;rw[ah hl16];simp),gX⟩
 rw[ag hl16]at dg
 simp only[WX,GI,dl,dg,kX,n1,aB]
 have CH:t4 l=(cd 0 l&& !decide (4096<(dA [32] (kZ l)).length)):=by unfold t4;rw[ag hl1,ag hl16];rfl
 obtain⟨I,hI⟩:∃I:Nat→St→Prop,∀n s',I n s'↔(∃(i c1:Nat) (M1:Mem) (u:List (Option V)),n=l.length-i∧i≤l.length∧s'= .mk ((bH5 u (.p c 0) vl (.i .i64 (l.length:Int)) (.i .i64 (i:Int)))) [] M1 c1∧Gr (c+1) X c1 M1∧cd 0 l=cd i (l.drop i)):=⟨fun n s'=>_,fun _ _=>Iff.rfl⟩
 refine bw I ?_ l.length _ ((hI _ _).2 ⟨0,_,_,(X1 (G1 (X8 (X4 (X2 (G2 (G1 (bK (X8 (X4 [])))))))))),rfl,ax _,rfl,Gr.refl okX,rfl⟩)
 intro n s' hIs
 obtain⟨i,c1,M1,u,rfl,hi,rfl,gr,he⟩:=(hI _ _).1 hIs
 clear hIs
 by_cases hlt:i<l.length
 ·have q8:cz .add (.i .i64 (i:Int)) (.i .i64 1)=some (.i .i64 ((i+1:Nat):Int)):=by rw[aX _ _ (by omega) (by omega)];simp
  have d1:decide ((i:Int)<(l.length:Int))=true:=ah (by omega);obtain⟨b,o,e,hbx,ia,ld,el,hp⟩:=(hX.grow gr).at (by decide) i hlt;have ia:=ia .i64;have hd:l.drop i=l[i]::l.drop (i+1):=bX hlt;rw[hd,cd]at he;have hSi:=hS l[i] (List.getElem_mem _);generalize l[i]=p at hp he hSi;have hp':=hp;obtain⟨vi,vo,vc,rfl,a1,a2,a3⟩:=hp;obtain⟨p1,p2,p3⟩:=a1.one;obtain⟨o1,o2,o3⟩:=a2.one;obtain⟨r1,r2,r3⟩:=a3.one;have hG6:flatten (V.g [.i .i64 p.join,.b p.nt,vi,vo,.b p.beh,vc])=[.i .i64 p.join,.b p.nt,vi,vo,.b p.beh,vc]:=rfl;have hA6:aL [.i .i64 p.join,.b p.nt,vi,vo,.b p.beh,vc]=true:=by
   rw[aw,aw,aw,aw,aw,aw,bZ,p1,o1,r1];rfl
  have ok1:=gr.ok okX;have sn:bS (M1.set c1 (af 39 [.i .i64 0,.b false,.l0,.l0,.b false,.l0])) c1 0 [.i .i64 p.join,.b p.nt,vi,vo,.b p.beh,vc]=some (M1.set c1 (af 39 [.i .i64 p.join,.b p.nt,vi,vo,.b p.beh,vc])):=dS rfl hA6;have gY:=(Gr.refl ok1).set c1 (af 39 [.i .i64 p.join,.b p.nt,vi,vo,.b p.beh,vc]) (aj _) (ay _) (aH _);have my:(M1.set c1 (af 39 [.i .i64 p.join,.b p.nt,vi,vo,.b p.beh,vc])).get c1=some (af 39 [.i .i64 p.join,.b p.nt,vi,vo,.b p.beh,vc]):=am _ _ _;have k0:load1 F (M1.set c1 (af 39 [.i .i64 p.join,.b p.nt,vi,vo,.b p.beh,vc])) c1 0=some (.i .i64 p.join):=au my 0;have k6:loadN F (M1.set c1 (af 39 [.i .i64 p.join,.b p.nt,vi,vo,.b p.beh,vc])) c1 0 6=some [.i .i64 p.join,.b p.nt,vi,vo,.b p.beh,vc]:=aY my 6 rfl;generalize M1.set c1 (af 39 [.i .i64 p.join,.b p.nt,vi,vo,.b p.beh,vc])=Y at sn gY my k0 k6;have okY:=gY.ok ok1;have gXY:=gX.trans (gr.trans gY);simp only[WX,Nat.reduceAdd,GI,d1,ia,ld,hG6,Bool.and_self,sn,k0,aB];have dz:=bw5 i;unfold jOk at he;obtain⟨a,ha⟩:∃a,decide (i=0)=a:=⟨_,rfl⟩
  obtain⟨z,hz'⟩:∃z,decide (p.join=0)=z:=⟨_,rfl⟩
  obtain⟨x,hx⟩:∃x,decide (p.join<0)=x:=⟨_,rfl⟩
  obtain⟨w,hw⟩:∃w,decide (3<p.join)=w:=⟨_,rfl⟩
  rw[ha,hz',hx,hw]at he;rw[ha]at dz;have NO:cd 0 l=false→ ∀M' c',Gr c M c' M'→(V.i IntKind.i64 2)=R3 (t4 l)∧Gr c M c' M':=fun hn M' c' g=>⟨BAD _ rfl (by rw[CH,hn];rfl),g⟩;by_cases haz:a=z
  ·have dz2:decide (a=z)=true:=ah haz;have az2:(a==z)=true:=by rw[haz];simp
   rw[az2]at he;cases x with
   |true=>
    simp only[WX,GI,dz,hz',hx,dz2,k0,aB];exact NO (by rw[he];rfl) _ _ gXY
   |false=>
    cases w with
    |true=>
     simp only[WX,GI,dz,hz',hx,hw,dz2,k0,aB];exact NO (by rw[he];rfl) _ _ gXY
    |false=>
     simp only[WX,dz,hz',hx,hw,dz2,k0,k6,aB];refine aD ((w40 Φ h40 h63 h62 h80 h81 h82 h90 h83 h61 h77 okY (P1.grow gY _ _ hp') hSi).mono ?_);rintro r M2 c2 ⟨rfl,g2⟩;cases hpo:jI p with
     |false=>
      rw[hpo]at he;simp only[WX,GI];exact NO (by rw[he];rfl) _ _ (gXY.trans g2)
     |true=>
      rw[hpo]at he;simp only[WX,GI,q8];exact⟨l.length-(i+1),by omega,(hI _ _).2 ⟨i+1,_,_,(X1 (G1 (X8 (X4 (X2 (G2 (G1 (bK (X8 (X4 [])))))))))),rfl,hlt,rfl,gr.trans (gY.trans g2),by rw[he];rfl⟩⟩
  ·have dz2:decide (a=z)=false:=ag haz;have az2:(a==z)=false:=by simpa using haz
   rw[az2]at he;simp only[WX,GI,dz,hz',dz2];exact NO (by rw[he];rfl) _ _ gXY
 ·obtain rfl:i=l.length:=by omega
  have d1:decide ((l.length:Int)<(l.length:Int))=false:=ag (by omega);rw[cm,cd]at he;have lx:loadN F M1 c 0 1=some [vl]:=(gr.loadN (ay _) _ _).trans lX;simp only[WX,GI,d1,lx];refine aD ((w39 Φ h39 h33 h57 h58 h59 h60 h79 h89 h77 h52 h54 h71 (gr.ok okX) (hX.grow gr) (iw l 0 he) hS hz).mono ?_);rintro r M2 c2 ⟨rfl,g2⟩;have dW:=zP (dA [32] (kZ l)).length;rw[he,Bool.true_and]at CH;cases hW:decide (4096<(dA [32] (kZ l)).length)with
  |true=>
   rw[hW]at dW CH;simp only[WX,GI,dW];exact⟨BAD _ rfl CH,gX.trans (gr.trans g2)⟩
  |false=>
   rw[hW]at dW CH;simp only[WX,GI,dW];exact⟨by rw[CH];rfl,gX.trans (gr.trans g2)⟩
abbrev bH6(u:List (Option V))(x1 x3:V):T:=(.n (.n (.n (aq u 31 15 47 7 39 23 55) (some x3) (aq u 35 19 51 11 43 27 59)) (some x1) (.n (aq u 33 17 49 9 41 25 57) (uO u 5) (aq u 37 21 53 13 45 29 61))) (uO u 0) (.n (.n (aq u 32 16 48 8 40 24 56) (uO u 4) (aq u 36 20 52 12 44 28 60)) (uO u 2) (.n (aq u 34 18 50 10 42 26 58) (uO u 6) (aq u 38 22 54 14 46 30 62))))
def AW(l:List dD):V:=if t4 l=true then .t [sV (dA [32] (kZ l)),.i .i64 0]else .t [.s 0 0,.i .i64 2]
theorem w16(Φ:Nat→Option CF)(h:Φ 16=some c16)(h17:Φ 17=some c17)(h40:Φ 40=some c40)(h63:Φ 63=some Vn)(h62:Φ 62=some IU)(h80:Φ 80=some IV)(h81:Φ 81=some IW)(h82:Φ 82=some QT)(h90:Φ 90=some IX)(h83:Φ 83=some Hd)(h61:Φ 61=some F5)(h39:Φ 39=some c39)(h33:Φ 33=some QQ)(h57:Φ 57=some zf)(h58:Φ 58=some Vm)(h59:Φ 59=some CR)(h60:Φ 60=some QS)(h79:Φ 79=some Vo)(h89:Φ 89=some QU)(h77:Φ 77=some (.orc (aO h77)))(h52:Φ 52=some zL)(h54:Φ 54=some zM)(h71:Φ 71=some xN){F:RO}{M:Mem}{c:Nat}(ok:cK F M c){vl:V}{l:List dD}(hl:iF F M c vl l)(hS:∀p∈l,GM p)(hz:dq (kZ l)≤1000000):
 Calls Φ F 16 [.g [vl]] M c fun r M' c'=>r=AW l∧Gr c M c' M':=by
 refine aN h ?_
 obtain⟨y1,y2,y3⟩:=hl.one
 have hG:∀v,flatten (V.g [v])=[v]:=fun _=>rfl
 have gX:=(Gr.refl ok).set c (af 25 [vl]) (aj _) (ay _) (aH _)
 have m0:(M.set c (af 25 [vl])).get c=some (af 25 [vl]):=am _ _ _
 have lX:loadN F (M.set c (af 25 [vl])) c 0 1=some [vl]:=aY m0 1 rfl
 have hX:=hl.grow gX
 have okX:=gX.ok ok
 simp only[WX,B16,hG,y3,lX]
 refine aD ((w17 Φ h17 h40 h63 h62 h80 h81 h82 h90 h83 h61 h39 h33 h57 h58 h59 h60 h79 h89 h77 h52 h54 h71 okX hX hS hz).mono ?_)
 rintro r M2 c2 ⟨rfl,g2⟩
 have l2:loadN F M2 c 0 1=some [vl]:=(g2.loadN (ay _) _ _).trans lX
 unfold AW
 cases hc:t4 l with
 |false=>
  have e2:R3 false= .i .i64 2:=rfl;have d2:decide (¬((2:Int)=0))=true:=rfl;simp only[WX,B16,e2,d2];exact gX.trans g2
 |true=>
  have e2:R3 true= .i .i64 0:=rfl;have d2:decide (¬((0:Int)=0))=false:=rfl;have hpj:cd 0 l=true:=by
   unfold t4 at hc;rw[aC,aC,aC]at hc;exact hc.2.2.1
  simp only[WX,B16,e2,d2,l2];refine aD ((w39 Φ h39 h33 h57 h58 h59 h60 h79 h89 h77 h52 h54 h71 (g2.ok okX) (hX.grow g2) (iw l 0 hpj) hS hz).mono ?_);rintro r M3 c3 ⟨rfl,g3⟩;simp only[WX];exact gX.trans (g2.trans g3)
def jR(i:Nat)(j:Int):Bool:= !(decide (i=0)&& !decide (j=0))&& !(decide (0<i)&&(decide (j<1)||decide (3<j)))
theorem bA8(i:Nat)(j:Int):jR i j=jOk i j:=by
 unfold jR jOk
 by_cases h1:i=0
 ·by_cases h2:j=0
  ·subst h1 h2;rfl
  ·rw[ah h1,ag h2];rfl
 ·by_cases h2:j=0
  ·rw[ag h1,ah h2,ah (show 0<i by omega),ah (show j<1 by omega)];rfl
  ·rw[ag h1,ag h2,ah (show 0<i by omega),show decide (j<1)=decide (j<0)from by congr 1;exact propext (by omega)];cases decide (j<0)<;>cases decide (3<j)<;>rfl
def uY(l:List dD):Bool:= !decide (l.length<1)&&(!decide (16<l.length)&&(cd 0 l&& !decide (4096<(rt 0 l).length)))
theorem w18(Φ:Nat→Option CF)(h:Φ 18=some c18)(h41:Φ 41=some c41)(h64:Φ 64=some c64)(h69:Φ 69=some (.orc (aO h78)))(h66:Φ 66=some c66)(h65:Φ 65=some (.orc (aO h65)))(h67:Φ 67=some c67)(h84:Φ 84=some (.orc (aO h84)))(h19:Φ 19=some c19)(h42:Φ 42=some W5)(h68:Φ 68=some (.orc (aO h75))){F:RO}{M:Mem}{c:Nat}(ok:cK F M c){vl:V}{l:List dD}(hl:iF F M c vl l)(hS:∀p∈l,GM p)(hz:(rt 0 l).length≤1000000):
 Calls Φ F 18 [.g [vl]] M c fun r M' c'=>r=R3 (uY l)∧Gr c M c' M':=by
 refine aN h ?_
 obtain⟨y1,y2,y3⟩:=hl.one
 have hG:∀v,flatten (V.g [v])=[v]:=fun _=>rfl
 have n1:=hl.len
 have mx:=hl.max
 have gX:=(Gr.refl ok).set c (af 25 [vl]) (aj _) (ay _) (aH _)
 have m0:(M.set c (af 25 [vl])).get c=some (af 25 [vl]):=am _ _ _
 have kX:load1 F (M.set c (af 25 [vl])) c 0=some vl:=au m0 0
 have lX:loadN F (M.set c (af 25 [vl])) c 0 1=some [vl]:=aY m0 1 rfl
 have hX:=hl.grow gX
 simp only[WX,Bj,hG,y3,kX,n1,aB]
 generalize M.set c (af 25 [vl])=X at gX m0 hX kX lX⊢
 have okX:=gX.ok ok
 have dl:=Fc l.length
 have dg:=Ra l.length
 have BAD:∀b,uY l=b→(b=false→(V.i IntKind.i64 2)=R3 (uY l)):=by intro b hb h0;rw[hb,h0];rfl
 by_cases hl1:l.length<1
 ·rw[ah hl1]at dl;simp only[WX,Bj,dl];exact⟨BAD _ rfl (by unfold uY;rw[ah hl1];rfl),gX⟩
 rw[ag hl1]at dl
 by_cases hl16:16<l.length
 ·rw[ah hl16]at dg;simp only[WX,Bj,dl,dg,kX,n1,aB];exact⟨BAD _ rfl (by unfold uY;rw[ah hl16];simp),gX⟩
 rw[ag hl16]at dg
 simp only[WX,Bj,dl,dg,kX,n1,aB]
 have CH:uY l=(cd 0 l&& !decide (4096<(rt 0 l).length)):=by unfold uY;rw[ag hl1,ag hl16];rfl
 obtain⟨I,hI⟩:∃I:Nat→St→Prop,∀n s',I n s'↔(∃(i c1:Nat) (M1:Mem) (u:List (Option V)),n=l.length-i∧i≤l.length∧s'= .mk ((bH6 u (.p c 0) (.i .i64 (i:Int)))) [] M1 c1∧Gr (c+1) X c1 M1∧cd 0 l=cd i (l.drop i)):=⟨fun n s'=>_,fun _ _=>Iff.rfl⟩
 refine bw I ?_ l.length _ ((hI _ _).2 ⟨0,_,_,(X1 (G1 (X1 (G1 (bK (bB (X8 (X2 (X1 []))))))))),rfl,ax _,rfl,Gr.refl okX,rfl⟩)
 intro n s' hIs
 obtain⟨i,c1,M1,u,rfl,hi,rfl,gr,he⟩:=(hI _ _).1 hIs
 clear hIs
 have B0:load1 F M1 c 0=some vl:=(gr.load1 (ay _) _).trans kX
 by_cases hlt:i<l.length
 ·have q8:cz .add (.i .i64 (i:Int)) (.i .i64 1)=some (.i .i64 ((i+1:Nat):Int)):=by rw[aX _ _ (by omega) (by omega)];simp
  have d1:decide ((i:Int)<(l.length:Int))=true:=ah (by omega);obtain⟨b,o,e,hbx,ia,ld,el,hp⟩:=(hX.grow gr).at (by decide) i hlt;have ia:=ia .i64;have hd:l.drop i=l[i]::l.drop (i+1):=bX hlt;rw[hd,cd,←bA8]at he;have hSi:=hS l[i] (List.getElem_mem _);generalize l[i]=p at hp he hSi;have hp':=hp;obtain⟨vi,vo,vc,rfl,a1,a2,a3⟩:=hp;obtain⟨p1,p2,p3⟩:=a1.one;obtain⟨o1,o2,o3⟩:=a2.one;obtain⟨r1,r2,r3⟩:=a3.one;have hG6:flatten (V.g [.i .i64 p.join,.b p.nt,vi,vo,.b p.beh,vc])=[.i .i64 p.join,.b p.nt,vi,vo,.b p.beh,vc]:=rfl;have hA6:aL [.i .i64 p.join,.b p.nt,vi,vo,.b p.beh,vc]=true:=by
   rw[aw,aw,aw,aw,aw,aw,bZ,p1,o1,r1];rfl
  have ok1:=gr.ok okX;have sn:bS (M1.set c1 (af 39 [.i .i64 0,.b false,.l0,.l0,.b false,.l0])) c1 0 [.i .i64 p.join,.b p.nt,vi,vo,.b p.beh,vc]=some (M1.set c1 (af 39 [.i .i64 p.join,.b p.nt,vi,vo,.b p.beh,vc])):=dS rfl hA6;have gY:=(Gr.refl ok1).set c1 (af 39 [.i .i64 p.join,.b p.nt,vi,vo,.b p.beh,vc]) (aj _) (ay _) (aH _);have my:(M1.set c1 (af 39 [.i .i64 p.join,.b p.nt,vi,vo,.b p.beh,vc])).get c1=some (af 39 [.i .i64 p.join,.b p.nt,vi,vo,.b p.beh,vc]):=am _ _ _;have k0:load1 F (M1.set c1 (af 39 [.i .i64 p.join,.b p.nt,vi,vo,.b p.beh,vc])) c1 0=some (.i .i64 p.join):=au my 0;have k6:loadN F (M1.set c1 (af 39 [.i .i64 p.join,.b p.nt,vi,vo,.b p.beh,vc])) c1 0 6=some [.i .i64 p.join,.b p.nt,vi,vo,.b p.beh,vc]:=aY my 6 rfl;generalize M1.set c1 (af 39 [.i .i64 p.join,.b p.nt,vi,vo,.b p.beh,vc])=Y at sn gY my k0 k6;have okY:=gY.ok ok1;have gXY:=gX.trans (gr.trans gY);have dz:=bw5 i;have dp:decide ((0:Int)<(i:Int))=decide (0<i):=by congr 1;exact propext (by omega)
  have dn:decide (¬(p.join=0))= !decide (p.join=0):=decide_not;unfold jR at he;have NO:cd 0 l=false→ ∀M' c',Gr c M c' M'→(V.i IntKind.i64 2)=R3 (uY l)∧Gr c M c' M':=fun hn M' c' g=>⟨BAD _ rfl (by rw[CH,hn];rfl),g⟩;have hjj:p.join=0→decide (p.join<1)=true:=fun e=>ah (by omega);obtain⟨x,hx⟩:∃x,decide (p.join<1)=x:=⟨_,rfl⟩
  obtain⟨w,hw⟩:∃w,decide (3<p.join)=w:=⟨_,rfl⟩
  rw[hx,hw]at he
  have PART:∀b:Bool,cd 0 l=((b&&yr p)&&cd (i+1) (l.drop (i+1)))→b=true→lw (cT (iu Φ) F 41 [.g [.i .i64 p.join,.b p.nt,vi,vo,.b p.beh,vc]] Y (c1+1) (Φ 41)) fun r M' c'=>(r= .b true∧cd 0 l=cd (i+1) (l.drop (i+1))∧Gr (c1+1) Y c' M')∨(r= .b false∧cd 0 l=false∧Gr (c1+1) Y c' M'):=by
   intro b hb hbt;refine(w41 Φ h41 h64 h69 h66 h65 h67 h84 okY (P1.grow gY _ _ hp') hSi).mono ?_;rintro r M2 c2 ⟨rfl,g2⟩;rw[hbt]at hb;cases hpo:yr p with
   |true=>rw[hpo]at hb;exact .inl ⟨rfl,by rw[hb];rfl,g2⟩
   |false=>rw[hpo]at hb;exact .inr ⟨rfl,by rw[hb];rfl,g2⟩
  rw[←Xk]at he;by_cases hi0:i=0
  ·have dp:=dp.trans (ag (show¬0<i by omega));rw[ah hi0]at dz he;rw[ag (show¬0<i by omega)]at he;cases hz':decide (p.join=0)with
   |true=>
    rw[hz']at dn he;simp only[WX,Nat.reduceAdd,Bj,B0,n1,d1,ia,ld,hG6,Bool.and_self,sn,k0,k6,dz,dn,dp,aB];refine aD ((PART _ he (by simp)).mono ?_);rintro r M2 c2 (⟨rfl,h2,g2⟩|⟨rfl,h2,g2⟩)
    ·simp only[WX,Bj,q8];exact⟨l.length-(i+1),by omega,(hI _ _).2 ⟨i+1,_,_,(X1 (G1 (X1 (G1 (bK (bB (X8 (X2 (X1 []))))))))),rfl,hlt,rfl,gr.trans (gY.trans g2),h2⟩⟩
    ·simp only[WX,Bj];exact NO h2 _ _ (gXY.trans g2)
   |false=>
    rw[hz']at dn he;simp only[WX,Nat.reduceAdd,Bj,B0,n1,d1,ia,ld,hG6,Bool.and_self,sn,k0,dz,dn,aB];exact NO (by rw[he];rfl) _ _ gXY
  ·have dp:=dp.trans (ah (show 0<i by omega));rw[ag hi0]at dz he;rw[ah (show 0<i by omega)]at he;cases x with
   |true=>
    simp only[WX,Nat.reduceAdd,Bj,B0,n1,d1,ia,ld,hG6,Bool.and_self,sn,k0,dz,dp,hx,aB];exact NO (by rw[he];rfl) _ _ gXY
   |false=>
    cases w with
    |true=>
     simp only[WX,Nat.reduceAdd,Bj,B0,n1,d1,ia,ld,hG6,Bool.and_self,sn,k0,dz,dp,hx,hw,aB];exact NO (by rw[he];rfl) _ _ gXY
    |false=>
     simp only[WX,Nat.reduceAdd,Bj,B0,n1,d1,ia,ld,hG6,Bool.and_self,sn,k0,k6,dz,dp,hx,hw,aB];refine aD ((PART _ he (by simp)).mono ?_);rintro r M2 c2 (⟨rfl,h2,g2⟩|⟨rfl,h2,g2⟩)
     ·simp only[WX,Bj,q8];exact⟨l.length-(i+1),by omega,(hI _ _).2 ⟨i+1,_,_,(X1 (G1 (X1 (G1 (bK (bB (X8 (X2 (X1 []))))))))),rfl,hlt,rfl,gr.trans (gY.trans g2),h2⟩⟩
     ·simp only[WX,Bj];exact NO h2 _ _ (gXY.trans g2)
 ·obtain rfl:i=l.length:=by omega
  have d1:decide ((l.length:Int)<(l.length:Int))=false:=ag (by omega);rw[cm,cd]at he;have lx:loadN F M1 c 0 1=some [vl]:=(gr.loadN (ay _) _ _).trans lX;simp only[WX,Bj,B0,n1,d1,lx,aB];refine aD ((w19 Φ h19 h42 h68 (gr.ok okX) (hX.grow gr) (iw l 0 he) hS hz).mono ?_);rintro r M2 c2 ⟨rfl,g2⟩;have dW:=zP (rt 0 l).length;rw[he,Bool.true_and]at CH;cases hW:decide (4096<(rt 0 l).length)with
  |true=>
   rw[hW]at dW CH;simp only[WX,Bj,dW];exact⟨BAD _ rfl CH,gX.trans (gr.trans g2)⟩
  |false=>
   rw[hW]at dW CH;simp only[WX,Bj,dW];exact⟨by rw[CH];rfl,gX.trans (gr.trans g2)⟩
def Bp(l:List (List UInt8)):List UInt8:=(l.map fun x=>32::x).flatten
theorem EP:Bp []=[]:=rfl
theorem sH(w:List UInt8)(r:List (List UInt8)):Bp (w::r)=32::(w++Bp r):=rfl
theorem kc(a b:List (List UInt8)):Bp (a++b)=Bp a++Bp b:=by unfold Bp;rw[List.map_append,List.flatten_append]
theorem Jb(l:List (List UInt8))(h:l≠[]):32::dA [32] l=Bp l:=by
 cases l with
 |nil=>exact absurd rfl h
 |cons w r=>rfl
theorem aJ9:∀(c:eF) (m:Nat),0<m→ga m c=Bp (c.map cw)
 |[],_,_=>rfl
 |w::r,m,h=>by
  rw[ga,ac h,List.map_cons,sH,aJ9 r (m+1) (by omega)];rfl
theorem bl7(c:eF)(h:c≠[]):32::ga 0 c=Bp (c.map cw):=by
 cases c with
 |nil=>exact absurd rfl h
 |cons w r=>rw[ga,ab (by omega),List.map_cons,sH,aJ9 r 1 (by omega)];rfl
theorem az3(inp:List Pc):∀(cs:List eF) (k:Nat),(∀c∈cs,c≠[])→(k=0→cs≠[])→Bp (gI inp k cs)=(if k=0 then[32]else[])++iY inp k cs
 |[],k,_,h=>by rw[ab (fun e=>h e rfl)];rfl
 |c::r,k,hc,_=>by
  have h1:=bl7 c (hc c (bG ..));have h2:=az3 inp r (k+1) (fun x hx=>hc x (bq _ hx)) (by omega);rw[ab (by omega),List.nil_append]at h2;rw[gI,iY,kc,kc,kc,h2,←h1];have h3:Bp (if(decide (k=0)&&hasW inp)=true then[[60],cw inp]else[])=WJ k inp:=by
   unfold WJ;split
   ·show 32::([60]++(32::(cw inp++[])))=_;rw[bF];rfl
   ·rfl
  rw[h3];by_cases hk:k=0
  ·rw[ab (show¬0<k by omega),ab (show¬0<k by omega),ac hk];rfl
  ·rw[ac (show 0<k by omega),ac (show 0<k by omega),ab hk];rfl
theorem R4{c:eF}(h:nv c=true):c≠[]:=by
 intro e;subst e
 revert h;decide
theorem bE2{p:dD}(h:jI p=true):Bp ((if p.nt=true then[[33]]else[])++(gI p.inp 0 p.cmds++jD p.beh p.out))=32::((if p.nt=true then[33,32]else[])++(iY p.inp 0 p.cmds++lu p.beh p.out)):=by
 unfold jI at h
 simp only[aC]at h
 obtain⟨h1,h2,h3,h4,h5,h6⟩:=h
 have hne:p.cmds≠[]:=by
  intro e;rw[e]at h1;revert h1;decide
 have hc:∀c∈p.cmds,c≠[]:=by
  intro c hc;have:=List.all_eq_true.1 h6 c hc;unfold zg at this;rw[aC]at this;exact R4 this.1
 rw[kc,kc,az3 p.inp p.cmds 0 hc (fun _=>hne),ac rfl]
 have ho:Bp (jD p.beh p.out)=lu p.beh p.out:=by
  unfold jD lu;cases hb:p.beh with
  |true=>
   rw[hb]at h3;have hw:hasW p.out=true:=by
    cases hw:hasW p.out with
    |true=>rfl
    |false=>rw[hw]at h3;exact absurd h3 (by decide)
   rw[ac rfl,ac hw,ac rfl];show 32::([62,62]++(32::(cw p.out++[])))=_;rw[bF];rfl
  |false=>
   show Bp (if hasW p.out=true then[[62],cw p.out]else[])=(if hasW p.out=true then[32,62,32]++cw p.out else[])
   cases hasW p.out with
   |true=>show 32::([62]++(32::(cw p.out++[])))=_;rw[bF];rfl
   |false=>rfl
 rw[ho]
 cases p.nt<;>rfl
theorem V0:∀(l:List dD) (i:Nat),cd i l=true→(i=0→l≠[])→Bp (kZ l)=(if i=0 then[32]else[])++rt i l
 |[],i,_,h=>by rw[ab (fun e=>h e rfl)];rfl
 |p::r,i,h,_=>by
  rw[cd,aC,aC]at h;obtain⟨⟨hj,hp⟩,hr⟩:=h;have h2:=V0 r (i+1) hr (by omega);rw[ab (by omega),List.nil_append]at h2;rw[kZ,rt,kc,h2,I4,kc,bE2 hp];unfold jOk at hj;rw[aC,aC]at hj;obtain⟨j1,j2,j3⟩:=hj;simp only[Bool.not_eq_true',decide_eq_false_iff_not]at j2 j3;by_cases hi:i=0
  ·rw[ah hi]at j1;have hj0:p.join=0:=by simpa using j1
   rw[ac hi,ab (show¬0<i by omega),ab (show¬0<p.join by omega)];simp only[EP,List.cons_append,List.nil_append,aQ]
  ·rw[ag hi]at j1;have hj0:¬p.join=0:=by simpa using j1
   rw[ab hi,ac (show 0<i by omega),ac (show 0<p.join by omega)];have:p.join.toNat=1∨p.join.toNat=2∨p.join.toNat=3:=by omega
   rcases this with e|e|e<;>rw[e]<;>simp only[sH,EP,tA,Dl,List.cons_append,List.nil_append,aQ]
theorem bl8{l:List dD}(h:cd 0 l=true)(hl:l≠[]):kZ l≠[]:=by
 intro e
 have:=V0 l 0 h (fun _=>hl)
 rw[e]at this;cases this
theorem V1{l:List dD}(h:cd 0 l=true):rt 0 l=dA [32] (kZ l):=by
 by_cases hl:l=[]
 ·subst hl;rfl
 ·have h1:=V0 l 0 h (fun _=>hl);rw[←Jb _ (bl8 h hl)]at h1;injection h1 with _ h1
  exact h1.symm
theorem F6(l:List dD):uY l=t4 l:=by
 unfold uY t4
 cases h:cd 0 l with
 |false=>rfl
 |true=>rw[V1 h]
end
end Go.Proofs.YtmbpllipombieaaDoor.Ev
