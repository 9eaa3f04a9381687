/- What is proved here: pieces of the evaluator's soundness: if the evaluator comes to a value, the model's run comes to it, for every world and tape; no conditions beyond the hypotheses of each theorem. -/
import Derived.Test.YtmbpllipombieaaDoorEv7
set_option linter.unusedSimpArgs false
set_option linter.unusedVariables false
set_option linter.defProp false
set_option maxRecDepth 10000
set_option maxHeartbeats 16000000
namespace Go.Proofs.YtmbpllipombieaaDoor.Ev
open Go
noncomputable section
def GQ(p:fD):Prop:=(∀q∈p.inp,q.1.length≤1000000)∧(∀q∈p.out,q.1.length≤1000000)∧(∀x∈p.cmds,Ji x)∧p.inp.length≤1000000∧p.out.length≤1000000
theorem rc(w:List Pc):decide ((0:Int)<(w.length:Int))=hasW w:=by unfold hasW;congr 1;exact propext (by omega)
theorem Fg(n:Nat):decide ((n:Int)<1)=decide (n<1):=by congr 1;exact propext (by omega)
theorem aD9(n:Nat):decide ((6:Int)<(n:Int))=decide (6<n):=by congr 1;exact propext (by omega)
theorem w40(Φ:Nat→Option CF)(h:Φ 40=some c40)(h63:Φ 63=some Wu)(h62:Φ 62=some Ho)(h80:Φ 80=some RJ)(h81:Φ 81=some RK)(h82:Φ 82=some VT)(h90:Φ 90=some RL)(h83:Φ 83=some J8)(h61:Φ 61=some Hn)(h77:Φ 77=some (.orc (aG h77))){F:RO}{M:Mem}{c:Nat}(ok:cR F M c){e:List V}{p:fD}(hp:P1 F M c e p)(hs:GQ p):
 Calls Φ F 40 [.g e] M c fun r M' c'=>r= .b (mg p)∧Gr c M c' M':=by
 refine aN h ?_
 obtain⟨vi,vo,vc,rfl,hi,ho,hc⟩:=hp
 obtain⟨hsi,hso,hsc,_,_⟩:=hs
 obtain⟨y1,y2,_⟩:=hi.one
 obtain⟨z1,z2,_⟩:=ho.one
 obtain⟨x1,_,_⟩:=hc.one
 have hG:flatten (V.g [.i .i64 p.join,.b p.nt,vi,vo,.b p.beh,vc])=[.i .i64 p.join,.b p.nt,vi,vo,.b p.beh,vc]:=rfl
 have hA:aK [.i .i64 p.join,.b p.nt,vi,vo,.b p.beh,vc]=true:=by
  rw[av,av,av,av,av,av,bO,y1,z1,x1];rfl
 have gX:=(Gr.refl ok).set c (ae 39 [.i .i64 p.join,.b p.nt,vi,vo,.b p.beh,vc]) (aj _) (ay _) (aJ _)
 have m0:(M.set c (ae 39 [.i .i64 p.join,.b p.nt,vi,vo,.b p.beh,vc])).get c=some (ae 39 [.i .i64 p.join,.b p.nt,vi,vo,.b p.beh,vc]):=am _ _ _
 have hiX:=hi.grow gX
 have hoX:=ho.grow gX
 have hcX:=hc.grow gX
 have k2:load1 F (M.set c (ae 39 [.i .i64 p.join,.b p.nt,vi,vo,.b p.beh,vc])) c 2=some vi:=au m0 2
 have k3:load1 F (M.set c (ae 39 [.i .i64 p.join,.b p.nt,vi,vo,.b p.beh,vc])) c 3=some vo:=au m0 3
 have k4:load1 F (M.set c (ae 39 [.i .i64 p.join,.b p.nt,vi,vo,.b p.beh,vc])) c 4=some (.b p.beh):=au m0 4
 have k5:load1 F (M.set c (ae 39 [.i .i64 p.join,.b p.nt,vi,vo,.b p.beh,vc])) c 5=some vc:=au m0 5
 have okX:=gX.ok ok
 have hfr:=okX.free
 have ni:=hi.len
 have no:=ho.len
 have nc:=hc.len
 have di:=rc p.inp
 have do':=rc p.out
 have dl:=Fg p.cmds.length
 have dg:=aD9 p.cmds.length
 have l2:loadN F (M.set c (ae 39 [.i .i64 p.join,.b p.nt,vi,vo,.b p.beh,vc])) c 2 1=some [vi]:=cN M c 2 1 39 [.i .i64 p.join,.b p.nt,vi,vo,.b p.beh,vc] (by simp)
 have l3:loadN F (M.set c (ae 39 [.i .i64 p.join,.b p.nt,vi,vo,.b p.beh,vc])) c 3 1=some [vo]:=cN M c 3 1 39 [.i .i64 p.join,.b p.nt,vi,vo,.b p.beh,vc] (by simp)
 have PO:mg p=(!decide (p.cmds.length<1)&&(!decide (6<p.cmds.length)&&(!(p.beh&& !hasW p.out)&&(!(hasW p.inp&& !du p.inp)&&(!(hasW p.out&& !du p.out)&&p.cmds.all (zO p.cmds.length (hasW p.inp||hasW p.out))))))):=rfl
 have LAST:∀(M1:Mem) (c1:Nat) (u:List (Option V)),Gr (c+1) (M.set c (ae 39 [.i .i64 p.join,.b p.nt,vi,vo,.b p.beh,vc])) c1 M1→mg p=p.cmds.all (zO p.cmds.length (hasW p.inp||hasW p.out))→Wp xL (K Φ none 40 F) (.mk ((Gk u (.p c 0) (.b (hasW p.inp)) (.b (hasW p.out)))) [] M1 c1) (j6 F [.t (.r .h)] fun r M' c'=>r= .b (mg p)∧Gr c M c' M'):=by
  intro M1 c1 u g hpo;refine m40 Φ h63 h62 h80 h81 h82 h90 h83 h61 h77 (g.ok okX) (by have:=g.le;omega) (hcX.grow g) hsc ((g.load1 (ay _) 5).trans k5) (hasW p.inp) (hasW p.out) u _ ?_;intro u M2 c2 g2;simp only[WX];exact⟨by rw[hpo],gX.trans (g.trans g2)⟩
 have h0:aK [vi]=true∧aK [vo]=true:=⟨by rw[av,bO,y1];rfl,by rw[av,bO,z1];rfl⟩
 obtain⟨hA1,hA2⟩:=h0
 simp only[WX,Nat.reduceAdd,e40,aL3,aL4,aL5,aL6,hG,y1,z1,x1,Bool.and_self,k2,k3,k5,ni,no,nc]
 generalize M.set c (ae 39 [.i .i64 p.join,.b p.nt,vi,vo,.b p.beh,vc])=X at gX m0 hiX hoX hcX k2 k3 k4 k5 okX hfr l2 l3 LAST⊢
 have gX0:=gX
 have gX:=gX.up (show c+1≤c+13 by omega)
 by_cases n1:p.cmds.length<1
 ·rw[ah n1]at dl PO;simp only[WX,rH,di,do',dl];exact⟨by rw[PO];rfl,gX⟩
 rw[af n1]at dl PO
 by_cases n6:6<p.cmds.length
 ·rw[ah n6]at dg PO;simp only[WX,rH,k5,nc,di,do',dl,dg];exact⟨by rw[PO];rfl,gX⟩
 rw[af n6]at dg PO
 generalize hasW p.inp=I at di PO LAST
 generalize hasW p.out=O at do' PO LAST
 generalize p.beh=B at k4 PO
 have hG1:∀v,flatten (V.g [v])=[v]:=fun _=>rfl
 have INP:∀(M1:Mem) (c1:Nat),Gr (c+1) X c1 M1→lD (dt (j5 Φ) F 61 [.g [vi]] M1 c1 (Φ 61)) fun r M' c'=>r= .b (du p.inp)∧Gr (c+1) X c' M':=fun M1 c1 g=>(w61 Φ h61 h77 (g.ok okX) (hiX.grow g) hsi).mono (by rintro r M2 c2 ⟨h1,h2⟩;exact⟨h1,g.trans h2⟩)
 have OUT:∀(M1:Mem) (c1:Nat),Gr (c+1) X c1 M1→lD (dt (j5 Φ) F 61 [.g [vo]] M1 c1 (Φ 61)) fun r M' c'=>r= .b (du p.out)∧Gr (c+1) X c' M':=fun M1 c1 g=>(w61 Φ h61 h77 (g.ok okX) (hoX.grow g) hso).mono (by rintro r M2 c2 ⟨h1,h2⟩;exact⟨h1,g.trans h2⟩)
 have gR:Gr (c+1) X (c+13) X:=(Gr.refl okX).up (by omega)
 have L3:∀(M1:Mem) (c1:Nat),Gr (c+1) X c1 M1→loadN F M1 c 3 1=some [vo]:=fun M1 c1 g=>(g.loadN (ay _) _ _).trans l3
 cases O with
 |false=>
  cases B with
  |true=>
   simp only[WX,rH,k4,k5,nc,di,do',dl,dg];exact⟨by rw[PO];rfl,gX⟩
  |false=>
   cases I with
   |false=>
    simp only[WX,k4,k5,nc,di,do',dl,dg];exact LAST X _ (X1 (G1 (X1 (G2 (bf (bA (br (X8 (X2 []))))))))) gR (by rw[PO];rfl)
   |true=>
    simp only[WX,k4,k5,nc,di,do',dl,dg,l2];refine az ((INP _ _ gR).mono ?_);rintro r M2 c2 ⟨rfl,g2⟩;cases hf:du p.inp with
    |true=>
     rw[hf]at PO;simp only[WX];exact LAST M2 c2 (X1 (G1 (X1 (G2 (bf (bA (br (X8 (X2 []))))))))) g2 (by rw[PO];rfl)
    |false=>
     rw[hf]at PO;simp only[WX,rH];exact⟨by rw[PO];rfl,gX0.trans g2⟩
 |true=>
  have PO:mg p=(!(I&& !du p.inp)&&(!!du p.out&&p.cmds.all (zO p.cmds.length (I||true)))):=by rw[PO];cases B<;>rfl
  cases B
  all_goals
   cases I with
   |false=>
    simp only[WX,k4,k5,nc,di,do',dl,dg,l3];refine az ((OUT _ _ gR).mono ?_);rintro r M2 c2 ⟨rfl,g2⟩;cases hf:du p.out with
    |true=>
     rw[hf]at PO;simp only[WX];exact LAST M2 c2 (X1 (G1 (X1 (G2 (bf (bA (br (X8 (X2 []))))))))) g2 (by rw[PO];rfl)
    |false=>
     rw[hf]at PO;simp only[WX,rH];exact⟨by rw[PO];rfl,gX0.trans g2⟩
   |true=>
    simp only[WX,k4,k5,nc,di,do',dl,dg,l2];refine az ((INP _ _ gR).mono ?_);rintro r M2 c2 ⟨rfl,g2⟩;cases hf:du p.inp with
    |true=>
     rw[hf]at PO;have l3':=L3 M2 c2 g2;simp only[WX,l3'];refine az ((OUT _ _ g2).mono ?_);rintro r M3 c3 ⟨rfl,g3⟩;cases hf:du p.out with
     |true=>
      rw[hf]at PO;simp only[WX];exact LAST M3 c3 (X1 (G1 (X1 (G2 (bf (bA (br (X8 (X2 []))))))))) g3 (by rw[PO];rfl)
     |false=>
      rw[hf]at PO;simp only[WX,rH];exact⟨by rw[PO];rfl,gX0.trans g3⟩
    |false=>
     rw[hf]at PO;simp only[WX,rH];exact⟨by rw[PO];rfl,gX0.trans g2⟩
abbrev aH9(u:List (Option V))(x1 x3 x4:V):T:=(.n (.n (.n (.n (.n (aq u 127 63 191 31 159 95 223) (uO u 15) (aq u 143 79 207 47 175 111 239)) (uO u 7) (.n (aq u 135 71 199 39 167 103 231) (uO u 23) (aq u 151 87 215 55 183 119 247))) (some x3) (.n (.n (aq u 131 67 195 35 163 99 227) (uO u 19) (aq u 147 83 211 51 179 115 243)) (uO u 11) (.n (aq u 139 75 203 43 171 107 235) (uO u 27) (aq u 155 91 219 59 187 123 251)))) (some x1) (.n (.n (.n (aq u 129 65 193 33 161 97 225) (uO u 17) (aq u 145 81 209 49 177 113 241)) (uO u 9) (.n (aq u 137 73 201 41 169 105 233) (uO u 25) (aq u 153 89 217 57 185 121 249))) (uO u 5) (.n (.n (aq u 133 69 197 37 165 101 229) (uO u 21) (aq u 149 85 213 53 181 117 245)) (uO u 13) (.n (aq u 141 77 205 45 173 109 237) (uO u 29) (aq u 157 93 221 61 189 125 253))))) (uO u 0) (.n (.n (.n (.n (aq u 128 64 192 32 160 96 224) (uO u 16) (aq u 144 80 208 48 176 112 240)) (uO u 8) (.n (aq u 136 72 200 40 168 104 232) (uO u 24) (aq u 152 88 216 56 184 120 248))) (some x4) (.n (.n (aq u 132 68 196 36 164 100 228) (uO u 20) (aq u 148 84 212 52 180 116 244)) (uO u 12) (.n (aq u 140 76 204 44 172 108 236) (uO u 28) (aq u 156 92 220 60 188 124 252)))) (uO u 2) (.n (.n (.n (aq u 130 66 194 34 162 98 226) (uO u 18) (aq u 146 82 210 50 178 114 242)) (uO u 10) (.n (aq u 138 74 202 42 170 106 234) (uO u 26) (aq u 154 90 218 58 186 122 250))) (uO u 6) (.n (.n (aq u 134 70 198 38 166 102 230) (uO u 22) (aq u 150 86 214 54 182 118 246)) (uO u 14) (.n (aq u 142 78 206 46 174 110 238) (uO u 30) (aq u 158 94 222 62 190 126 254))))))
abbrev U2(u:List (Option V))(x2:V):T:=(.n (.n (.n (.n (.n (aq u 127 63 191 31 159 95 223) (uO u 15) (aq u 143 79 207 47 175 111 239)) (uO u 7) (.n (aq u 135 71 199 39 167 103 231) (uO u 23) (aq u 151 87 215 55 183 119 247))) (uO u 3) (.n (.n (aq u 131 67 195 35 163 99 227) (uO u 19) (aq u 147 83 211 51 179 115 243)) (uO u 11) (.n (aq u 139 75 203 43 171 107 235) (uO u 27) (aq u 155 91 219 59 187 123 251)))) (uO u 1) (.n (.n (.n (aq u 129 65 193 33 161 97 225) (uO u 17) (aq u 145 81 209 49 177 113 241)) (uO u 9) (.n (aq u 137 73 201 41 169 105 233) (uO u 25) (aq u 153 89 217 57 185 121 249))) (uO u 5) (.n (.n (aq u 133 69 197 37 165 101 229) (uO u 21) (aq u 149 85 213 53 181 117 245)) (uO u 13) (.n (aq u 141 77 205 45 173 109 237) (uO u 29) (aq u 157 93 221 61 189 125 253))))) (uO u 0) (.n (.n (.n (.n (aq u 128 64 192 32 160 96 224) (uO u 16) (aq u 144 80 208 48 176 112 240)) (uO u 8) (.n (aq u 136 72 200 40 168 104 232) (uO u 24) (aq u 152 88 216 56 184 120 248))) (uO u 4) (.n (.n (aq u 132 68 196 36 164 100 228) (uO u 20) (aq u 148 84 212 52 180 116 244)) (uO u 12) (.n (aq u 140 76 204 44 172 108 236) (uO u 28) (aq u 156 92 220 60 188 124 252)))) (some x2) (.n (.n (.n (aq u 130 66 194 34 162 98 226) (uO u 18) (aq u 146 82 210 50 178 114 242)) (uO u 10) (.n (aq u 138 74 202 42 170 106 234) (uO u 26) (aq u 154 90 218 58 186 122 250))) (uO u 6) (.n (.n (aq u 134 70 198 38 166 102 230) (uO u 22) (aq u 150 86 214 54 182 118 246)) (uO u 14) (.n (aq u 142 78 206 46 174 110 238) (uO u 30) (aq u 158 94 222 62 190 126 254))))))
abbrev U3(u:List (Option V))(x1 x3 x4 x9:V):T:=(.n (.n (.n (.n (.n (aq u 127 63 191 31 159 95 223) (uO u 15) (aq u 143 79 207 47 175 111 239)) (uO u 7) (.n (aq u 135 71 199 39 167 103 231) (uO u 23) (aq u 151 87 215 55 183 119 247))) (some x3) (.n (.n (aq u 131 67 195 35 163 99 227) (uO u 19) (aq u 147 83 211 51 179 115 243)) (uO u 11) (.n (aq u 139 75 203 43 171 107 235) (uO u 27) (aq u 155 91 219 59 187 123 251)))) (some x1) (.n (.n (.n (aq u 129 65 193 33 161 97 225) (uO u 17) (aq u 145 81 209 49 177 113 241)) (some x9) (.n (aq u 137 73 201 41 169 105 233) (uO u 25) (aq u 153 89 217 57 185 121 249))) (uO u 5) (.n (.n (aq u 133 69 197 37 165 101 229) (uO u 21) (aq u 149 85 213 53 181 117 245)) (uO u 13) (.n (aq u 141 77 205 45 173 109 237) (uO u 29) (aq u 157 93 221 61 189 125 253))))) (uO u 0) (.n (.n (.n (.n (aq u 128 64 192 32 160 96 224) (uO u 16) (aq u 144 80 208 48 176 112 240)) (uO u 8) (.n (aq u 136 72 200 40 168 104 232) (uO u 24) (aq u 152 88 216 56 184 120 248))) (some x4) (.n (.n (aq u 132 68 196 36 164 100 228) (uO u 20) (aq u 148 84 212 52 180 116 244)) (uO u 12) (.n (aq u 140 76 204 44 172 108 236) (uO u 28) (aq u 156 92 220 60 188 124 252)))) (uO u 2) (.n (.n (.n (aq u 130 66 194 34 162 98 226) (uO u 18) (aq u 146 82 210 50 178 114 242)) (uO u 10) (.n (aq u 138 74 202 42 170 106 234) (uO u 26) (aq u 154 90 218 58 186 122 250))) (uO u 6) (.n (.n (aq u 134 70 198 38 166 102 230) (uO u 22) (aq u 150 86 214 54 182 118 246)) (uO u 14) (.n (aq u 142 78 206 46 174 110 238) (uO u 30) (aq u 158 94 222 62 190 126 254))))))
abbrev aI0(u:List (Option V))(x1:V):T:=(.n (.n (.n (.n (.n (aq u 127 63 191 31 159 95 223) (uO u 15) (aq u 143 79 207 47 175 111 239)) (uO u 7) (.n (aq u 135 71 199 39 167 103 231) (uO u 23) (aq u 151 87 215 55 183 119 247))) (uO u 3) (.n (.n (aq u 131 67 195 35 163 99 227) (uO u 19) (aq u 147 83 211 51 179 115 243)) (uO u 11) (.n (aq u 139 75 203 43 171 107 235) (uO u 27) (aq u 155 91 219 59 187 123 251)))) (some x1) (.n (.n (.n (aq u 129 65 193 33 161 97 225) (uO u 17) (aq u 145 81 209 49 177 113 241)) (uO u 9) (.n (aq u 137 73 201 41 169 105 233) (uO u 25) (aq u 153 89 217 57 185 121 249))) (uO u 5) (.n (.n (aq u 133 69 197 37 165 101 229) (uO u 21) (aq u 149 85 213 53 181 117 245)) (uO u 13) (.n (aq u 141 77 205 45 173 109 237) (uO u 29) (aq u 157 93 221 61 189 125 253))))) (uO u 0) (.n (.n (.n (.n (aq u 128 64 192 32 160 96 224) (uO u 16) (aq u 144 80 208 48 176 112 240)) (uO u 8) (.n (aq u 136 72 200 40 168 104 232) (uO u 24) (aq u 152 88 216 56 184 120 248))) (uO u 4) (.n (.n (aq u 132 68 196 36 164 100 228) (uO u 20) (aq u 148 84 212 52 180 116 244)) (uO u 12) (.n (aq u 140 76 204 44 172 108 236) (uO u 28) (aq u 156 92 220 60 188 124 252)))) (uO u 2) (.n (.n (.n (aq u 130 66 194 34 162 98 226) (uO u 18) (aq u 146 82 210 50 178 114 242)) (uO u 10) (.n (aq u 138 74 202 42 170 106 234) (uO u 26) (aq u 154 90 218 58 186 122 250))) (uO u 6) (.n (.n (aq u 134 70 198 38 166 102 230) (uO u 22) (aq u 150 86 214 54 182 118 246)) (uO u 14) (.n (aq u 142 78 206 46 174 110 238) (uO u 30) (aq u 158 94 222 62 190 126 254))))))
abbrev bP8(u:List (Option V))(x1 x3:V):T:=(.n (.n (.n (.n (.n (aq u 127 63 191 31 159 95 223) (uO u 15) (aq u 143 79 207 47 175 111 239)) (uO u 7) (.n (aq u 135 71 199 39 167 103 231) (uO u 23) (aq u 151 87 215 55 183 119 247))) (some x3) (.n (.n (aq u 131 67 195 35 163 99 227) (uO u 19) (aq u 147 83 211 51 179 115 243)) (uO u 11) (.n (aq u 139 75 203 43 171 107 235) (uO u 27) (aq u 155 91 219 59 187 123 251)))) (some x1) (.n (.n (.n (aq u 129 65 193 33 161 97 225) (uO u 17) (aq u 145 81 209 49 177 113 241)) (uO u 9) (.n (aq u 137 73 201 41 169 105 233) (uO u 25) (aq u 153 89 217 57 185 121 249))) (uO u 5) (.n (.n (aq u 133 69 197 37 165 101 229) (uO u 21) (aq u 149 85 213 53 181 117 245)) (uO u 13) (.n (aq u 141 77 205 45 173 109 237) (uO u 29) (aq u 157 93 221 61 189 125 253))))) (uO u 0) (.n (.n (.n (.n (aq u 128 64 192 32 160 96 224) (uO u 16) (aq u 144 80 208 48 176 112 240)) (uO u 8) (.n (aq u 136 72 200 40 168 104 232) (uO u 24) (aq u 152 88 216 56 184 120 248))) (uO u 4) (.n (.n (aq u 132 68 196 36 164 100 228) (uO u 20) (aq u 148 84 212 52 180 116 244)) (uO u 12) (.n (aq u 140 76 204 44 172 108 236) (uO u 28) (aq u 156 92 220 60 188 124 252)))) (uO u 2) (.n (.n (.n (aq u 130 66 194 34 162 98 226) (uO u 18) (aq u 146 82 210 50 178 114 242)) (uO u 10) (.n (aq u 138 74 202 42 170 106 234) (uO u 26) (aq u 154 90 218 58 186 122 250))) (uO u 6) (.n (.n (aq u 134 70 198 38 166 102 230) (uO u 22) (aq u 150 86 214 54 182 118 246)) (uO u 14) (.n (aq u 142 78 206 46 174 110 238) (uO u 30) (aq u 158 94 222 62 190 126 254))))))
def ai9:CC:=(.reg [(aa a1 (.bx 39 6 z0)),(qq a2 (.mv xF))])
def aL7:=wu ai9.eq_1
def aj0:CC:=(.reg [(qq dJ (.fa 5 z1)),(qq ey (.ld1 eK)),(qq eU (.ln .slice dE)),(qq eC (.bi .lss ei (x6 1))),(qq dR (.mv eb)),(aw dA (.fa 5 z1) dR),(aw eX (.ld1 gf) dR),(aw gC (.ln .slice gM) dR),(aw fK (.bi .gtr gS (x6 6)) dR),(qq i5 (.pk fG xT hU)),(qq gh (.mv jz)),(aw fE (.fa 4 z1) gh),(aw j9 (.ld1 ju) gh),(aw gO (.mv kL) gh),(aE jn (.fa 3 z1) gO),(aE gP (.fa 0 jA) gO),(aE ja (.ld1 kM) gO),(aE gQ (.ln .slice lw) gO),(aE kQ (.bi .eql lB (x6 0)) gO),(aw gU (.pk k8 mH xF) gh),(qq jv (.pk k7 xT mI))])
def aL8:=wu aj0.eq_1
def aj1:CC:=(.seq (.reg [(qq a2 (.mv xF))]) .ret)
def Gz:=wu aj1.eq_1
def aj2:CC:=(.seq aj0 (.cond nv aj1 .skip))
def aL9:=wu aj2.eq_1
def aj3:CC:=(.reg [(qq jC (.fa 2 z1)),(qq lz (.fa 0 ny)),(qq lE (.ld1 oC)),(qq jx (.ln .slice pQ)),(qq iK (.bi .gtr pR (x6 0))),(qq mK (.mv pM)),(aE ka (.fa 2 z1) mK),(aE mL (.ldn 1 oF) mK),(p5 lA (.call 64 [qS]) mK),(aE nj (.un .not qT) mK),(qq jb (.pk pS rJ xF)),(qq kR (.mv pT)),(aw oK (.fa 3 z1) kR),(aw lF (.fa 0 rL) kR),(aw oL (.ld1 qU) kR),(aw ll (.ln .slice rM) kR),(aw oM (.bi .gtr sO (x6 0)) kR),(aw kb (.mv rN) kR),(aE lG (.fa 3 z1) kb),(aE qZ (.ldn 1 uN) kb),(p5 r0 (.call 64 [uZ]) kb),(aE mM (.un .not uP) kb),(aw sv (.pk sq v7 xF) kR),(qq uS (.pk rK xT vD))])
def B8:=wu aj3.eq_1
def aj4:CC:=(.seq (.reg [(qq a2 (.mv xF))]) .ret)
def B9:=wu aj4.eq_1
def aj5:CC:=(.seq aj3 (.cond wW aj4 .skip))
def Ba:=wu aj5.eq_1
def aj6:CC:=(.reg [(qq a3 (.mv (x6 0)))])
def bX6:=wu aj6.eq_1
def aj7:CC:=(.reg [(qq pO (.mv z3)),(qq sZ (.fa 5 z1)),(qq vN (.ld1 vE)),(qq vO (.ln .slice BH)),(qq sw (.bi .lss za Bg))])
def bX7:=wu aj7.eq_1
def NE:CC:=(.seq aj7 (.cond Bh .skip (.exit 0)))
def bf7:=wu NE.eq_1
def NF:CC:=(.reg [(qq vQ (.fa 5 z1)),(qq nA (.ld1 Bj)),(qq vR (.mv z3)),(qq ve (.iaS 1 zk BJ)),(qq oN (.ldn 1 zb)),(aa a4 (.al 42 [.l0])),(ez (.st 1 z4 zl))])
def bf8:=wu NF.eq_1
def NG:CC:=(.reg [(qq vf (.ldn 1 z4)),(ee uT (.call 66 [zd])),(ee uU (.call 65 [ze])),(qq rS (.mv zm)),(qq oD (.ex 0 vF)),(qq uV (.ex 1 vF)),(qq fF (.ex 2 vF)),(qq a5 (.mv zf)),(qq a6 (.mv zn)),(qq a7 (.mv ss))])
def bf9:=wu NG.eq_1
def NH:CC:=(.reg [(qq pP (.fa 0 z4)),(qq vg (.ld1 zo)),(qq r4 (.ln .slice zq)),(qq vT (.bi .sub zr (x6 1))),(qq a8 (.mv Bm))])
def UW:=wu NH.eq_1
def NI:CC:=(.reg [(qq vU (.mv z7)),(qq vV (.un .not Bn)),(qq uW (.mv Bo)),(aw xe (.mv z8) uW),(aw oO (.mv z5) uW),(aw t0 (.bi .lss BL BM) uW),(qq zB (.pk BK xT BN)),(qq vW (.mv BO)),(aw Bv (.mv z6) vW),(aw Bw (.bi .geq GH (x6 0)) vW),(aw rT (.mv ET) vW),(aE Bx (.mv z8) rT),(aE BU (.mv z6) rT),(aE BV (.bi .gtr EV GI) rT),(aw BW (.pk EU EW xF) vW),(qq BX (.pk ES xT GJ))])
def UX:=wu NI.eq_1
def NJ:CC:=(.seq (.reg [(qq a2 (.mv xF))]) .ret)
def yR:=wu NJ.eq_1
def NK:CC:=(.seq NI (.cond GK NJ .skip))
def UY:=wu NK.eq_1
def NL:CC:=(.reg [(qq BZ (.ldn 1 z4)),(ee Bz (.call 67 [GL])),(qq xf (.mv Ja)),(aE H5 (.fa 5 z1) xf),(aE H6 (.ld1 Jc) xf),(aE H7 (.ln .slice Jd) xf),(aE oJ (.bi .gtr Je (x6 1)) xf),(aE ie (.mv qR) xf),(aw sU (.fa 2 z1) ie),(aw sW (.fa 0 vz) ie),(aw rQ (.ld1 vA) ie),(aw BS (.ln .slice vC) ie),(aw v9 (.fa 3 z1) ie),(aw GT (.fa 0 IX) ie),(aw GU (.ld1 Vt) ie),(aw GV (.ln .slice Vu) ie),(aw GW (.bi .add IW Vv) ie),(aw sX (.bi .gtr Vw (x6 0)) ie),(aE H0 (.pk yZ xT Vx) xf),(qq H1 (.pk Jb Vy xF))])
def bg0:=wu NL.eq_1
def NM:CC:=(.seq (.reg [(qq a2 (.mv xF))]) .ret)
def bg1:=wu NM.eq_1
def CA:CC:=(.seq NL (.cond Vz NM .skip))
def bg2:=wu CA.eq_1
def CB:CC:=(.reg [(qq a9 (.mv (x6 0)))])
def bg3:=wu CB.eq_1
def NN:CC:=(.reg [(qq H2 (.mv z9)),(qq va (.fa 0 z4)),(qq BT (.ld1 IZ)),(qq vd (.ln .slice J0)),(qq rR (.bi .lss IY VA))])
def bg4:=wu NN.eq_1
def NP:CC:=(.cond VB .skip (.exit 2))
def bg5:=wu NP.eq_1
def NQ:CC:=(.reg [(qq Jp (.fa 0 z4)),(qq Jq (.ld1 YC)),(qq Jr (.mv z9)),(qq Js (.iaS 1 YD YE)),(qq Jt (.ldn 1 YF)),(ee sY (.call 64 [YG])),(qq Ju (.un .not YH))])
def bg6:=wu NQ.eq_1
def NR:CC:=(.seq (.reg [(qq a2 (.mv xF))]) .ret)
def bg7:=wu NR.eq_1
def NS:CC:=(.cond YI NR .skip)
def bg8:=wu NS.eq_1
def NT:CC:=(.reg [(qq H3 (.mv z9)),(qq Jo (.bi .add VD (x6 1))),(qq a9 (.mv YB))])
def bg9:=wu NT.eq_1
def tq:CC:=(.seq (.seq NN NP) (.seq (.block 3 (.seq NQ NS)) NT))
def bh0:=wu tq.eq_1
def NU:CC:=(.seq NK (.seq CA (.seq CB (.block 2 (.loop tq)))))
def UZ:=wu NU.eq_1
def xM:CC:=(.reg [(qq vP (.mv z3)),(qq sy (.bi .add Bi (x6 1))),(qq a3 (.mv BI))])
def bh1:=wu xM.eq_1
def NW:CC:=(.seq (.block 1 (.seq NF (.seq NG (.seq NH NU)))) xM)
def bh2:=wu NW.eq_1
def xN:CC:=(.seq (.reg [(qq a2 (.mv xT))]) .ret)
def bh3:=wu xN.eq_1
def xO:CC:=(.seq (.seq aj6 (.block 0 (.loop (.seq NE NW)))) xN)
def bh4:=wu xO.eq_1
def c41:CF:= .mk 8 [.t a2] (.seq ai9 (.seq aj2 (.seq aj5 xO)))
theorem e41(v0:V):bz 8 [v0]=(.n sk7 (some v0) sk7):=rfl
def GN:=ai @e41 (ai @aL7 (ai @aL8 (ai @Gz (ai @aL9 (ai @B8 (ai @B9 (ai @Ba (ai @bX6 (ai @bX7 (ai @bf7 (ai @bf8 (ai @bf9 (ai @UW (ai @UX (ai @yR (ai @UY (ai @bg0 (ai @bg1 (ai @bg2 (ai @bg3 (ai @bg4 (ai @bg5 (ai @bg6 (ai @bg7 (ai @bg8 (ai @bg9 (ai @bh0 (ai @UZ (ai @bh1 (ai @bh2 (ai @bh3 (@bh4))))))))))))))))))))))))))))))))
theorem l41(Φ:Nat→Option CF)(h64:Φ 64=some VQ)(h69:Φ 69=some (.orc (aG h78))){F:RO}{M:Mem}{c b i c2:Nat}(ok:cR F M c2)(hbb:b<c2){v:V}{l:eB}(hl:fo F M c2 v l)(hs:Ji l)(A:load1 F M b 0=some v)(u:List (Option V))(Q:Ex→St→Prop)
 (hQ:l.all du=true→ ∀(u:List (Option V)) M' c',Gr c2 M c' M'→Q (.ext 2) (.mk ((aH9 u (.p c 0) (.i .i64 (i:Int)) (.p b 0))) [] M' c'))
 (hR:l.all du=false→ ∀(u:List (Option V)) M' c',Gr c2 M c' M'→Q .ret (.mk ((U2 u (.b false))) [] M' c')):
 Wp (.loop tq) (K Φ none 41 F) (.mk ((U3 u (.p c 0) (.i .i64 (i:Int)) (.p b 0) (.i .i64 0))) [] M c2) Q:=by
 have n1:=hl.len
 have mx:=hl.max
 obtain⟨I,hI⟩:∃I:Nat→St→Prop,∀n s',I n s'↔(∃(j c1:Nat) (M1:Mem) (u:List (Option V)),n=l.length-j∧j≤l.length∧s'= .mk ((U3 u (.p c 0) (.i .i64 (i:Int)) (.p b 0) (.i .i64 (j:Int)))) [] M1 c1∧Gr c2 M c1 M1∧l.all du=(l.drop j).all du):=⟨fun n s'=>_,fun _ _=>Iff.rfl⟩
 refine bw I ?_ l.length _ ((hI _ _).2 ⟨0,_,_,(X1 (G1 (X1 (G2 (X4 (G1 (bf (bf (bf (bA (br (X4 (X1 []))))))))))))),rfl,aD _,rfl,Gr.refl ok,rfl⟩)
 intro n s' hIs
 obtain⟨j,c1,M1,u,rfl,hj,rfl,gr1,hb⟩:=(hI _ _).1 hIs
 clear hIs
 have A1:load1 F M1 b 0=some v:=(gr1.load1 hbb _).trans A
 by_cases hlt:j<l.length
 ·have q8:cB .add (.i .i64 (j:Int)) (.i .i64 1)=some (.i .i64 ((j+1:Nat):Int)):=by rw[be _ _ (by omega) (by omega)];simp
  have d1:decide ((j:Int)<(l.length:Int))=true:=ah (by omega);obtain⟨b',o,x,hbx,ia,_,ld,hw⟩:=cQ.at1 (hl.grow gr1) j hlt;have ia:=ia .i64;have hw:dQ F M1 c1 x l[j]:=hw;have hd:l.drop j=l[j]::l.drop (j+1):=bS hlt;rw[hd,List.all_cons]at hb;have hsj:=hs l[j] (List.getElem_mem _);generalize l[j]=w at hb hw hsj;simp only[WX,GN,A1,n1,d1,ia,ld,aB];refine az ((w64 Φ h64 h69 (gr1.ok ok) hw hsj).mono ?_);rintro r M2 c3 ⟨rfl,g2⟩;cases hf:du w with
  |true=>
   rw[hf]at hb;simp only[WX,GN,q8];exact⟨l.length-(j+1),by omega,(hI _ _).2 ⟨j+1,_,_,(X1 (G1 (X1 (G2 (X4 (G1 (bf (bf (bf (bA (br (X4 (X1 []))))))))))))),rfl,hlt,rfl,gr1.trans g2,hb⟩⟩
  |false=>
   rw[hf]at hb;simp only[WX,GN];exact hR hb (X2 (G1 (bf (bf (bf (bA (br (X8 (X4 []))))))))) _ _ (gr1.trans g2)
 ·obtain rfl:j=l.length:=by omega
  have d1:decide ((l.length:Int)<(l.length:Int))=false:=af (by omega);rw[cj]at hb;simp only[WX,GN,A1,n1,d1,aB];exact hQ hb (X1 (G1 (X1 (G2 (bf (bf (bf (bA (br (X8 (X2 []))))))))))) _ _ gr1
def cbR(l:eB):Bool:= !(Dw (I5 l)).2.2||(decide ((l.length:Int)-1<(Dw (I5 l)).1)||(decide (0≤(Dw (I5 l)).2.1)&&decide ((Dw (I5 l)).2.1<(l.length:Int)-1)))
def lm(n:Nat)(io:Bool)(l:eB):Bool:= !cbR l&&(!(Hr (I5 l)&&(decide (1<n)||io))&&l.all du)
theorem kn3(s:List UInt8):(∃x,kn s=some x∧Dw s=(x.1,x.2.1,true)∧Hr s=x.2.2)∨(kn s=none∧Hr s=false∧Dw s=(0,0,false)):=by
 rcases SJ s with rfl|rfl|rfl|rfl|rfl|rfl|rfl|rfl|rfl|rfl|rfl|rfl|rfl|rfl|rfl|h
 all_goals first|exact .inr h|exact .inl ⟨_,rfl,rfl,rfl⟩
theorem aR5(n:Nat)(io:Bool)(l:eB):zO n io l=lm n io l:=by
 unfold zO lm cbR oU WG I5
 cases hs:stS l with
 |true=>
  have h0:Dw []=(0,0,false):=rfl;rw[ac rfl,h0];cases kn (zN l)<;>rfl
 |false=>
  rw[ab (by simp)];rcases kn3 (zN l)with⟨x,h1,h2,h3⟩|⟨h1,h2,h3⟩
  ·rw[h1,h2,h3];obtain⟨x1,x2,x3⟩:=x;dsimp only;have e1:decide (x1≤(l.length:Int)-1)= !decide ((l.length:Int)-1<x1):=by rw[←decide_not];congr 1;exact propext (by omega)
   have e2:decide (x2<0)= !decide (0≤x2):=by rw[←decide_not];congr 1;exact propext (by omega)
   have e3:decide ((l.length:Int)-1≤x2)= !decide (x2<(l.length:Int)-1):=by rw[←decide_not];congr 1;exact propext (by omega)
   rw[e1,e2,e3];generalize decide ((l.length:Int)-1<x1)=a;generalize decide (0≤x2)=b;generalize decide (x2<(l.length:Int)-1)=d;generalize l.all du=e;generalize(decide (1<n)||io)=f;cases a<;>cases b<;>cases d<;>cases e<;>cases f<;>cases x3<;>rfl
  ·rw[h1,h2,h3];rfl
theorem m41(Φ:Nat→Option CF)(h64:Φ 64=some VQ)(h69:Φ 69=some (.orc (aG h78)))(h66:Φ 66=some VS)(h65:Φ 65=some (.orc (aG h65)))(h67:Φ 67=some Wv)(h84:Φ 84=some (.orc (aG h84))){F:RO}{M:Mem}{c c2:Nat}(ok:cR F M c2)(hcc:c<c2){vi vo vc:V}{wi wo:List Pc}{cs:List eB}(hi:pf vi=some (.i .i64 (wi.length:Int)))(ho:pf vo=some (.i .i64 (wo.length:Int)))(hli:wi.length≤1000000)(hlo:wo.length≤1000000)(hc:lh F M c2 vc cs)(hs:∀x∈cs,Ji x)(A2:load1 F M c 2=some vi)(A3:load1 F M c 3=some vo)(A5:load1 F M c 5=some vc)(u:List (Option V))(Q:Ex→St→Prop)
 (hQ:∀(u:List (Option V)) M' c',Gr c2 M c' M'→Q .ret (.mk ((U2 u (.b (cs.all (lm cs.length (hasW wi||hasW wo)))))) [] M' c')):
 Wp xO (K Φ none 41 F) (.mk ((aI0 u (.p c 0))) [] M c2) Q:=by
 have n1:=hc.len
 have mx:=hc.max
 obtain⟨io,hio⟩:∃io,(hasW wi||hasW wo)=io:=⟨_,rfl⟩
 have dio:decide ((0:Int)<(wi.length:Int)+(wo.length:Int))=io:=by
  rw[←hio];unfold hasW;rw[←Bool.decide_or];congr 1;exact propext (by omega)
 have qio:cB .add (.i .i64 (wi.length:Int)) (.i .i64 (wo.length:Int))=some (.i .i64 ((wi.length:Int)+(wo.length:Int))):=be _ _ (by omega) (by omega)
 rw[hio]at hQ
 simp only[WX,GN]
 obtain⟨I,hI⟩:∃I:Nat→St→Prop,∀n s',I n s'↔(∃(i c1:Nat) (M1:Mem) (u:List (Option V)),n=cs.length-i∧i≤cs.length∧s'= .mk ((bP8 u (.p c 0) (.i .i64 (i:Int)))) [] M1 c1∧Gr c2 M c1 M1∧cs.all (lm cs.length io)=(cs.drop i).all (lm cs.length io)):=⟨fun n s'=>_,fun _ _=>Iff.rfl⟩
 refine bw I ?_ cs.length _ ((hI _ _).2 ⟨0,_,_,(X1 (G1 (X1 (G1 (bf (bf (bf (bA (br (X8 (X2 (X1 [])))))))))))),rfl,aD _,rfl,Gr.refl ok,rfl⟩)
 intro n s' hIs
 obtain⟨i,c1,M1,u,rfl,hle,rfl,gr1,hb⟩:=(hI _ _).1 hIs
 clear hIs
 have B5:load1 F M1 c 5=some vc:=(gr1.load1 hcc _).trans A5
 by_cases hlt:i<cs.length
 ·have q8:cB .add (.i .i64 (i:Int)) (.i .i64 1)=some (.i .i64 ((i+1:Nat):Int)):=by rw[be _ _ (by omega) (by omega)];simp
  have d1:decide ((i:Int)<(cs.length:Int))=true:=ah (by omega);obtain⟨b,o,x,hbx,ia,_,ld,hw⟩:=cQ.at1 (hc.grow gr1) i hlt;have ia:=ia .i64;have hw:fo F M1 c1 x cs[i]:=hw;have hd:cs.drop i=cs[i]::cs.drop (i+1):=bS hlt;rw[hd,List.all_cons]at hb;have hsi:=hs cs[i] (List.getElem_mem _);generalize cs[i]=w at hb hw hsi;obtain⟨y1,y2,y3⟩:=hw.one;have hG:∀v,flatten (V.g [v])=[v]:=fun _=>rfl;have ok1:=gr1.ok ok;have hle1:=gr1.le;have sn:bR (M1.set c1 (ae 42 [.l0])) c1 0 [x]=some (M1.set c1 (ae 42 [x])):=dI rfl y3;have m1:(M1.set c1 (ae 42 [x])).get c1=some (ae 42 [x]):=am _ _ _;have g1':=(Gr.refl ok1).set c1 (ae 42 [x]) (aj _) (ay _) (aJ _);have g1:=gr1.trans g1';have kx:loadN F (M1.set c1 (ae 42 [x])) c1 0 1=some [x]:=aP m1 1 rfl;have kx1:load1 F (M1.set c1 (ae 42 [x])) c1 0=some x:=au m1 0;generalize M1.set c1 (ae 42 [x])=Y at sn m1 g1' g1 kx kx1;have hwY:=hw.grow g1';have okY:=g1.ok ok;simp only[WX,GN,B5,n1,d1,ia,ld,hG,sn,kx];refine az ((w66 Φ h66 okY hwY).mono ?_);rintro r M2 c3 ⟨rfl,g2⟩;have ok2:=g2.ok okY;have hle2:=g2.le;have hh:=aU2 (I5 w);obtain⟨E1,E2,E3,hE⟩:∃E1 E2 E3,Dw (I5 w)=(E1,E2,E3):=⟨_,_,_,rfl⟩
  have hcb:cbR w=(!E3||(decide ((w.length:Int)-1<E1)||(decide (0≤E2)&&decide (E2<(w.length:Int)-1)))):=by unfold cbR;rw[hE]
  rw[hE]at hh;unfold SI at hh;have kx2:load1 F M2 c1 0=some x:=(g2.load1 (by omega) _).trans kx1;have kn2:loadN F M2 c1 0 1=some [x]:=(g2.loadN (by omega) _ _).trans kx;have nw:=hw.len;have mw:=hw.max;have sb:cB .sub (.i .i64 (w.length:Int)) (.i .i64 1)=some (.i .i64 ((w.length:Int)-1)):=p7 _ _ (by omega) (by omega);have G:Gr c2 M c3 M2:=g1.trans g2;have BADC:lm cs.length io w=false→ ∀(u:List (Option V)) M' c',Gr c2 M c' M'→Q .ret (.mk ((U2 u (.b false))) [] M' c'):=by
   intro hx u M' c' g;have:=hQ u M' c' g
   rwa [hb,hx,Bool.false_and]at this
  have REST:cbR w=false→ ∀u:List (Option V),Wp CA (K Φ none 41 F) (.mk ((aH9 u (.p c 0) (.i .i64 (i:Int)) (.p c1 0))) [] M2 c3) (eg (.seq CB (.block 2 (.loop tq))) (K Φ none 41 F) (d8 1 (eg xM (K Φ none 41 F) (gW I (cs.length-i) (d8 0 (eg xN (K Φ none 41 F) Q)))))):=by
   intro hcb0 u;simp only[WX,GN,kn2];refine az ((w67 Φ h67 h66 h84 ok2 (hwY.grow g2)).mono ?_);rintro r M3 c4 ⟨rfl,g3⟩;have G3:=G.trans g3;have qo:=G3.ok ok;have hle3:=g3.le;have C2:load1 F M3 c 2=some vi:=(G3.load1 hcc _).trans A2;have C3:load1 F M3 c 3=some vo:=(G3.load1 hcc _).trans A3;have C5:load1 F M3 c 5=some vc:=(G3.load1 hcc _).trans A5;have dn:=S3 cs.length;have LOOP:(Hr (I5 w)&&(decide (1<cs.length)||io))=false→ ∀u:List (Option V),Wp (.loop tq) (K Φ none 41 F) (.mk ((U3 u (.p c 0) (.i .i64 (i:Int)) (.p c1 0) (.i .i64 0))) [] M3 c4) (d8 2 (d8 1 (eg xM (K Φ none 41 F) (gW I (cs.length-i) (d8 0 (eg xN (K Φ none 41 F) Q)))))):=by
    intro hch u;refine l41 Φ h64 h69 qo (by omega) (hwY.grow (g2.trans g3)) hsi ((g3.load1 (by omega) _).trans kx2) u _ ?_ ?_
    ·intro ha u M4 c5 g4;simp only[WX,Nat.reduceEqDiff,reduceCtorEq,GN,q8];exact⟨cs.length-(i+1),by omega,(hI _ _).2 ⟨i+1,_,_,(X1 (G1 (X1 (G1 (bf (bf (bf (bA (br (X8 (X2 (X1 [])))))))))))),rfl,hlt,rfl,G3.trans g4,by rw[hb];unfold lm;rw[hcb0,hch,ha];rfl⟩⟩
    ·intro ha u M4 c5 g4;simp only[WX];exact BADC (by unfold lm;rw[hcb0,hch,ha];rfl) u _ _ (G3.trans g4)
   cases hch:Hr (I5 w)with
   |false=>
    simp only[WX,GN];exact LOOP (by rw[hch];rfl) (X1 (G1 (X1 (G2 (X4 (G1 (bf (bf (bf (bA (br (X4 (X1 [])))))))))))))
   |true=>
    cases hD:decide (1<cs.length)with
    |true=>
     have dn:=dn.trans hD;simp only[WX,GN,C5,n1,dn];exact BADC (by unfold lm;rw[hch,hD];simp) (X2 (G1 (bf (bf (bf (bA (br (X8 (X4 []))))))))) _ _ G3
    |false=>
     have dn:=dn.trans hD;cases io with
     |true=>
      simp only[WX,GN,C5,C2,C3,n1,dn,hi,ho,qio,dio,aB];exact BADC (by unfold lm;rw[hch];simp) (X2 (G1 (bf (bf (bf (bA (br (X8 (X4 []))))))))) _ _ G3
     |false=>
      simp only[WX,GN,C5,C2,C3,n1,dn,hi,ho,qio,dio,aB];exact LOOP (by rw[hD];simp) (X1 (G1 (X1 (G2 (X4 (G1 (bf (bf (bf (bA (br (X4 (X1 [])))))))))))))
  simp only[WX,UW,UX,UY,UZ,h65,hh,kx2,nw,sb,aB];obtain⟨a1,ha1⟩:∃a,decide ((w.length:Int)-1<E1)=a:=⟨_,rfl⟩
  obtain⟨a2,ha2⟩:∃a,decide (0≤E2)=a:=⟨_,rfl⟩
  obtain⟨a3,ha3⟩:∃a,decide (E2<(w.length:Int)-1)=a:=⟨_,rfl⟩
  rw[ha1,ha2,ha3]at hcb;cases E3 with
  |false=>
   simp only[WX,yR];exact BADC (by unfold lm;rw[hcb];rfl) (X2 (G1 (bf (bf (bf (bA (br (X8 (X4 []))))))))) _ _ G
  |true=>
   cases a1 with
   |true=>
    simp only[WX,yR,ha1];exact BADC (by unfold lm;rw[hcb];rfl) (X2 (G1 (bf (bf (bf (bA (br (X8 (X4 []))))))))) _ _ G
   |false=>
    cases a2 with
    |false=>
     simp only[WX,ha1,ha2];exact REST hcb (X1 (G1 (X1 (G2 (bf (bf (bf (bA (br (X8 (X2 [])))))))))))
    |true=>
     cases a3 with
     |true=>
      simp only[WX,yR,ha1,ha2,ha3];exact BADC (by unfold lm;rw[hcb];rfl) (X2 (G1 (bf (bf (bf (bA (br (X8 (X4 []))))))))) _ _ G
     |false=>
      simp only[WX,ha1,ha2,ha3];exact REST hcb (X1 (G1 (X1 (G2 (bf (bf (bf (bA (br (X8 (X2 [])))))))))))
 ·obtain rfl:i=cs.length:=by omega
  have d1:decide ((cs.length:Int)<(cs.length:Int))=false:=af (by omega);rw[cj]at hb;simp only[WX,GN,B5,n1,d1];rw[hb]at hQ;exact hQ (X2 (G1 (bf (bf (bf (bA (br (X8 (X4 []))))))))) _ _ gr1
theorem bE8(w:List Pc):decide ((w.length:Int)=0)= !hasW w:=by unfold hasW;rw[←decide_not];congr 1;exact propext (by omega)
def yz(p:fD):Bool:= !decide (p.cmds.length<1)&&(!decide (6<p.cmds.length)&&(!(p.beh&& !hasW p.out)&&(!(hasW p.inp&& !du p.inp)&&(!(hasW p.out&& !du p.out)&&p.cmds.all (lm p.cmds.length (hasW p.inp||hasW p.out))))))
theorem XI(p:fD):yz p=mg p:=by
 unfold yz mg
 rw[show zO p.cmds.length (hasW p.inp||hasW p.out)=lm p.cmds.length (hasW p.inp||hasW p.out)from funext fun l=>aR5 _ _ l]
theorem w41(Φ:Nat→Option CF)(h:Φ 41=some c41)(h64:Φ 64=some VQ)(h69:Φ 69=some (.orc (aG h78)))(h66:Φ 66=some VS)(h65:Φ 65=some (.orc (aG h65)))(h67:Φ 67=some Wv)(h84:Φ 84=some (.orc (aG h84))){F:RO}{M:Mem}{c:Nat}(ok:cR F M c){e:List V}{p:fD}(hp:P1 F M c e p)(hs:GQ p):
 Calls Φ F 41 [.g e] M c fun r M' c'=>r= .b (yz p)∧Gr c M c' M':=by
 refine aN h ?_
 obtain⟨vi,vo,vc,rfl,hi,ho,hc⟩:=hp
 obtain⟨hsi,hso,hsc,hli,hlo⟩:=hs
 obtain⟨y1,y2,_⟩:=hi.one
 obtain⟨z1,z2,_⟩:=ho.one
 obtain⟨x1,_,_⟩:=hc.one
 have hG:flatten (V.g [.i .i64 p.join,.b p.nt,vi,vo,.b p.beh,vc])=[.i .i64 p.join,.b p.nt,vi,vo,.b p.beh,vc]:=rfl
 have hA:aK [.i .i64 p.join,.b p.nt,vi,vo,.b p.beh,vc]=true:=by
  rw[av,av,av,av,av,av,bO,y1,z1,x1];rfl
 have gX:=(Gr.refl ok).set c (ae 39 [.i .i64 p.join,.b p.nt,vi,vo,.b p.beh,vc]) (aj _) (ay _) (aJ _)
 have m0:(M.set c (ae 39 [.i .i64 p.join,.b p.nt,vi,vo,.b p.beh,vc])).get c=some (ae 39 [.i .i64 p.join,.b p.nt,vi,vo,.b p.beh,vc]):=am _ _ _
 have hiX:=hi.grow gX
 have hoX:=ho.grow gX
 have hcX:=hc.grow gX
 have k2:load1 F (M.set c (ae 39 [.i .i64 p.join,.b p.nt,vi,vo,.b p.beh,vc])) c 2=some vi:=au m0 2
 have k3:load1 F (M.set c (ae 39 [.i .i64 p.join,.b p.nt,vi,vo,.b p.beh,vc])) c 3=some vo:=au m0 3
 have k4:load1 F (M.set c (ae 39 [.i .i64 p.join,.b p.nt,vi,vo,.b p.beh,vc])) c 4=some (.b p.beh):=au m0 4
 have k5:load1 F (M.set c (ae 39 [.i .i64 p.join,.b p.nt,vi,vo,.b p.beh,vc])) c 5=some vc:=au m0 5
 have okX:=gX.ok ok
 have hfr:=okX.free
 have ni:=hi.len
 have no:=ho.len
 have nc:=hc.len
 have di:=rc p.inp
 have do':=rc p.out
 have de:=bE8 p.out
 have dl:=Fg p.cmds.length
 have dg:=aD9 p.cmds.length
 have l2:loadN F (M.set c (ae 39 [.i .i64 p.join,.b p.nt,vi,vo,.b p.beh,vc])) c 2 1=some [vi]:=cN M c 2 1 39 [.i .i64 p.join,.b p.nt,vi,vo,.b p.beh,vc] (by simp)
 have l3:loadN F (M.set c (ae 39 [.i .i64 p.join,.b p.nt,vi,vo,.b p.beh,vc])) c 3 1=some [vo]:=cN M c 3 1 39 [.i .i64 p.join,.b p.nt,vi,vo,.b p.beh,vc] (by simp)
 have PO:yz p=(!decide (p.cmds.length<1)&&(!decide (6<p.cmds.length)&&(!(p.beh&& !hasW p.out)&&(!(hasW p.inp&& !du p.inp)&&(!(hasW p.out&& !du p.out)&&p.cmds.all (lm p.cmds.length (hasW p.inp||hasW p.out))))))):=rfl
 have LAST:∀(M1:Mem) (c1:Nat) (u:List (Option V)),Gr (c+1) (M.set c (ae 39 [.i .i64 p.join,.b p.nt,vi,vo,.b p.beh,vc])) c1 M1→yz p=p.cmds.all (lm p.cmds.length (hasW p.inp||hasW p.out))→Wp xO (K Φ none 41 F) (.mk ((aI0 u (.p c 0))) [] M1 c1) (j6 F [.t (.r .h)] fun r M' c'=>r= .b (yz p)∧Gr c M c' M'):=by
  intro M1 c1 u g hpo;refine m41 Φ h64 h69 h66 h65 h67 h84 (g.ok okX) (by have:=g.le;omega) ni no hli hlo (hcX.grow g) hsc ((g.load1 (ay _) 2).trans k2) ((g.load1 (ay _) 3).trans k3) ((g.load1 (ay _) 5).trans k5) u _ ?_;intro u M2 c2 g2;simp only[WX];exact⟨by rw[hpo],gX.trans (g.trans g2)⟩
 have h0:aK [vi]=true∧aK [vo]=true:=⟨by rw[av,bO,y1];rfl,by rw[av,bO,z1];rfl⟩
 obtain⟨hA1,hA2⟩:=h0
 simp only[WX,Nat.reduceAdd,e41,aL7,aL8,aL9,hG,y1,z1,x1,Bool.and_self,k5,nc]
 generalize M.set c (ae 39 [.i .i64 p.join,.b p.nt,vi,vo,.b p.beh,vc])=X at gX m0 hiX hoX hcX k2 k3 k4 k5 okX hfr l2 l3 LAST⊢
 by_cases n1:p.cmds.length<1
 ·rw[ah n1]at dl PO;simp only[WX,Gz,dl];exact⟨by rw[PO];rfl,gX⟩
 rw[af n1]at dl PO
 by_cases n6:6<p.cmds.length
 ·rw[ah n6]at dg PO;simp only[WX,Gz,k5,nc,dl,dg];exact⟨by rw[PO];rfl,gX⟩
 rw[af n6]at dg PO
 generalize hasW p.inp=I at di PO LAST
 generalize hasW p.out=O at do' de PO LAST
 generalize p.beh=B at k4 PO
 have hG1:∀v,flatten (V.g [v])=[v]:=fun _=>rfl
 have INP:∀(M1:Mem) (c1:Nat),Gr (c+1) X c1 M1→lD (dt (j5 Φ) F 64 [.g [vi]] M1 c1 (Φ 64)) fun r M' c'=>r= .b (du p.inp)∧Gr (c+1) X c' M':=fun M1 c1 g=>(w64 Φ h64 h69 (g.ok okX) (hiX.grow g) hsi).mono (by rintro r M2 c2 ⟨h1,h2⟩;exact⟨h1,g.trans h2⟩)
 have OUT:∀(M1:Mem) (c1:Nat),Gr (c+1) X c1 M1→lD (dt (j5 Φ) F 64 [.g [vo]] M1 c1 (Φ 64)) fun r M' c'=>r= .b (du p.out)∧Gr (c+1) X c' M':=fun M1 c1 g=>(w64 Φ h64 h69 (g.ok okX) (hoX.grow g) hso).mono (by rintro r M2 c2 ⟨h1,h2⟩;exact⟨h1,g.trans h2⟩)
 have gR:Gr (c+1) X (c+1) X:=Gr.refl okX
 have L3:∀(M1:Mem) (c1:Nat),Gr (c+1) X c1 M1→loadN F M1 c 3 1=some [vo]:=fun M1 c1 g=>(g.loadN (ay _) _ _).trans l3
 cases O with
 |false=>
  cases B with
  |true=>
   simp only[WX,Nat.reduceAdd,Gz,k3,k4,k5,no,nc,de,dl,dg];exact⟨by rw[PO];rfl,gX⟩
  |false=>
   cases I with
   |false=>
    simp only[WX,Nat.reduceAdd,B8,Ba,k2,k3,k4,k5,ni,no,nc,di,do',dl,dg];exact LAST X _ (X1 (G1 (bf (bf (bf (bA (br (X8 (X4 (X1 [])))))))))) gR (by rw[PO];rfl)
   |true=>
    simp only[WX,Nat.reduceAdd,B8,Ba,k2,k4,k5,ni,nc,di,dl,dg,l2];refine az ((INP _ _ gR).mono ?_);rintro r M2 c2 ⟨rfl,g2⟩;have k3':=(g2.load1 (ay _) 3).trans k3;cases hf:du p.inp with
    |true=>
     rw[hf]at PO;simp only[WX,k3',no,do',aB];exact LAST M2 c2 (X1 (G1 (bf (bf (bf (bA (br (X8 (X4 (X1 [])))))))))) g2 (by rw[PO];rfl)
    |false=>
     rw[hf]at PO;simp only[WX,B9];exact⟨by rw[PO];rfl,gX.trans g2⟩
 |true=>
  have PO:yz p=(!(I&& !du p.inp)&&(!!du p.out&&p.cmds.all (lm p.cmds.length (I||true)))):=by rw[PO];cases B<;>rfl
  cases B
  all_goals
   cases I with
   |false=>
    simp only[WX,Nat.reduceAdd,B8,Ba,k2,k3,k4,k5,ni,no,nc,di,do',de,dl,dg,l3];refine az ((OUT _ _ gR).mono ?_);rintro r M2 c2 ⟨rfl,g2⟩;cases hf:du p.out with
    |true=>
     rw[hf]at PO;simp only[WX];exact LAST M2 c2 (X1 (G1 (bf (bf (bf (bA (br (X8 (X4 (X1 [])))))))))) g2 (by rw[PO];rfl)
    |false=>
     rw[hf]at PO;simp only[WX,B9];exact⟨by rw[PO];rfl,gX.trans g2⟩
   |true=>
    simp only[WX,Nat.reduceAdd,B8,Ba,k2,k3,k4,k5,ni,no,nc,di,de,dl,dg,l2];refine az ((INP _ _ gR).mono ?_);rintro r M2 c2 ⟨rfl,g2⟩;cases hf:du p.inp with
    |true=>
     rw[hf]at PO;have l3':=L3 M2 c2 g2;have k3':=(g2.load1 (ay _) 3).trans k3;simp only[WX,l3',k3',no,do',aB];refine az ((OUT _ _ g2).mono ?_);rintro r M3 c3 ⟨rfl,g3⟩;cases hf:du p.out with
     |true=>
      rw[hf]at PO;simp only[WX];exact LAST M3 c3 (X1 (G1 (bf (bf (bf (bA (br (X8 (X4 (X1 [])))))))))) g3 (by rw[PO];rfl)
     |false=>
      rw[hf]at PO;simp only[WX,B9];exact⟨by rw[PO];rfl,gX.trans g3⟩
    |false=>
     rw[hf]at PO;simp only[WX,B9];exact⟨by rw[PO];rfl,gX.trans g2⟩
abbrev bP9(u:List (Option V))(x1 x2 x6 x7 x8:V):T:=(.n (.n (.n (.n (gy u 15) (some x7) (gy u 23)) (uO u 3) (fm u 19 11 27)) (some x1) (aq u 17 9 25 5 21 13 29)) (uO u 0) (.n (.n (.n (gy u 16) (some x8) (gy u 24)) (uO u 4) (fm u 20 12 28)) (some x2) (.n (fm u 18 10 26) (some x6) (fm u 22 14 30))))
def ad1:CC:=(.reg [(aa a0 (.al 76 [(.s 0 0),(.s 0 0),(.s 0 0),(.s 0 0)]))])
def ad3:CC:=(.reg [(qq a1 (.bld [(.s 0 0),(.s 0 0),(.s 0 0),(.s 0 0)] [(0,1,(.c (.s 0 0))),(1,1,(.c (.s 1 59))),(2,1,(.c (.s 2 9766))),(3,1,(.c (.s 2 31868)))])),(ez (.st 4 z0 z1))])
def VP:CF:= .mk 2 [.cn a0 4] (.seq ad1 (.seq ad3 .ret))
theorem e33:bz 2 []=sG:=rfl
def B33:=ai @e33 (ai (wu ad1.eq_1) (wu ad3.eq_1))
def ao8:CC:=(.reg [(qq a3 (.ld1 z1)),(qq a4 (.mv z0)),(ee a5 (.app 9 1 16 z3 z4)),(ez (.st 1 z1 z5))])
def zL:CF:= .mk 3 [] ao8
theorem e57(v0 v1:V):bz 3 [v0,v1]=(.n (.n sk1 (some v1) sk1) (some v0) sG):=rfl
def B57:=ai @e57 (wu ao8.eq_1)
def ao9:CC:=(.reg [(qq a5 (.fa 0 z2)),(qq a6 (.ld1 z5)),(qq a7 (.ln .slice z6)),(qq a8 (.mv (x6 0)))])
def ap0:CC:=(.reg [(qq a9 (.bi .lss z8 z7))])
def ap1:CC:=(.reg [(qq dJ (.iaS 1 z6 z8)),(qq ey (.ldn 1 eK)),(aa a4 (.al 36 [.l0])),(ez (.st 1 z4 dE))])
def ap2:CC:=(.dreg 5 [(0,0,(qq eU (.ld1 z1))),(1,0,(qq eC (.ldn 1 z4))),(2,2,(ee dR (.call 59 [eb]))),(3,6,(aa dA (.bsl 9 1 1 [(.s 0 0)] [(0,fG)]))),(4,15,(ee eX (.cv ei [gf])))])
def ap3:CC:=(.reg [(qq gC (.bi .add z8 (x6 1))),(qq a8 (.mv gS))])
def ap4:CC:=(.seq (.cond z9 .skip (.exit 0)) (.seq (.block 1 (.seq ap1 ap2)) ap3))
def ap5:CC:=(.seq (.reg [(aa a2 (.bx 42 1 z0))]) (.seq ao9 (.block 0 (.loop (.seq ap0 ap4)))))
def Wt:CF:= .mk 5 [] ap5
theorem e58(v0 v1:V):bz 5 [v0,v1]=(.n (.n jt (some v1) jt) (some v0) nr):=rfl
def B58:=ai @e58 (ai (wu ao9.eq_1) (ai (wu ap0.eq_1) (ai (wu ap1.eq_1) (ai (wu ap2.eq_1) (ai (wu ap3.eq_1) (ai (wu ap4.eq_1) (wu ap5.eq_1)))))))
def BC:Nat→List UInt8
 |1=>[59]
 |2=>[38,38]
 |3=>[124,124]
 |_=>[]
def SE:V:= .g [sV (BC 0),sV (BC 1),sV (BC 2),sV (BC 3)]
theorem w33(Φ:Nat→Option CF)(h:Φ 33=some VP){F:RO}{M:Mem}{c:Nat}(ok:cR F M c):Calls Φ F 33 [] M c fun r M' c'=>r=SE∧Gr c M c' M':=by
 refine aN h ?_
 have hG:flatten (V.g [V.s 0 0,.s 1 59,.s 2 9766,.s 2 31868])=[V.s 0 0,.s 1 59,.s 2 9766,.s 2 31868]:=rfl
 have sn:bR (M.set c (ae 76 [V.s 0 0,.s 0 0,.s 0 0,.s 0 0])) c 0 [V.s 0 0,.s 1 59,.s 2 9766,.s 2 31868]=some (M.set c (ae 76 [V.s 0 0,.s 1 59,.s 2 9766,.s 2 31868])):=dI rfl rfl
 have ld:=aP (F:=F) (am M c (ae 76 [V.s 0 0,.s 1 59,.s 2 9766,.s 2 31868])) 4 rfl
 have gX:=(Gr.refl ok).set c (ae 76 [V.s 0 0,.s 1 59,.s 2 9766,.s 2 31868]) (aj _) (ay _) (aJ _)
 simp only[WX,Nat.reduceAdd,Nat.reduceLeDiff,B33,hG,sn,ld]
 exact⟨rfl,gX⟩
structure pN(M0:Mem)(c:Nat)(M1:Mem)(c1:Nat)(ws:List (List UInt8)):Prop where
 gr:Gr c M0 c1 M1
 hc:c+3≤c1
 m1:∃v b,M1.get (c+1)=some (ae 69 [v])∧aX M1 (c+3) c1 b 9 1 v (gJ ws)
 m2:M1.get (c+2)=some (ae 105 [.f 57 [] [.p (c+1) 0]])
def Kp(c:Nat)(M1:Mem)(c1:Nat)(M2:Mem)(c2:Nat):Prop:=c1≤c2∧ ∀x ty l,x<c1→x≠c+1→ty≠9→M1.get x=some (ae ty l)→M2.get x=some (ae ty l)
theorem Kp.refl{c c1:Nat}{M1:Mem}:Kp c M1 c1 M1 c1:=⟨aj _,fun _ _ _ _ _ _ h=>h⟩
theorem Kp.trans{c c1 c2 c3:Nat}{M1 M2 M3:Mem}(h:Kp c M1 c1 M2 c2)(h2:Kp c M2 c2 M3 c3):Kp c M1 c1 M3 c3:=⟨bm h.1 h2.1,fun x ty l h1 h3 h4 h5=>h2.2 x ty l (Nat.lt_of_lt_of_le h1 h.1) h3 h4 (h.2 x ty l h1 h3 h4 h5)⟩
theorem Kp.of{c c1 c2:Nat}{M1 M2:Mem}(g:Gr c1 M1 c2 M2):Kp c M1 c1 M2 c2:=⟨g.le,fun x _ _ h1 _ _ h=>(g.old x h1).trans h⟩
theorem pN.grow{M0 M1 M2:Mem}{c c1 c2:Nat}{ws:List (List UInt8)}(h:pN M0 c M1 c1 ws)(g:Gr c1 M1 c2 M2):pN M0 c M2 c2 ws:=by
 obtain⟨gr,hc,⟨v,b,h1,h2⟩,m2⟩:=h
 exact⟨⟨bm gr.le g.le,fun x hx=>(g.old x (by omega)).trans (gr.old x hx),g.new⟩,bm hc g.le,⟨v,b,(g.old _ (by omega)).trans h1,h2.gr g⟩,(g.old _ (by omega)).trans m2⟩
theorem TX(a b:List (List UInt8)):gJ (a++b)=gJ a++gJ b:=List.map_append ..
theorem Yi(l:List (List UInt8)):aK (gJ l).flatten=true:=by
 induction l with
 |nil=>rfl
 |cons w r ih=>show aK (sV w::(gJ r).flatten)=true;rw[av,ih];rfl
theorem Y4{ty ty':Nat}{l l':List V}(h:ty≠ty'):pC ty l≠ae ty' l':=by
 intro e;unfold pC ae at e;injection e with e;exact h e
theorem w57(Φ:Nat→Option CF)(h:Φ 57=some zL){F:RO}{M0 M1:Mem}{c c1:Nat}{ws xs:List (List UInt8)}{vs:V}(hW:pN M0 c M1 c1 ws)(hv:cE F M1 c1 1 vs (gJ xs))(hz:dL (ws++xs)≤1000000):
 Calls Φ F 57 [vs,.p (c+1) 0] M1 c1 fun _ M' c'=>pN M0 c M' c' (ws++xs)∧Kp c M1 c1 M' c':=by
 refine aN h ?_
 obtain⟨gr,hc,⟨v,b0,h1,h2⟩,m2⟩:=hW
 obtain⟨b,h2,hbk⟩:∃b,aX M1 (c+3) c1 b 9 1 v (gJ ws)∧ ∀x ty l,x<c1→ty≠9→M1.get x=some (ae ty l)→x≠b:=by
  rcases h2 with⟨a0,⟨a1,a2⟩|⟨a1,a2,a3,a4⟩⟩
  ·exact⟨c1,⟨a0,.inl ⟨a1,a2⟩⟩,fun x _ _ hx _ _=>by omega⟩
  ·refine⟨b0,⟨a0,.inr ⟨a1,a2,a3,a4⟩⟩,fun x ty l hx hty hm e=>?_⟩;subst e;rw[a4]at hm;exact Y4 (Ne.symm hty) (ag hm)
 have l1:load1 F M1 (c+1) 0=some v:=au h1 0
 have gA:Gr (c+3) M1 c1 M1:=⟨hc,fun _ _=>rfl,gr.new⟩
 have hll:=yM (ws++xs)
 have hn:(gJ ws).length+(gJ xs).length≤1000000:=by
  rw[aH]at hll;unfold gJ;rw[List.length_map,List.length_map];omega
 simp only[WX,B57,l1]
 refine az ((fO (bytes:=16) h2 gA (by decide) hv (Yi xs) (eP (by omega) (by omega))).mono ?_)
 rintro v' M2 c2 ⟨b',hA,g2,hle,hfr,hb'⟩
 have w3:bC v'=true∧flatten v'=[v']∧aK [v']=true:=by
  rcases hA with⟨_,⟨_,rfl⟩|⟨_,_,rfl,_⟩⟩<;>exact⟨rfl,rfl,rfl⟩
 obtain⟨w1,w2,w3⟩:=w3
 have st:=aC ((g2.old (c+1) (by omega)).trans h1) 0 [v'] (by simp) w3
 simp only[WX,w2,st]
 refine⟨⟨⟨by have:=gr.le;omega,fun x hx=>by rw[ak _ _ (by omega)];exact(g2.old x (by omega)).trans (gr.old x hx),fun x hx=>by rw[ak _ _ (by omega)];exact g2.new x hx⟩,by omega,⟨v',b',am _ _ _,?_⟩,by rw[ak _ _ (by omega)];exact(g2.old _ (by omega)).trans m2⟩,hle,fun x ty l hx hn hty hm=>?_⟩
 ·rw[TX];exact fL hA (by omega)
 ·rw[ak _ _ hn,hfr x hx (hbk x ty l hx hty hm)];exact hm
theorem mq{F:RO}{M:Mem}{c b:Nat}(xs:List (List UInt8))(h:M.get b=some (cL [V.s 0 0] 9 (xs.map sV)))(hb:b<c):cE F M c 1 (.l b 0 xs.length xs.length) (gJ xs):=by
 have e:(gJ xs).flatten=xs.map sV:=by
  clear h
  induction xs with
  |nil=>rfl
  |cons w r ih=>show sV w::(gJ r).flatten=_;rw[ih];rfl
 exact II (d:=[V.s 0 0]) (ty:=9) (by rw[h,e]) hb (fun e he=>by obtain⟨x,_,rfl⟩:=List.mem_map.1 he;rfl) (by unfold gJ;rw[List.length_map])
theorem U0{a b c:List (List UInt8)}(h:dL (a++(b++c))≤1000000):dL (a++b)≤1000000:=by rw[bZ]at *;rw[bZ]at h;omega
theorem w58(Φ:Nat→Option CF)(h:Φ 58=some Wt)(h57:Φ 57=some zL)(h59:Φ 59=some Fb)(h77:Φ 77=some (.orc (aG h77)))(h52:Φ 52=some BA)(h54:Φ 54=some BB)(h71:Φ 71=some zg){F:RO}{M0 M1:Mem}{c c1:Nat}{ws:List (List UInt8)}(ok0:cR F M0 c)(hW:pN M0 c M1 c1 ws){x:V}{l:eB}(hl:fo F M0 c x l)(hs:Ji l)(hz:dL (ws++l.map d6)≤1000000):
 Calls Φ F 58 [.g [x],.p (c+2) 0] M1 c1 fun _ M' c'=>pN M0 c M' c' (ws++l.map d6)∧Kp c M1 c1 M' c':=by
 refine aN h ?_
 obtain⟨y1,y2,y3⟩:=hl.one
 have hG:∀v,flatten (V.g [v])=[v]:=fun _=>rfl
 have ok1:=hW.gr.ok ok0
 have gX:=(Gr.refl ok1).set c1 (ae 42 [x]) (aj _) (ay _) (aJ _)
 have k0:load1 F (M1.set c1 (ae 42 [x])) c1 0=some x:=au (am _ _ _) 0
 have n1:=hl.len
 have mx:=hl.max
 simp only[WX,B58,hG,y3,k0,n1]
 have hWX:=hW.grow gX
 have KX:Kp c M1 c1 (M1.set c1 (ae 42 [x])) (c1+1):=Kp.of gX
 generalize M1.set c1 (ae 42 [x])=X at gX hWX KX⊢
 clear k0
 obtain⟨I,hI⟩:∃I:Nat→St→Prop,∀n s',I n s'↔(∃(i c2:Nat) (M2:Mem) (u:List (Option V)),n=l.length-i∧i≤l.length∧s'= .mk ((bP9 u (.p (c+2) 0) (.p c1 0) x (.i .i64 (l.length:Int)) (.i .i64 (i:Int)))) [] M2 c2∧pN M0 c M2 c2 (ws++(l.take i).map d6)∧Kp c M1 c1 M2 c2):=⟨fun n s'=>_,fun _ _=>Iff.rfl⟩
 refine bw I ?_ l.length _ ((hI _ _).2 ⟨0,_,_,(X1 (G2 (X2 (X1 (G2 (G1 (br (X4 (X2 []))))))))),rfl,aD _,rfl,by simpa using hWX,KX⟩)
 intro n s' hIs
 obtain⟨i,c2,M2,u,rfl,hle,rfl,hW2,K2⟩:=(hI _ _).1 hIs
 clear hIs
 by_cases hlt:i<l.length
 ·have q8:cB .add (.i .i64 (i:Int)) (.i .i64 1)=some (.i .i64 ((i+1:Nat):Int)):=by rw[be _ _ (by omega) (by omega)];simp
  have d1:decide ((i:Int)<(l.length:Int))=true:=ah (by omega);have ok2:=hW2.gr.ok ok0;obtain⟨b,o,y,hbx,ia,_,ld,hw⟩:=cQ.at1 (hl.grow hW2.gr) i hlt;have ia:=ia .i64;have hw0:dQ F M2 c2 y l[i]:=hw;have htk:(l.take (i+1)).map d6=(l.take i).map d6++[d6 l[i]]:=by rw[List.take_succ_eq_append_getElem hlt,List.map_append];rfl
  have hz1:dL (ws++((l.take i).map d6++[d6 l[i]]))≤1000000:=by
   rw[←htk];have e:=(List.take_append_drop (i+1) l)
   have:l.map d6=(l.take (i+1)).map d6++(l.drop (i+1)).map d6:=by rw[←List.map_append,e]
   rw[this]at hz;exact U0 hz
  have hsi:=hs l[i] (List.getElem_mem _);generalize l[i]=w at hw0 htk hz1 hsi;rw[←aT]at hz1;have hwl:(d6 w).length≤1000000:=by
   rw[bZ]at hz1;simp only[dL]at hz1;omega
  obtain⟨z1,z2,z3⟩:=hw0.one;have gY:=(Gr.refl ok2).set c2 (ae 36 [y]) (aj _) (ay _) (aJ _);have sn:bR (M2.set c2 (ae 36 [.l0])) c2 0 [y]=some (M2.set c2 (ae 36 [y])):=dI rfl z3;have kY:loadN F (M2.set c2 (ae 36 [y])) c2 0 1=some [y]:=aP (am _ _ _) 1 rfl;have hWY:=hW2.grow gY;have KY:=K2.trans (Kp.of gY);generalize(l.take i).map d6=T at htk hz1 hW2 hWY;generalize hYe:M2.set c2 (ae 36 [y])=Y at gY sn kY hWY KY;have okY:=gY.ok ok2;have hfr:=okY.free;have b2:load1 F Y (c+2) 0=some (.f 57 [] [.p (c+1) 0]):=au hWY.m2 0;simp only[WX,Nat.reduceAdd,B58,d1,ia,ld,hG,sn,kY,b2];have g5:Gr (c2+1) Y (c2+6) Y:=(Gr.refl okY).up (by omega);have ok5:=g5.ok okY;have hwY:=(hw0.grow gY).grow g5;refine wU _ _ _ _ _ _ _ _ _ _ _ ok5 ?_;intro F1 N1 okn hlk;refine(show lD (dt (j5 Φ) F1 59 [.g [y]] N1 (c2+6) (Φ 59)) _ from(w59 Φ h59 h77 h52 h54 h71 okn (hwY.lk hlk) hsi hwl).mono ?_);rintro r M3 c3 ⟨rfl,g3⟩;refine⟨g3,fun M4 g4 _=>?_⟩;have hle3:=g4.le;have lk:(look F M4 (c2+4)).isNone=true:=by rw[cF (g4.old _ (by omega)),okY.look (by omega)];rfl
  have hc2:=hW2.hc;have rf:bY (c2+4) [(1,c2),(0,c+2)]=true:=by rw[bo _ _ _ _ (by omega),bo _ _ _ _ (by omega),cK]
  have gZ:=(g5.trans g4).set (c2+4) (cL [V.s 0 0] 9 [sV (d6 w)]) (by omega) (by omega) (aj _);have hF:flatten (sV (d6 w))=[sV (d6 w)]:=rfl;have hO:bC (sV (d6 w))=true:=rfl;simp only[WX,Nat.reducePow,Nat.reduceDiv,Nat.reduceMod,Nat.reduceBEq,Nat.reduceAdd,lk,rf,uH,mh,rI,hF,hO];refine eH ((w57 Φ h57 (hWY.grow gZ) (mq [d6 w] (am _ _ _) (by omega)) hz1).mono ?_);rintro _ M5 c5 ⟨hW5,K5⟩;refine⟨(hW5.gr.ok ok0).free,?_⟩;simp only[WX,B58,q8];exact⟨l.length-(i+1),by omega,(hI _ _).2 ⟨i+1,_,_,(X1 (G2 (X2 (X1 (G2 (G1 (br (X4 (X2 []))))))))),rfl,hlt,rfl,by rw[htk,←aT];exact hW5,(KY.trans (Kp.of gZ)).trans K5⟩⟩
 ·obtain rfl:i=l.length:=by omega
  have d1:decide ((l.length:Int)<(l.length:Int))=false:=af (by omega);rw[List.take_length]at hW2;simp only[WX,B58,d1];exact⟨hW2,K2⟩
abbrev mz(u:List (Option V))(x1 x3 x4 x5 x7 x13 x14 x15:V):T:=(.n (.n (.n (.n (.n (fm u 63 31 95) (some x15) (fm u 79 47 111)) (some x7) (aq u 71 39 103 23 87 55 119)) (some x3) (.n (aq u 67 35 99 19 83 51 115) (uO u 11) (aq u 75 43 107 27 91 59 123))) (some x1) (.n (.n (aq u 65 33 97 17 81 49 113) (uO u 9) (aq u 73 41 105 25 89 57 121)) (some x5) (.n (aq u 69 37 101 21 85 53 117) (some x13) (aq u 77 45 109 29 93 61 125)))) (uO u 0) (.n (.n (.n (aq u 64 32 96 16 80 48 112) (uO u 8) (aq u 72 40 104 24 88 56 120)) (some x4) (.n (aq u 68 36 100 20 84 52 116) (uO u 12) (aq u 76 44 108 28 92 60 124))) (uO u 2) (.n (.n (aq u 66 34 98 18 82 50 114) (uO u 10) (aq u 74 42 106 26 90 58 122)) (uO u 6) (.n (aq u 70 38 102 22 86 54 118) (some x14) (aq u 78 46 110 30 94 62 126)))))
abbrev aI1(u:List (Option V))(x1 x3 x4 x5 x7 x8 x13 x14 x15 x35 x36 x37:V):T:=(.n (.n (.n (.n (.n (fm u 63 31 95) (some x15) (fm u 79 47 111)) (some x7) (aq u 71 39 103 23 87 55 119)) (some x3) (.n (.n (.n (gy u 67) (some x35) (gy u 99)) (uO u 19) (fm u 83 51 115)) (uO u 11) (aq u 75 43 107 27 91 59 123))) (some x1) (.n (.n (aq u 65 33 97 17 81 49 113) (uO u 9) (aq u 73 41 105 25 89 57 121)) (some x5) (.n (.n (.n (gy u 69) (some x37) (gy u 101)) (uO u 21) (fm u 85 53 117)) (some x13) (aq u 77 45 109 29 93 61 125)))) (uO u 0) (.n (.n (.n (aq u 64 32 96 16 80 48 112) (some x8) (aq u 72 40 104 24 88 56 120)) (some x4) (.n (.n (.n (gy u 68) (some x36) (gy u 100)) (uO u 20) (fm u 84 52 116)) (uO u 12) (aq u 76 44 108 28 92 60 124))) (uO u 2) (.n (.n (aq u 66 34 98 18 82 50 114) (uO u 10) (aq u 74 42 106 26 90 58 122)) (uO u 6) (.n (aq u 70 38 102 22 86 54 118) (some x14) (aq u 78 46 110 30 94 62 126)))))
def af4:CC:=(.reg [(aa a1 (.bx 25 1 z0)),(qq a2 (.mv (.c (.s 0 0))))])
def bV3:=wu af4.eq_1
def af5:CC:=(.reg [(qq dJ (.mkf 57 [] [z3])),(aa a4 (.al 105 [.f0])),(ez (.st 1 z4 eK))])
def bV4:=wu af5.eq_1
def af6:CC:=(.reg [(qq ey (.mkf 58 [] [z4])),(qq a5 (.mv dE))])
def bV5:=wu af6.eq_1
def af7:CC:=(.reg [(qq eU (.fa 0 z1)),(qq eC (.ld1 ei)),(qq dR (.ln .slice eb)),(qq dA (.mv (x6 0)))])
def bV6:=wu af7.eq_1
def af8:CC:=(.reg [(qq eX (.bi .lss gf fG))])
def aK1:=wu af8.eq_1
def af9:CC:=(.reg [(qq gC (.iaS 6 eb gf)),(qq fK (.ldn 6 gS)),(aa a7 (.al 39 [(.i .i64 0),(.b false),.l0,.l0,(.b false),.l0])),(ez (.st 6 z7 hU))])
def aK2:=wu af9.eq_1
def ag0:CC:=(.reg [(qq i5 (.fa 0 z7)),(qq gh (.ld1 jz)),(qq fE (.bi .gtr k7 (x6 0)))])
def bV7:=wu ag0.eq_1
def ag1:CC:=(.dreg 7 [(0,0,(qq j9 (.ld1 z4))),(2,0,(qq jn (.fa 0 z7))),(3,4,(qq gP (.ld1 jA))),(1,0,(ee gO (.call 33 []))),(4,14,(qq ja (.ixA1 4 1 k8 kM))),(5,30,(aa gQ (.bsl 9 1 1 [(.s 0 0)] [(0,lw)]))),(6,63,(ee kQ (.cv kL [lB])))])
def bV8:=wu ag1.eq_1
def Ns:CC:=(.seq ag0 (.cond ju ag1 .skip))
def bV9:=wu Ns.eq_1
def N5:CC:=(.reg [(qq gU (.fa 1 z7)),(qq jv (.ld1 mI))])
def bd9:=wu N5.eq_1
def N6:CC:=(.reg [(qq jC (.ld1 z4)),(aa lz (.bsl 9 1 1 [(.s 0 0)] [(0,(.c (.s 1 33)))])),(ee lE (.cv ny [oC]))])
def be0:=wu N6.eq_1
def Cr:CC:=(.seq N5 (.cond nv N6 .skip))
def be1:=wu Cr.eq_1
def N7:CC:=(.reg [(qq jx (.fa 5 z7)),(qq iK (.ld1 pR)),(qq mK (.ln .slice pM)),(qq ka (.mv (x6 0)))])
def UH:=wu N7.eq_1
def Cs:CC:=(.reg [(qq mL (.bi .lss oF pS))])
def UI:=wu Cs.eq_1
def N8:CC:=(.reg [(qq lA (.mv oF)),(qq nj (.iaS 1 pM oF)),(qq jb (.ldn 1 rJ)),(aa a9 (.al 42 [.l0])),(qq a8 (.mv qT)),(ez (.st 1 z9 pT))])
def UJ:=wu N8.eq_1
def N9:CC:=(.reg [(qq kR (.mv z8)),(qq oK (.bi .gtr rK (x6 0)))])
def be2:=wu N9.eq_1
def Na:CC:=(.reg [(qq lF (.ld1 z4)),(aa oL (.bsl 9 1 1 [(.s 0 0)] [(0,(.c (.s 1 124)))])),(ee ll (.cv qU [rM]))])
def be3:=wu Na.eq_1
def Ct:CC:=(.seq N9 (.cond rL Na .skip))
def be4:=wu Ct.eq_1
def Nb:CC:=(.reg [(qq oM (.mv z5)),(qq kb (.ldn 1 z9)),(ee lG (.cv rN [sq]))])
def UK:=wu Nb.eq_1
def Nc:CC:=(.reg [(qq qZ (.mv z8)),(qq r0 (.bi .eql uZ (x6 0))),(qq mM (.mv uP)),(aE sv (.fa 2 z7) mM),(aE uS (.fa 0 vD) mM),(aE pO (.ld1 wW) mM),(aE sZ (.ln .slice za) mM),(aE vN (.bi .gtr vE (x6 0)) mM),(qq vO (.pk v7 BH xF))])
def UL:=wu Nc.eq_1
def Cu:CC:=(.dreg 6 [(0,0,(qq sw (.ld1 z4))),(1,0,(qq vP (.fa 2 z7))),(2,2,(qq sy (.ldn 1 Bi))),(3,6,(ee vQ (.call 59 [BI]))),(4,14,(aa nA (.bsl 9 2 1 [(.s 0 0)] [(0,(.c (.s 1 60))),(1,Bj)]))),(5,31,(ee vR (.cv Bh [zk])))])
def be5:=wu Cu.eq_1
def Nd:CC:=(.seq Nc (.cond Bg Cu .skip))
def UM:=wu Nd.eq_1
def Nf:CC:=(.reg [(qq ve (.bi .add oF (x6 1))),(qq ka (.mv zb))])
def be6:=wu Nf.eq_1
def Ng:CC:=(.seq (.block 3 (.seq N8 (.seq Ct (.seq Nb Nd)))) Nf)
def UN:=wu Ng.eq_1
def Cv:CC:=(.seq (.cond qS .skip (.exit 2)) Ng)
def UO:=wu Cv.eq_1
def Nh:CC:=(.reg [(qq rS (.fa 4 z7)),(qq vf (.ld1 vF)),(qq oN (.mv zd))])
def EF:=wu Nh.eq_1
def Cw:CC:=(.dreg 6 [(0,0,(qq uT (.ld1 z4))),(1,0,(qq uU (.fa 3 z7))),(2,2,(qq oD (.ldn 1 zm))),(3,6,(ee uV (.call 59 [zf]))),(4,14,(aa fF (.bsl 9 2 1 [(.s 0 0)] [(0,(.c (.s 2 15934))),(1,zn)]))),(5,31,(ee pP (.cv ze [ss])))])
def be7:=wu Cw.eq_1
def Ni:CC:=(.reg [(qq r4 (.fa 3 z7)),(qq vT (.fa 0 zr)),(qq vU (.ld1 Bm)),(qq vV (.ln .slice Bn)),(qq uW (.bi .gtr Bo (x6 0))),(qq vg (.mv BK))])
def UP:=wu Ni.eq_1
def Cy:CC:=(.dreg 6 [(0,0,(qq xe (.ld1 z4))),(1,0,(qq oO (.fa 3 z7))),(2,2,(qq t0 (.ldn 1 BM))),(3,6,(ee zB (.call 59 [BN]))),(4,14,(aa vW (.bsl 9 2 1 [(.s 0 0)] [(0,(.c (.s 1 62))),(1,BO)]))),(5,31,(ee Bv (.cv BL [ES])))])
def be8:=wu Cy.eq_1
def Nj:CC:=(.seq Ni (.cond zq Cy .skip))
def UQ:=wu Nj.eq_1
def Cz:CC:=(.seq Nh (.cond zl Cw Nj))
def EG:=wu Cz.eq_1
def Nk:CC:=(.seq (.seq N7 (.block 2 (.loop (.seq Cs Cv)))) (.block 4 Cz))
def UR:=wu Nk.eq_1
def Nl:CC:=(.reg [(qq Bw (.bi .add gf (x6 1))),(qq dA (.mv ET))])
def US:=wu Nl.eq_1
def Nm:CC:=(.seq (.block 1 (.seq af9 (.seq Ns (.seq Cr Nk)))) Nl)
def UT:=wu Nm.eq_1
def Nn:CC:=(.seq (.cond gM .skip (.exit 0)) Nm)
def UU:=wu Nn.eq_1
def Np:CC:=(.reg [(qq rT (.ld1 z3)),(ee Bx (.call 60 [EU,(.c (.s 1 32))])),(qq a2 (.mv EV))])
def UV:=wu Np.eq_1
def Nq:CC:=(.seq (.seq af7 (.block 0 (.loop (.seq af8 Nn)))) (.seq Np .ret))
def be9:=wu Nq.eq_1
def Nr:CC:=(.seq (.reg [(aa a3 (.al 69 [.l0]))]) (.seq af5 (.seq af6 Nq)))
def bf0:=wu Nr.eq_1
def c39:CF:= .mk 7 [.t a2] (.seq af4 Nr)
theorem e39(v0:V):bz 7 [v0]=(.n uY (some v0) uY):=rfl
def zu:=ai @e39 (ai @bV3 (ai @bV4 (ai @bV5 (ai @bV6 (ai @aK1 (ai @aK2 (ai @bV7 (ai @bV8 (ai @bV9 (ai @bd9 (ai @be0 (ai @be1 (ai @UH (ai @UI (ai @UJ (ai @be2 (ai @be3 (ai @be4 (ai @UK (ai @UL (ai @be5 (ai @UM (ai @be6 (ai @UN (ai @UO (ai @EF (ai @be7 (ai @UP (ai @be8 (ai @UQ (ai @EG (ai @UR (ai @US (ai @UT (ai @UU (ai @UV (ai @be9 (@bf0))))))))))))))))))))))))))))))))))))))
theorem WQ{F:RO}(len sz:Nat)(x i:X)(M:Mem)(t:T):lq (.ixA1 len sz x i) F M t=oV (rt len sz (x.ev t) (i.ev t)):=by
 refine(fw ?_).trans (congrArg oV (Uh (F:=F) len sz x i M t))
 intro F' M'
 refine jQ ?_
 show((DH (x.ev t) QR.f fun cs=>p8 len sz cs (rX (i.ev t)))= .f∨ ∃y,(DH (x.ev t) QR.f fun cs=>p8 len sz cs (rX (i.ev t)))= .v y)
 cases x.ev t with
 |g cs=>
  show(p8 len sz cs (rX (i.ev t))= .f∨ ∃y,p8 len sz cs (rX (i.ev t))= .v y);cases rX (i.ev t)with
  |none=>exact .inl rfl
  |some m=>
   show((bif Nat.blt m len then qr (ph cs (Nat.mul m sz))else QR.f)= .f∨ ∃y,(bif Nat.blt m len then qr (ph cs (Nat.mul m sz))else QR.f)= .v y);cases Nat.blt m len with
   |false=>exact .inl rfl
   |true=>
    show(qr (ph cs (Nat.mul m sz))= .f∨ ∃y,qr (ph cs (Nat.mul m sz))= .v y);cases ph cs (Nat.mul m sz)with
    |none=>exact .inl rfl
    |some y=>exact .inr ⟨y,rfl⟩
 |_=>exact .inl rfl
def jp(inp:List Pc):Nat→List eB→List (List UInt8)
 |_,[]=>[]
 |k,c::r=>(if 0<k then[[124]]else[])++(c.map d6++((if(decide (k=0)&&hasW inp)=true then[[60],d6 inp]else[])++jp inp (k+1) r))
def m8(beh:Bool)(out:List Pc):List (List UInt8):=if beh=true then[[62,62],d6 out]else if hasW out=true then[[62],d6 out]else[]
def Ta(p:fD):List (List UInt8):=(if 0<p.join then[BC p.join.toNat]else[])++((if p.nt=true then[[33]]else[])++(jp p.inp 0 p.cmds++m8 p.beh p.out))
def qP:List fD→List (List UInt8)
 |[]=>[]
 |p::r=>Ta p++qP r
theorem ci2(Φ:Nat→Option CF)(h33:Φ 33=some VP)(h57:Φ 57=some zL){F:RO}{M0 M2:Mem}{c c2 pb N i:Nat}{cur:List (List UInt8)}{vl vi vo vc:V}{j:Int}{nt beh:Bool}(ok0:cR F M0 c)(hW:pN M0 c M2 c2 cur)(mb:M2.get pb=some (ae 39 [.i .i64 j,.b nt,vi,vo,.b beh,vc]))(hp1:c+3≤pb)(hp2:pb<c2)(hj0:0≤j)(hj3:j≤3)(hz:dL (cur++(if 0<j then[BC j.toNat]else[]))≤1000000)(u:List (Option V))(Q:Ex→St→Prop)
 (hQ:∀(u:List (Option V)) M' c',pN M0 c M' c' (cur++(if 0<j then[BC j.toNat]else[]))→Kp c M2 c2 M' c'→Q .nrm (.mk ((mz u (.p c 0) (.p (c+1) 0) (.p (c+2) 0) (.f 58 [] [.p (c+2) 0]) (.p pb 0) vl (.i .i64 (N:Int)) (.i .i64 (i:Int)))) [] M' c')):
 Wp Ns (K Φ none 39 F) (.mk ((mz u (.p c 0) (.p (c+1) 0) (.p (c+2) 0) (.f 58 [] [.p (c+2) 0]) (.p pb 0) vl (.i .i64 (N:Int)) (.i .i64 (i:Int)))) [] M2 c2) Q:=by
 have ok2:=hW.gr.ok ok0
 have l0:load1 F M2 pb 0=some (.i .i64 j):=au mb 0
 by_cases hj:0<j
 ·have dj:decide ((0:Int)<j)=true:=ah hj;rw[ac hj]at hz hQ;have b2:load1 F M2 (c+2) 0=some (.f 57 [] [.p (c+1) 0]):=au hW.m2 0;have hfr:=ok2.free;simp only[WX,zu,l0,dj,b2,aB];have g5:Gr c2 M2 (c2+7) M2:=(Gr.refl ok2).up (by omega);have ok5:=g5.ok ok2;refine wU _ _ _ _ _ _ _ _ _ _ _ ok5 ?_;intro F1 N1 okn hlk;refine(show lD (dt (j5 Φ) F1 33 [] N1 (c2+7) (Φ 33)) _ from(w33 Φ h33 okn).mono ?_);rintro r M3 c3 ⟨rfl,g3⟩;refine⟨g3,fun M4 g4 _=>?_⟩;have hle3:=g4.le;have lk:(look F M4 (c2+5)).isNone=true:=by rw[cF (g4.old _ (by omega)),ok2.look (by omega)];rfl
  have hc2:=hW.hc;have rf:bY (c2+5) [(3,pb),(0,c+2)]=true:=by rw[bo _ _ _ _ (by omega),bo _ _ _ _ (by omega),cK]
  have gZ:=(g5.trans g4).set (c2+5) (cL [V.s 0 0] 9 [sV (BC j.toNat)]) (by omega) (by omega) (aj _);have hF:flatten (sV (BC j.toNat))=[sV (BC j.toNat)]:=rfl;have hO:bC (sV (BC j.toNat))=true:=rfl;have hix:rt 4 1 SE (.i .i64 j)=some (sV (BC j.toNat)):=by
   unfold SE;rw[qi,ac ⟨by omega,by omega⟩];have:j=1∨j=2∨j=3:=by omega
   rcases this with rfl|rfl|rfl<;>rfl
  simp only[WX,Nat.reducePow,Nat.reduceDiv,Nat.reduceMod,Nat.reduceBEq,lk,rf,uH,mh,rI,hF,hO,WQ,hix];refine eH ((w57 Φ h57 (hW.grow gZ) (mq [BC j.toNat] (am _ _ _) (by omega)) hz).mono ?_);rintro _ M5 c5 ⟨hW5,K5⟩;refine⟨(hW5.gr.ok ok0).free,?_⟩;simp only[WX];exact hQ (X1 (G1 (X1 (G2 (G1 (X1 (G1 (X4 (X1 (G2 (G1 (bf (bA (X8 (X4 (X2 (X1 []))))))))))))))))) _ _ hW5 ((Kp.of gZ).trans K5)
 ·have dj:decide ((0:Int)<j)=false:=af hj;rw[ab hj,bH]at hQ;simp only[WX,zu,l0,dj,aB];exact hQ (X1 (G1 (X1 (G2 (G1 (X1 (G1 (X4 (X1 (G2 (G1 (bf (bA (X8 (X4 (X2 (X1 []))))))))))))))))) _ _ hW Kp.refl
theorem ci3(Φ:Nat→Option CF)(h57:Φ 57=some zL){F:RO}{M0 M2:Mem}{c c2 pb N i:Nat}{cur:List (List UInt8)}{vl vi vo vc:V}{j:Int}{nt beh:Bool}(ok0:cR F M0 c)(hW:pN M0 c M2 c2 cur)(mb:M2.get pb=some (ae 39 [.i .i64 j,.b nt,vi,vo,.b beh,vc]))(hz:dL (cur++(if nt=true then[[33]]else[]))≤1000000)(u:List (Option V))(Q:Ex→St→Prop)
 (hQ:∀(u:List (Option V)) M' c',pN M0 c M' c' (cur++(if nt=true then[[33]]else[]))→Kp c M2 c2 M' c'→Q .nrm (.mk ((mz u (.p c 0) (.p (c+1) 0) (.p (c+2) 0) (.f 58 [] [.p (c+2) 0]) (.p pb 0) vl (.i .i64 (N:Int)) (.i .i64 (i:Int)))) [] M' c')):
 Wp Cr (K Φ none 39 F) (.mk ((mz u (.p c 0) (.p (c+1) 0) (.p (c+2) 0) (.f 58 [] [.p (c+2) 0]) (.p pb 0) vl (.i .i64 (N:Int)) (.i .i64 (i:Int)))) [] M2 c2) Q:=by
 have ok2:=hW.gr.ok ok0
 have l1:load1 F M2 pb 1=some (.b nt):=au mb 1
 cases nt with
 |true=>
  rw[ac rfl]at hz hQ;have b2:load1 F M2 (c+2) 0=some (.f 57 [] [.p (c+1) 0]):=au hW.m2 0;have gZ:=(Gr.refl ok2).set c2 (cL [V.s 0 0] 9 [sV [33]]) (aj _) (ay _) (aJ _);simp only[WX,zu,l1,b2];refine az ((w57 Φ h57 (hW.grow gZ) (mq [[33]] (am _ _ _) (ay _)) hz).mono ?_);rintro _ M5 c5 ⟨hW5,K5⟩;simp only[WX];exact hQ (X1 (G1 (X1 (G2 (G1 (X1 (G1 (X4 (X1 (G2 (G1 (bf (bA (X8 (X4 (X2 (X1 []))))))))))))))))) _ _ hW5 ((Kp.of gZ).trans K5)
 |false=>
  rw[ab (by simp),bH]at hQ;simp only[WX,zu,l1];exact hQ (X1 (G1 (X1 (G2 (G1 (X1 (G1 (X4 (X1 (G2 (G1 (bf (bA (X8 (X4 (X2 (X1 []))))))))))))))))) _ _ hW Kp.refl
theorem ci1(Φ:Nat→Option CF)(h57:Φ 57=some zL)(h59:Φ 59=some Fb)(h77:Φ 77=some (.orc (aG h77)))(h52:Φ 52=some BA)(h54:Φ 54=some BB)(h71:Φ 71=some zg){F:RO}{M0 M2:Mem}{c c2 pb N i k n:Nat}{cur:List (List UInt8)}{vl vi vo vc:V}{j:Int}{nt beh:Bool}{w:List Pc}(ok0:cR F M0 c)(hW:pN M0 c M2 c2 cur)(mb:M2.get pb=some (ae 39 [.i .i64 j,.b nt,vi,vo,.b beh,vc]))(hp1:c+3≤pb)(hp2:pb<c2)(hw:dQ F M0 c vi w)(hs:∀q∈w,q.1.length≤1000000)(hz:dL (cur++[[60],d6 w])≤1000000)(u:List (Option V))(Q:Ex→St→Prop)
 (hQ:∀(u:List (Option V)) M' c',pN M0 c M' c' (cur++[[60],d6 w])→Kp c M2 c2 M' c'→Q .nrm (.mk ((aI1 u (.p c 0) (.p (c+1) 0) (.p (c+2) 0) (.f 58 [] [.p (c+2) 0]) (.p pb 0) (.i .i64 (k:Int)) vl (.i .i64 (N:Int)) (.i .i64 (i:Int)) vc (.i .i64 (n:Int)) (.i .i64 (k:Int)))) [] M' c')):
 Wp Cu (K Φ none 39 F) (.mk ((aI1 u (.p c 0) (.p (c+1) 0) (.p (c+2) 0) (.f 58 [] [.p (c+2) 0]) (.p pb 0) (.i .i64 (k:Int)) vl (.i .i64 (N:Int)) (.i .i64 (i:Int)) vc (.i .i64 (n:Int)) (.i .i64 (k:Int)))) [] M2 c2) Q:=by
 have ok2:=hW.gr.ok ok0
 obtain⟨z1,z2,z3⟩:=hw.one
 have hG:∀v,flatten (V.g [v])=[v]:=fun _=>rfl
 have lf:loadN F M2 pb 2 1=some [vi]:=by rw[cq mb,cN _ _ _ _ _ _ (by simp)];rfl
 have b2:load1 F M2 (c+2) 0=some (.f 57 [] [.p (c+1) 0]):=au hW.m2 0
 have hfr:=ok2.free
 simp only[WX,zu,lf,b2]
 have g5:Gr c2 M2 (c2+6) M2:=(Gr.refl ok2).up (by omega)
 have ok5:=g5.ok ok2
 have hwl:(d6 w).length≤1000000:=by
  rw[bZ]at hz;simp only[dL]at hz;omega
 refine wU _ _ _ _ _ _ _ _ _ _ _ ok5 ?_
 intro F1 N1 okn hlk
 refine(show lD (dt (j5 Φ) F1 59 [.g [vi]] N1 (c2+6) (Φ 59)) _ from(w59 Φ h59 h77 h52 h54 h71 okn (((hw.grow hW.gr).grow g5).lk hlk) hs hwl).mono ?_)
 rintro r M3 c3 ⟨rfl,g3⟩
 refine⟨g3,fun M4 g4 _=>?_⟩
 have hle3:=g4.le
 have lk:(look F M4 (c2+4)).isNone=true:=by rw[cF (g4.old _ (by omega)),ok2.look (by omega)];rfl
 have hc2:=hW.hc
 have rf:bY (c2+4) [(2,pb),(0,c+2)]=true:=by rw[bo _ _ _ _ (by omega),bo _ _ _ _ (by omega),cK]
 have gZ:=(g5.trans g4).set (c2+4) (cL [V.s 0 0] 9 [sV [60],sV (d6 w)]) (by omega) (by omega) (aj _)
 have hF:flatten (sV (d6 w))=[sV (d6 w)]:=rfl
 have hO:bC (sV (d6 w))=true:=rfl
 simp only[WX,Nat.reducePow,Nat.reduceDiv,Nat.reduceMod,Nat.reduceBEq,Nat.reduceAdd,lk,rf,uH,mh,rI,hF,hO]
 refine eH ((w57 Φ h57 (hW.grow gZ) (mq [[60],d6 w] (am _ _ _) (by omega)) hz).mono ?_)
 rintro _ M5 c5 ⟨hW5,K5⟩
 refine⟨(hW5.gr.ok ok0).free,?_⟩
 simp only[WX]
 exact hQ (X1 (G1 (X1 (G2 (G1 (X1 (G2 (X4 (G2 (G1 (br (X2 (X1 (G2 (G1 (bf (br (X8 (X1 []))))))))))))))))))) _ _ hW5 ((Kp.of gZ).trans K5)
theorem ch8(Φ:Nat→Option CF)(h57:Φ 57=some zL)(h59:Φ 59=some Fb)(h77:Φ 77=some (.orc (aG h77)))(h52:Φ 52=some BA)(h54:Φ 54=some BB)(h71:Φ 71=some zg){F:RO}{M0 M2:Mem}{c c2 pb N i:Nat}{cur:List (List UInt8)}{vl vi vo vc:V}{j:Int}{nt beh:Bool}{w:List Pc}(ok0:cR F M0 c)(hW:pN M0 c M2 c2 cur)(mb:M2.get pb=some (ae 39 [.i .i64 j,.b nt,vi,vo,.b beh,vc]))(hp1:c+3≤pb)(hp2:pb<c2)(hw:dQ F M0 c vo w)(hs:∀q∈w,q.1.length≤1000000)(hz:dL (cur++[[62,62],d6 w])≤1000000)(u:List (Option V))(Q:Ex→St→Prop)
 (hQ:∀(u:List (Option V)) M' c',pN M0 c M' c' (cur++[[62,62],d6 w])→Kp c M2 c2 M' c'→Q .nrm (.mk ((mz u (.p c 0) (.p (c+1) 0) (.p (c+2) 0) (.f 58 [] [.p (c+2) 0]) (.p pb 0) vl (.i .i64 (N:Int)) (.i .i64 (i:Int)))) [] M' c')):
 Wp Cw (K Φ none 39 F) (.mk ((mz u (.p c 0) (.p (c+1) 0) (.p (c+2) 0) (.f 58 [] [.p (c+2) 0]) (.p pb 0) vl (.i .i64 (N:Int)) (.i .i64 (i:Int)))) [] M2 c2) Q:=by
 have ok2:=hW.gr.ok ok0
 obtain⟨z1,z2,z3⟩:=hw.one
 have hG:∀v,flatten (V.g [v])=[v]:=fun _=>rfl
 have lf:loadN F M2 pb 3 1=some [vo]:=by rw[cq mb,cN _ _ _ _ _ _ (by simp)];rfl
 have b2:load1 F M2 (c+2) 0=some (.f 57 [] [.p (c+1) 0]):=au hW.m2 0
 have hfr:=ok2.free
 simp only[WX,zu,lf,b2]
 have g5:Gr c2 M2 (c2+6) M2:=(Gr.refl ok2).up (by omega)
 have ok5:=g5.ok ok2
 have hwl:(d6 w).length≤1000000:=by
  rw[bZ]at hz;simp only[dL]at hz;omega
 refine wU _ _ _ _ _ _ _ _ _ _ _ ok5 ?_
 intro F1 N1 okn hlk
 refine(show lD (dt (j5 Φ) F1 59 [.g [vo]] N1 (c2+6) (Φ 59)) _ from(w59 Φ h59 h77 h52 h54 h71 okn (((hw.grow hW.gr).grow g5).lk hlk) hs hwl).mono ?_)
 rintro r M3 c3 ⟨rfl,g3⟩
 refine⟨g3,fun M4 g4 _=>?_⟩
 have hle3:=g4.le
 have lk:(look F M4 (c2+4)).isNone=true:=by rw[cF (g4.old _ (by omega)),ok2.look (by omega)];rfl
 have hc2:=hW.hc
 have rf:bY (c2+4) [(2,pb),(0,c+2)]=true:=by rw[bo _ _ _ _ (by omega),bo _ _ _ _ (by omega),cK]
 have gZ:=(g5.trans g4).set (c2+4) (cL [V.s 0 0] 9 [sV [62,62],sV (d6 w)]) (by omega) (by omega) (aj _)
 have hF:flatten (sV (d6 w))=[sV (d6 w)]:=rfl
 have hO:bC (sV (d6 w))=true:=rfl
 simp only[WX,Nat.reducePow,Nat.reduceDiv,Nat.reduceMod,Nat.reduceBEq,Nat.reduceAdd,lk,rf,uH,mh,rI,hF,hO]
 refine eH ((w57 Φ h57 (hW.grow gZ) (mq [[62,62],d6 w] (am _ _ _) (by omega)) hz).mono ?_)
 rintro _ M5 c5 ⟨hW5,K5⟩
 refine⟨(hW5.gr.ok ok0).free,?_⟩
 simp only[WX]
 exact hQ (X1 (G1 (X1 (G2 (G1 (X1 (G1 (X4 (X1 (G2 (G1 (bf (bA (X8 (X4 (X2 (X1 []))))))))))))))))) _ _ hW5 ((Kp.of gZ).trans K5)
theorem ch9(Φ:Nat→Option CF)(h57:Φ 57=some zL)(h59:Φ 59=some Fb)(h77:Φ 77=some (.orc (aG h77)))(h52:Φ 52=some BA)(h54:Φ 54=some BB)(h71:Φ 71=some zg){F:RO}{M0 M2:Mem}{c c2 pb N i:Nat}{cur:List (List UInt8)}{vl vi vo vc:V}{j:Int}{nt beh:Bool}{w:List Pc}(ok0:cR F M0 c)(hW:pN M0 c M2 c2 cur)(mb:M2.get pb=some (ae 39 [.i .i64 j,.b nt,vi,vo,.b beh,vc]))(hp1:c+3≤pb)(hp2:pb<c2)(hw:dQ F M0 c vo w)(hs:∀q∈w,q.1.length≤1000000)(hz:dL (cur++[[62],d6 w])≤1000000)(u:List (Option V))(Q:Ex→St→Prop)
 (hQ:∀(u:List (Option V)) M' c',pN M0 c M' c' (cur++[[62],d6 w])→Kp c M2 c2 M' c'→Q .nrm (.mk ((mz u (.p c 0) (.p (c+1) 0) (.p (c+2) 0) (.f 58 [] [.p (c+2) 0]) (.p pb 0) vl (.i .i64 (N:Int)) (.i .i64 (i:Int)))) [] M' c')):
 Wp Cy (K Φ none 39 F) (.mk ((mz u (.p c 0) (.p (c+1) 0) (.p (c+2) 0) (.f 58 [] [.p (c+2) 0]) (.p pb 0) vl (.i .i64 (N:Int)) (.i .i64 (i:Int)))) [] M2 c2) Q:=by
 have ok2:=hW.gr.ok ok0
 obtain⟨z1,z2,z3⟩:=hw.one
 have hG:∀v,flatten (V.g [v])=[v]:=fun _=>rfl
 have lf:loadN F M2 pb 3 1=some [vo]:=by rw[cq mb,cN _ _ _ _ _ _ (by simp)];rfl
 have b2:load1 F M2 (c+2) 0=some (.f 57 [] [.p (c+1) 0]):=au hW.m2 0
 have hfr:=ok2.free
 simp only[WX,zu,lf,b2]
 have g5:Gr c2 M2 (c2+6) M2:=(Gr.refl ok2).up (by omega)
 have ok5:=g5.ok ok2
 have hwl:(d6 w).length≤1000000:=by
  rw[bZ]at hz;simp only[dL]at hz;omega
 refine wU _ _ _ _ _ _ _ _ _ _ _ ok5 ?_
 intro F1 N1 okn hlk
 refine(show lD (dt (j5 Φ) F1 59 [.g [vo]] N1 (c2+6) (Φ 59)) _ from(w59 Φ h59 h77 h52 h54 h71 okn (((hw.grow hW.gr).grow g5).lk hlk) hs hwl).mono ?_)
 rintro r M3 c3 ⟨rfl,g3⟩
 refine⟨g3,fun M4 g4 _=>?_⟩
 have hle3:=g4.le
 have lk:(look F M4 (c2+4)).isNone=true:=by rw[cF (g4.old _ (by omega)),ok2.look (by omega)];rfl
 have hc2:=hW.hc
 have rf:bY (c2+4) [(2,pb),(0,c+2)]=true:=by rw[bo _ _ _ _ (by omega),bo _ _ _ _ (by omega),cK]
 have gZ:=(g5.trans g4).set (c2+4) (cL [V.s 0 0] 9 [sV [62],sV (d6 w)]) (by omega) (by omega) (aj _)
 have hF:flatten (sV (d6 w))=[sV (d6 w)]:=rfl
 have hO:bC (sV (d6 w))=true:=rfl
 simp only[WX,Nat.reducePow,Nat.reduceDiv,Nat.reduceMod,Nat.reduceBEq,Nat.reduceAdd,lk,rf,uH,mh,rI,hF,hO]
 refine eH ((w57 Φ h57 (hW.grow gZ) (mq [[62],d6 w] (am _ _ _) (by omega)) hz).mono ?_)
 rintro _ M5 c5 ⟨hW5,K5⟩
 refine⟨(hW5.gr.ok ok0).free,?_⟩
 simp only[WX]
 exact hQ (X1 (G1 (X1 (G2 (G1 (X1 (G1 (X4 (X1 (G2 (G1 (bf (bA (X8 (X4 (X2 (X1 []))))))))))))))))) _ _ hW5 ((Kp.of gZ).trans K5)
abbrev aI2(u:List (Option V))(x1 x3 x4 x5 x7 x8 x9 x13 x14 x15 x35 x36 x37:V):T:=(.n (.n (.n (.n (.n (fm u 63 31 95) (some x15) (fm u 79 47 111)) (some x7) (aq u 71 39 103 23 87 55 119)) (some x3) (.n (.n (.n (gy u 67) (some x35) (gy u 99)) (uO u 19) (fm u 83 51 115)) (uO u 11) (aq u 75 43 107 27 91 59 123))) (some x1) (.n (.n (aq u 65 33 97 17 81 49 113) (some x9) (aq u 73 41 105 25 89 57 121)) (some x5) (.n (.n (.n (gy u 69) (some x37) (gy u 101)) (uO u 21) (fm u 85 53 117)) (some x13) (aq u 77 45 109 29 93 61 125)))) (uO u 0) (.n (.n (.n (aq u 64 32 96 16 80 48 112) (some x8) (aq u 72 40 104 24 88 56 120)) (some x4) (.n (.n (.n (gy u 68) (some x36) (gy u 100)) (uO u 20) (fm u 84 52 116)) (uO u 12) (aq u 76 44 108 28 92 60 124))) (uO u 2) (.n (.n (aq u 66 34 98 18 82 50 114) (uO u 10) (aq u 74 42 106 26 90 58 122)) (uO u 6) (.n (aq u 70 38 102 22 86 54 118) (some x14) (aq u 78 46 110 30 94 62 126)))))
abbrev U4(u:List (Option V))(x1 x3 x4 x5 x7 x13 x14 x15 x35 x36 x37:V):T:=(.n (.n (.n (.n (.n (fm u 63 31 95) (some x15) (fm u 79 47 111)) (some x7) (aq u 71 39 103 23 87 55 119)) (some x3) (.n (.n (.n (gy u 67) (some x35) (gy u 99)) (uO u 19) (fm u 83 51 115)) (uO u 11) (aq u 75 43 107 27 91 59 123))) (some x1) (.n (.n (aq u 65 33 97 17 81 49 113) (uO u 9) (aq u 73 41 105 25 89 57 121)) (some x5) (.n (.n (.n (gy u 69) (some x37) (gy u 101)) (uO u 21) (fm u 85 53 117)) (some x13) (aq u 77 45 109 29 93 61 125)))) (uO u 0) (.n (.n (.n (aq u 64 32 96 16 80 48 112) (uO u 8) (aq u 72 40 104 24 88 56 120)) (some x4) (.n (.n (.n (gy u 68) (some x36) (gy u 100)) (uO u 20) (fm u 84 52 116)) (uO u 12) (aq u 76 44 108 28 92 60 124))) (uO u 2) (.n (.n (aq u 66 34 98 18 82 50 114) (uO u 10) (aq u 74 42 106 26 90 58 122)) (uO u 6) (.n (aq u 70 38 102 22 86 54 118) (some x14) (aq u 78 46 110 30 94 62 126)))))
abbrev bQ0(u:List (Option V))(x1 x3 x4 x5 x13 x14 x15:V):T:=(.n (.n (.n (.n (.n (fm u 63 31 95) (some x15) (fm u 79 47 111)) (uO u 7) (aq u 71 39 103 23 87 55 119)) (some x3) (.n (aq u 67 35 99 19 83 51 115) (uO u 11) (aq u 75 43 107 27 91 59 123))) (some x1) (.n (.n (aq u 65 33 97 17 81 49 113) (uO u 9) (aq u 73 41 105 25 89 57 121)) (some x5) (.n (aq u 69 37 101 21 85 53 117) (some x13) (aq u 77 45 109 29 93 61 125)))) (uO u 0) (.n (.n (.n (aq u 64 32 96 16 80 48 112) (uO u 8) (aq u 72 40 104 24 88 56 120)) (some x4) (.n (aq u 68 36 100 20 84 52 116) (uO u 12) (aq u 76 44 108 28 92 60 124))) (uO u 2) (.n (.n (aq u 66 34 98 18 82 50 114) (uO u 10) (aq u 74 42 106 26 90 58 122)) (uO u 6) (.n (aq u 70 38 102 22 86 54 118) (some x14) (aq u 78 46 110 30 94 62 126)))))
theorem kJ{a b:List (List UInt8)}{n:Nat}(h:dL (a++b)≤n):dL a≤n:=by rw[bZ]at h;omega
theorem ci5(Φ:Nat→Option CF)(h57:Φ 57=some zL){F:RO}{M0 M2:Mem}{c c2 pb N i k n qb:Nat}{cur:List (List UInt8)}{vl vc:V}(ok0:cR F M0 c)(hW:pN M0 c M2 c2 cur)(hz:dL (cur++(if 0<k then[[124]]else[]))≤1000000)(u:List (Option V))(Q:Ex→St→Prop)
 (hQ:∀(u:List (Option V)) M' c',pN M0 c M' c' (cur++(if 0<k then[[124]]else[]))→Kp c M2 c2 M' c'→Q .nrm (.mk ((aI2 u (.p c 0) (.p (c+1) 0) (.p (c+2) 0) (.f 58 [] [.p (c+2) 0]) (.p pb 0) (.i .i64 (k:Int)) (.p qb 0) vl (.i .i64 (N:Int)) (.i .i64 (i:Int)) vc (.i .i64 (n:Int)) (.i .i64 (k:Int)))) [] M' c')):
 Wp Ct (K Φ none 39 F) (.mk ((aI2 u (.p c 0) (.p (c+1) 0) (.p (c+2) 0) (.f 58 [] [.p (c+2) 0]) (.p pb 0) (.i .i64 (k:Int)) (.p qb 0) vl (.i .i64 (N:Int)) (.i .i64 (i:Int)) vc (.i .i64 (n:Int)) (.i .i64 (k:Int)))) [] M2 c2) Q:=by
 have ok2:=hW.gr.ok ok0
 by_cases hk:0<k
 ·have dk:decide ((0:Int)<(k:Int))=true:=ah (by omega);rw[ac hk]at hz hQ;have b2:load1 F M2 (c+2) 0=some (.f 57 [] [.p (c+1) 0]):=au hW.m2 0;have gZ:=(Gr.refl ok2).set c2 (cL [V.s 0 0] 9 [sV [124]]) (aj _) (ay _) (aJ _);simp only[WX,zu,dk,b2];refine az ((w57 Φ h57 (hW.grow gZ) (mq [[124]] (am _ _ _) (ay _)) hz).mono ?_);rintro _ M5 c5 ⟨hW5,K5⟩;simp only[WX];exact hQ (X1 (G1 (X1 (G2 (G1 (X1 (G2 (G1 (X2 (X1 (G2 (G1 (br (X2 (X1 (G2 (G1 (bf (br (X8 (X1 []))))))))))))))))))))) _ _ hW5 ((Kp.of gZ).trans K5)
 ·have dk:decide ((0:Int)<(k:Int))=false:=af (by omega);rw[ab hk,bH]at hQ;simp only[WX,zu,dk];exact hQ (X1 (G1 (X1 (G2 (G1 (X1 (G2 (G1 (X2 (X1 (G2 (G1 (br (X2 (X1 (G2 (G1 (bf (br (X8 (X1 []))))))))))))))))))))) _ _ hW Kp.refl
theorem m39(Φ:Nat→Option CF)(h57:Φ 57=some zL)(h58:Φ 58=some Wt)(h59:Φ 59=some Fb)(h77:Φ 77=some (.orc (aG h77)))(h52:Φ 52=some BA)(h54:Φ 54=some BB)(h71:Φ 71=some zg){F:RO}{M0 M2:Mem}{c c2 pb N i:Nat}{cur:List (List UInt8)}{vl vi vo vc:V}{j:Int}{nt beh:Bool}{wi:List Pc}{cs:List eB}(ok0:cR F M0 c)(hW:pN M0 c M2 c2 cur)(mb:M2.get pb=some (ae 39 [.i .i64 j,.b nt,vi,vo,.b beh,vc]))(hp1:c+3≤pb)(hp2:pb<c2)(hw:dQ F M0 c vi wi)(hs:∀q∈wi,q.1.length≤1000000)(hc:lh F M0 c vc cs)(hsc:∀x∈cs,Ji x)(hz:dL (cur++jp wi 0 cs)≤1000000)(u:List (Option V))(Q:Ex→St→Prop)
 (hQ:∀(u:List (Option V)) M' c',pN M0 c M' c' (cur++jp wi 0 cs)→Kp c M2 c2 M' c'→Q (.ext 2) (.mk ((mz u (.p c 0) (.p (c+1) 0) (.p (c+2) 0) (.f 58 [] [.p (c+2) 0]) (.p pb 0) vl (.i .i64 (N:Int)) (.i .i64 (i:Int)))) [] M' c')):
 Wp (.loop (.seq Cs Cv)) (K Φ none 39 F) (.mk ((U4 u (.p c 0) (.p (c+1) 0) (.p (c+2) 0) (.f 58 [] [.p (c+2) 0]) (.p pb 0) vl (.i .i64 (N:Int)) (.i .i64 (i:Int)) vc (.i .i64 (cs.length:Int)) (.i .i64 0))) [] M2 c2) Q:=by
 have n1:=hc.len
 have mx:=hc.max
 obtain⟨I,hI⟩:∃I:Nat→St→Prop,∀n s',I n s'↔(∃(k c3:Nat) (M3:Mem) (cu:List (List UInt8)) (u:List (Option V)),n=cs.length-k∧k≤cs.length∧s'= .mk ((U4 u (.p c 0) (.p (c+1) 0) (.p (c+2) 0) (.f 58 [] [.p (c+2) 0]) (.p pb 0) vl (.i .i64 (N:Int)) (.i .i64 (i:Int)) vc (.i .i64 (cs.length:Int)) (.i .i64 (k:Int)))) [] M3 c3∧pN M0 c M3 c3 cu∧Kp c M2 c2 M3 c3∧cu++jp wi k (cs.drop k)=cur++jp wi 0 cs):=⟨fun n s'=>_,fun _ _=>Iff.rfl⟩
 refine bw I ?_ cs.length _ ((hI _ _).2 ⟨0,_,_,_,(X1 (G1 (X1 (G2 (G1 (X1 (G1 (X4 (X1 (G2 (G1 (br (X2 (X1 (G2 (G1 (bf (br (X8 (X1 [])))))))))))))))))))),rfl,aD _,rfl,hW,Kp.refl,rfl⟩)
 intro n s' hIs
 obtain⟨k,c3,M3,cu,u,rfl,hk,rfl,hW3,K3,he⟩:=(hI _ _).1 hIs
 clear hIs
 by_cases hlt:k<cs.length
 ·have q8:cB .add (.i .i64 (k:Int)) (.i .i64 1)=some (.i .i64 ((k+1:Nat):Int)):=by rw[be _ _ (by omega) (by omega)];simp
  have d1:decide ((k:Int)<(cs.length:Int))=true:=ah (by omega);obtain⟨b,o,x,hbx,ia,_,ld0,hw0⟩:=cQ.at1 hc k hlt;have ia:=ia .i64;have ld:loadN F M3 b o 1=some [x]:=(hW3.gr.loadN hbx _ _).trans ld0;have hw1:fo F M0 c x cs[k]:=hw0;have hd:cs.drop k=cs[k]::cs.drop (k+1):=bS hlt;rw[hd,jp]at he;have hsk:=hsc cs[k] (List.getElem_mem _);generalize cs[k]=w at hw1 hsk he;generalize hR:jp wi (k+1) (cs.drop (k+1))=R at he;obtain⟨A,hA⟩:∃A,(if 0<k then[[(124:UInt8)]]else[])=A:=⟨_,rfl⟩
  obtain⟨C,hC⟩:∃C,(if(decide (k=0)&&hasW wi)=true then[[60],d6 wi]else[])=C:=⟨_,rfl⟩
  rw[hA,hC]at he;have hzA:dL (cu++A)≤1000000:=kJ (b:=w.map d6++(C++R)) (by rw[aT,he];exact hz);have hzB:dL (cu++A++w.map d6)≤1000000:=kJ (b:=C++R) (by rw[aT,aT,he];exact hz);have hzC:dL (cu++A++w.map d6++C)≤1000000:=kJ (b:=R) (by rw[aT,aT,aT,he];exact hz);obtain⟨y1,y2,y3⟩:=hw1.one;have hG:∀v,flatten (V.g [v])=[v]:=fun _=>rfl;have qo:=hW3.gr.ok ok0;have sn:bR (M3.set c3 (ae 42 [.l0])) c3 0 [x]=some (M3.set c3 (ae 42 [x])):=dI rfl y3;have gY:=(Gr.refl qo).set c3 (ae 42 [x]) (aj _) (ay _) (aJ _);have my:(M3.set c3 (ae 42 [x])).get c3=some (ae 42 [x]):=am _ _ _;have hWY:=hW3.grow gY;have KY:=K3.trans (Kp.of gY);generalize M3.set c3 (ae 42 [x])=Y at sn gY my hWY KY;have hc3:=hW3.hc;simp only[WX,UI,UJ,UN,UO,d1,ia,ld,hG,sn];refine ci5 Φ h57 ok0 hWY (by rw[hA];exact hzA) (X1 (G1 (X1 (G2 (G1 (X1 (G2 (G1 (X2 (X1 (G2 (G1 (br (X2 (X1 (G2 (G1 (bf (br (X8 (X1 []))))))))))))))))))))) _ ?_;intro u M4 c4 hW4 K4;rw[hA]at hW4;have kx:loadN F M4 c3 0 1=some [x]:=aP (K4.2 c3 42 [x] (ay _) (by omega) (by omega) my) 1 rfl;simp only[WX,UK,kx];refine az ((w58 Φ h58 h57 h59 h77 h52 h54 h71 ok0 hW4 hw1 hsk hzB).mono ?_);rintro _ M5 c5 ⟨hW5,K5⟩;have K6:=KY.trans (K4.trans K5);have mb6:=K6.2 pb 39 _ hp2 (by omega) (by omega) mb;have hle6:=K6.1;have m62:load1 F M5 pb 2=some vi:=au mb6 2;have ni:=hw.len;have di:=rc wi;have NXT:∀(u:List (Option V)) M' c',pN M0 c M' c' (cu++A++w.map d6++C)→Kp c M5 c5 M' c'→I (cs.length-(k+1)) (.mk ((U4 u (.p c 0) (.p (c+1) 0) (.p (c+2) 0) (.f 58 [] [.p (c+2) 0]) (.p pb 0) vl (.i .i64 (N:Int)) (.i .i64 (i:Int)) vc (.i .i64 (cs.length:Int)) (.i .i64 ((k+1:Nat):Int)))) [] M' c'):=by
   intro u M' c' hW' K';exact(hI _ _).2 ⟨k+1,_,_,_,(X1 (G1 (X1 (G2 (G1 (X1 (G1 (X4 (X1 (G2 (G1 (br (X2 (X1 (G2 (G1 (bf (br (X8 (X1 [])))))))))))))))))))),rfl,hlt,rfl,hW',K6.trans K',by rw[hR,←he];simp only[aT]⟩
  by_cases hk0:k=0
  ·have d0:decide ((k:Int)=0)=true:=ah (by omega);rw[ah hk0,Bool.true_and]at hC;cases hI0:hasW wi with
   |true=>
    rw[hI0]at di;rw[ac hI0]at hC;subst hC;simp only[WX,UL,UM,d0,m62,ni,di,aB];refine ci1 Φ h57 h59 h77 h52 h54 h71 ok0 hW5 mb6 hp1 (by omega) hw hs hzC (X1 (G1 (X1 (G2 (G1 (X1 (G2 (X4 (G2 (G1 (br (X2 (X1 (G2 (G1 (bf (br (X8 (X1 []))))))))))))))))))) _ ?_;intro u M7 c7 hW7 K7;simp only[WX,zu,q8];exact⟨cs.length-(k+1),by omega,NXT (X1 (G1 (X1 (G2 (G1 (X1 (G1 (X4 (X1 (G2 (G1 (br (X2 (X1 (G2 (G1 (bf (br (X8 (X1 [])))))))))))))))))))) _ _ hW7 K7⟩
   |false=>
    rw[hI0]at di;rw[ab (by rw[hI0];simp)]at hC;subst hC;simp only[WX,zu,d0,m62,ni,di,aB,q8];exact⟨cs.length-(k+1),by omega,NXT (X1 (G1 (X1 (G2 (G1 (X1 (G1 (X4 (X1 (G2 (G1 (br (X2 (X1 (G2 (G1 (bf (br (X8 (X1 [])))))))))))))))))))) _ _ (by rw[bH];exact hW5) Kp.refl⟩
  ·have d0:decide ((k:Int)=0)=false:=af (by omega);rw[af hk0,Bool.false_and,ab (by simp)]at hC;subst hC;simp only[WX,zu,d0,q8];exact⟨cs.length-(k+1),by omega,NXT (X1 (G1 (X1 (G2 (G1 (X1 (G1 (X4 (X1 (G2 (G1 (br (X2 (X1 (G2 (G1 (bf (br (X8 (X1 [])))))))))))))))))))) _ _ (by rw[bH];exact hW5) Kp.refl⟩
 ·obtain rfl:k=cs.length:=by omega
  have d1:decide ((cs.length:Int)<(cs.length:Int))=false:=af (by omega);rw[cj,jp,bH]at he;subst he;simp only[WX,zu,d1];exact hQ (X1 (G1 (X1 (G2 (G1 (X1 (G1 (X4 (X1 (G2 (G1 (bf (bA (X8 (X4 (X2 (X1 []))))))))))))))))) _ _ hW3 K3
theorem ci4(Φ:Nat→Option CF)(h57:Φ 57=some zL)(h59:Φ 59=some Fb)(h77:Φ 77=some (.orc (aG h77)))(h52:Φ 52=some BA)(h54:Φ 54=some BB)(h71:Φ 71=some zg){F:RO}{M0 M2:Mem}{c c2 pb N i:Nat}{cur:List (List UInt8)}{vl vi vo vc:V}{j:Int}{nt beh:Bool}{w:List Pc}(ok0:cR F M0 c)(hW:pN M0 c M2 c2 cur)(mb:M2.get pb=some (ae 39 [.i .i64 j,.b nt,vi,vo,.b beh,vc]))(hp1:c+3≤pb)(hp2:pb<c2)(hw:dQ F M0 c vo w)(hs:∀q∈w,q.1.length≤1000000)(hz:dL (cur++m8 beh w)≤1000000)(u:List (Option V))(Q:Ex→St→Prop)
 (hQ:∀(u:List (Option V)) M' c',pN M0 c M' c' (cur++m8 beh w)→Q .nrm (.mk ((mz u (.p c 0) (.p (c+1) 0) (.p (c+2) 0) (.f 58 [] [.p (c+2) 0]) (.p pb 0) vl (.i .i64 (N:Int)) (.i .i64 (i:Int)))) [] M' c')):
 Wp Cz (K Φ none 39 F) (.mk ((mz u (.p c 0) (.p (c+1) 0) (.p (c+2) 0) (.f 58 [] [.p (c+2) 0]) (.p pb 0) vl (.i .i64 (N:Int)) (.i .i64 (i:Int)))) [] M2 c2) Q:=by
 have l4:load1 F M2 pb 4=some (.b beh):=au mb 4
 have l3:load1 F M2 pb 3=some vo:=au mb 3
 have no:=hw.len
 have do':=rc w
 unfold m8 at hz hQ
 cases beh with
 |true=>
  rw[ac rfl]at hz hQ;simp only[WX,EF,EG,l4];exact ch8 Φ h57 h59 h77 h52 h54 h71 ok0 hW mb hp1 hp2 hw hs hz (X1 (G1 (X1 (G2 (G1 (X1 (G1 (X4 (X1 (G2 (G1 (bf (bA (X8 (X4 (X2 (X1 []))))))))))))))))) _ fun u M' c' h _=>hQ u M' c' h
 |false=>
  rw[ab (by simp)]at hz hQ;cases hO:hasW w with
  |true=>
   rw[hO]at do'
   rw[ac hO]at hz hQ;simp only[WX,EF,UP,UQ,EG,l4,l3,no,do',aB];exact ch9 Φ h57 h59 h77 h52 h54 h71 ok0 hW mb hp1 hp2 hw hs hz (X1 (G1 (X1 (G2 (G1 (X1 (G1 (X4 (X1 (G2 (G1 (bf (bA (X8 (X4 (X2 (X1 []))))))))))))))))) _ fun u M' c' h _=>hQ u M' c' h
  |false=>
   rw[hO]at do'
   rw[ab (by rw[hO];simp),bH]at hQ;simp only[WX,zu,l4,l3,no,do',aB];exact hQ (X1 (G1 (X1 (G2 (G1 (X1 (G1 (X4 (X1 (G2 (G1 (bf (bA (X8 (X4 (X2 (X1 []))))))))))))))))) _ _ hW
theorem w39(Φ:Nat→Option CF)(h:Φ 39=some c39)(h33:Φ 33=some VP)(h57:Φ 57=some zL)(h58:Φ 58=some Wt)(h59:Φ 59=some Fb)(h60:Φ 60=some J7)(h79:Φ 79=some Wx)(h89:Φ 89=some VU)(h77:Φ 77=some (.orc (aG h77)))(h52:Φ 52=some BA)(h54:Φ 54=some BB)(h71:Φ 71=some zg){F:RO}{M:Mem}{c:Nat}(ok:cR F M c){vl:V}{l:List fD}(hl:nh F M c vl l)(hj:∀p∈l,0≤p.join∧p.join≤3)(hS:∀p∈l,GQ p)(hz:dL (qP l)≤1000000):
 Calls Φ F 39 [.g [vl]] M c fun r M' c'=>r=sV (ff [32] (qP l))∧Gr c M c' M':=by
 refine aN h ?_
 obtain⟨y1,y2,y3⟩:=hl.one
 have hG:∀v,flatten (V.g [v])=[v]:=fun _=>rfl
 have n1:=hl.len
 have mx:=hl.max
 have sn:bR (((M.set c (ae 25 [vl])).set (c+1) (ae 69 [.l0])).set (c+2) (ae 105 [.f0])) (c+2) 0 [.f 57 [] [.p (c+1) 0]]=some (((M.set c (ae 25 [vl])).set (c+1) (ae 69 [.l0])).set (c+2) (ae 105 [.f 57 [] [.p (c+1) 0]])):=dI rfl rfl
 have g3:Gr c M (c+3) (((M.set c (ae 25 [vl])).set (c+1) (ae 69 [.l0])).set (c+2) (ae 105 [.f 57 [] [.p (c+1) 0]])):=(((Gr.refl ok).set c _ (aj _) (ay _) (aJ _)).set (c+1) _ (by omega) (show c+1<c+2 by omega) (by omega)).set (c+2) _ (by omega) (by omega) (by omega)
 have k0:load1 F (((M.set c (ae 25 [vl])).set (c+1) (ae 69 [.l0])).set (c+2) (ae 105 [.f 57 [] [.p (c+1) 0]])) c 0=some vl:=au (ty:=25) (l:=[vl]) (by rw[ak _ _ (by omega),ak _ _ (by omega),am]) 0
 have hW0:pN M c (((M.set c (ae 25 [vl])).set (c+1) (ae 69 [.l0])).set (c+2) (ae 105 [.f 57 [] [.p (c+1) 0]])) (c+3) []:=⟨g3,aj _,⟨.l0,0,by rw[ak _ _ (by omega),am],aX.nil⟩,am _ _ _⟩
 have hfn:∀a b c,flatten (V.f a b c)=[V.f a b c]:=fun _ _ _=>rfl
 simp only[WX,Nat.reduceAdd,zu,hG,y3,sn,hfn,k0,n1,aB]
 generalize((M.set c (ae 25 [vl])).set (c+1) (ae 69 [.l0])).set (c+2) (ae 105 [.f 57 [] [.p (c+1) 0]])=X at g3 hW0⊢
 clear k0 sn
 obtain⟨I,hI⟩:∃I:Nat→St→Prop,∀n s',I n s'↔(∃(i c1:Nat) (M1:Mem) (cur:List (List UInt8)) (u:List (Option V)),n=l.length-i∧i≤l.length∧s'= .mk ((bQ0 u (.p c 0) (.p (c+1) 0) (.p (c+2) 0) (.f 58 [] [.p (c+2) 0]) vl (.i .i64 (l.length:Int)) (.i .i64 (i:Int)))) [] M1 c1∧pN M c M1 c1 cur∧cur++qP (l.drop i)=qP l):=⟨fun n s'=>_,fun _ _=>Iff.rfl⟩
 refine bw I ?_ l.length _ ((hI _ _).2 ⟨0,_,_,_,(X1 (G1 (X1 (G2 (G1 (X4 (X2 (X1 (G2 (G1 (bf (bA (X8 (X4 (X2 (X1 [])))))))))))))))),rfl,aD _,rfl,hW0,rfl⟩)
 intro n s' hIs
 obtain⟨i,c1,M1,cur,u,rfl,hi,rfl,hW,he⟩:=(hI _ _).1 hIs
 clear hIs
 by_cases hlt:i<l.length
 ·have q8:cB .add (.i .i64 (i:Int)) (.i .i64 1)=some (.i .i64 ((i+1:Nat):Int)):=by rw[be _ _ (by omega) (by omega)];simp
  have d1:decide ((i:Int)<(l.length:Int))=true:=ah (by omega);obtain⟨b,o,e,hbx,ia,ld0,el,hp⟩:=hl.at (by decide) i hlt;have ia:=ia .i64;have ld:loadN F M1 b o 6=some e:=(hW.gr.loadN hbx _ _).trans ld0;have hd:l.drop i=l[i]::l.drop (i+1):=bS hlt;rw[hd,qP]at he;obtain⟨hj0,hj3⟩:=hj l[i] (List.getElem_mem _);obtain⟨hsi,hso,hsc,_,_⟩:=hS l[i] (List.getElem_mem _);generalize l[i]=p at hp he hj0 hj3 hsi hso hsc;generalize hR:qP (l.drop (i+1))=R at he;unfold Ta at he;obtain⟨A,hA⟩:∃A,(if 0<p.join then[BC p.join.toNat]else[])=A:=⟨_,rfl⟩
  obtain⟨B,hB⟩:∃B,(if p.nt=true then[[(33:UInt8)]]else[])=B:=⟨_,rfl⟩
  rw[hA,hB]at he;obtain⟨vi,vo,vc,rfl,a1,a2,a3⟩:=hp;have he2:cur++(A++(B++(jp p.inp 0 p.cmds++(m8 p.beh p.out++R))))=qP l:=by rw[←he];simp only[aT]
  have hzA:dL (cur++A)≤1000000:=kJ (b:=B++(jp p.inp 0 p.cmds++(m8 p.beh p.out++R))) (by rw[aT,he2];exact hz);have hzB:dL (cur++A++B)≤1000000:=kJ (b:=jp p.inp 0 p.cmds++(m8 p.beh p.out++R)) (by rw[aT,aT,he2];exact hz);have hzC:dL (cur++A++B++jp p.inp 0 p.cmds)≤1000000:=kJ (b:=m8 p.beh p.out++R) (by rw[aT,aT,aT,he2];exact hz);have hzD:dL (cur++A++B++jp p.inp 0 p.cmds++m8 p.beh p.out)≤1000000:=kJ (b:=R) (by rw[aT,aT,aT,aT,he2];exact hz);obtain⟨p1,p2,p3⟩:=a1.one;obtain⟨o1,o2,o3⟩:=a2.one;obtain⟨r1,r2,r3⟩:=a3.one;have hG6:flatten (V.g [.i .i64 p.join,.b p.nt,vi,vo,.b p.beh,vc])=[.i .i64 p.join,.b p.nt,vi,vo,.b p.beh,vc]:=rfl;have hA6:aK [.i .i64 p.join,.b p.nt,vi,vo,.b p.beh,vc]=true:=by
   rw[av,av,av,av,av,av,bO,p1,o1,r1];rfl
  have ok1:=hW.gr.ok ok;have sn:bR (M1.set c1 (ae 39 [.i .i64 0,.b false,.l0,.l0,.b false,.l0])) c1 0 [.i .i64 p.join,.b p.nt,vi,vo,.b p.beh,vc]=some (M1.set c1 (ae 39 [.i .i64 p.join,.b p.nt,vi,vo,.b p.beh,vc])):=dI rfl hA6;have gY:=(Gr.refl ok1).set c1 (ae 39 [.i .i64 p.join,.b p.nt,vi,vo,.b p.beh,vc]) (aj _) (ay _) (aJ _);have my:(M1.set c1 (ae 39 [.i .i64 p.join,.b p.nt,vi,vo,.b p.beh,vc])).get c1=some (ae 39 [.i .i64 p.join,.b p.nt,vi,vo,.b p.beh,vc]):=am _ _ _;have hWY:=hW.grow gY;generalize M1.set c1 (ae 39 [.i .i64 p.join,.b p.nt,vi,vo,.b p.beh,vc])=Y at sn gY my hWY;have hc1:=hW.hc;simp only[WX,Nat.reduceAdd,aK1,aK2,UT,UU,d1,ia,ld,hG6,Bool.and_self,sn];refine ci2 Φ h33 h57 ok hWY my (by omega) (ay _) hj0 hj3 (by rw[hA];exact hzA) (X1 (G1 (X1 (G2 (G1 (X1 (G1 (X4 (X1 (G2 (G1 (bf (bA (X8 (X4 (X2 (X1 []))))))))))))))))) _ ?_;intro u M2 c2 hW2 K2;rw[hA]at hW2;have m2:=K2.2 c1 39 _ (ay _) (by omega) (by omega) my;have hle2:=K2.1;simp only[WX];refine ci3 Φ h57 ok hW2 m2 (by rw[hB];exact hzB) (X1 (G1 (X1 (G2 (G1 (X1 (G1 (X4 (X1 (G2 (G1 (bf (bA (X8 (X4 (X2 (X1 []))))))))))))))))) _ ?_;intro u M3 c3 hW3 K3;rw[hB]at hW3;have m3:=K3.2 c1 39 _ (by omega) (by omega) (by omega) m2;have hle3:=K3.1;have k5:load1 F M3 c1 5=some vc:=au m3 5;have nc:=a3.len;simp only[WX,UH,UR,k5,nc];refine m39 Φ h57 h58 h59 h77 h52 h54 h71 ok hW3 m3 (by omega) (by omega) a1 hsi a3 hsc hzC (X1 (G1 (X1 (G2 (G1 (X1 (G1 (X4 (X1 (G2 (G1 (br (X2 (X1 (G2 (G1 (bf (br (X8 (X1 [])))))))))))))))))))) _ ?_;intro u M4 c4 hW4 K4;have m4:=K4.2 c1 39 _ (by omega) (by omega) (by omega) m3;have hle4:=K4.1;simp only[WX,Nat.reduceEqDiff,reduceCtorEq,US,UV];refine ci4 Φ h57 h59 h77 h52 h54 h71 ok hW4 m4 (by omega) (by omega) a2 hso hzD (X1 (G1 (X1 (G2 (G1 (X1 (G1 (X4 (X1 (G2 (G1 (bf (bA (X8 (X4 (X2 (X1 []))))))))))))))))) _ ?_;intro u M5 c5 hW5;simp only[WX,zu,q8];exact⟨l.length-(i+1),by omega,(hI _ _).2 ⟨i+1,_,_,_,(X1 (G1 (X1 (G2 (G1 (X4 (X2 (X1 (G2 (G1 (bf (bA (X8 (X4 (X2 (X1 [])))))))))))))))),rfl,hlt,rfl,hW5,by rw[hR,←he2];simp only[aT]⟩⟩
 ·obtain rfl:i=l.length:=by omega
  have d1:decide ((l.length:Int)<(l.length:Int))=false:=af (by omega);rw[cj,qP,bH]at he;subst he;obtain⟨gr,hc,⟨v,b,h1,h2⟩,m2⟩:=hW;have l1:load1 F M1 (c+1) 0=some v:=au h1 0;simp only[WX,zu,d1,l1];have e32:V.s 1 32=sV [32]:=rfl;rw[e32];refine az ((r60 Φ h60 h79 h52 h54 h71 h89 (gr.ok ok) h2.sl hz (by decide) (by decide)).mono ?_);rintro r M2 c2 ⟨rfl,g2⟩;simp only[WX];exact gr.trans g2
abbrev U5(u:List (Option V))(x1 x3 x4 x5 x6:V):T:=(.n (.n (.n (.n (aq u 63 31 95 15 79 47 111) (uO u 7) (aq u 71 39 103 23 87 55 119)) (some x3) (.n (aq u 67 35 99 19 83 51 115) (uO u 11) (aq u 75 43 107 27 91 59 123))) (some x1) (.n (.n (aq u 65 33 97 17 81 49 113) (uO u 9) (aq u 73 41 105 25 89 57 121)) (some x5) (.n (aq u 69 37 101 21 85 53 117) (uO u 13) (aq u 77 45 109 29 93 61 125)))) (uO u 0) (.n (.n (.n (aq u 64 32 96 16 80 48 112) (uO u 8) (aq u 72 40 104 24 88 56 120)) (some x4) (.n (aq u 68 36 100 20 84 52 116) (uO u 12) (aq u 76 44 108 28 92 60 124))) (uO u 2) (.n (.n (aq u 66 34 98 18 82 50 114) (uO u 10) (aq u 74 42 106 26 90 58 122)) (some x6) (.n (aq u 70 38 102 22 86 54 118) (uO u 14) (aq u 78 46 110 30 94 62 126)))))
abbrev Gl(u:List (Option V))(x1 x3 x4 x5 x6 x7:V):T:=(.n (.n (.n (.n (aq u 63 31 95 15 79 47 111) (some x7) (aq u 71 39 103 23 87 55 119)) (some x3) (.n (aq u 67 35 99 19 83 51 115) (uO u 11) (aq u 75 43 107 27 91 59 123))) (some x1) (.n (.n (aq u 65 33 97 17 81 49 113) (uO u 9) (aq u 73 41 105 25 89 57 121)) (some x5) (.n (aq u 69 37 101 21 85 53 117) (uO u 13) (aq u 77 45 109 29 93 61 125)))) (uO u 0) (.n (.n (.n (aq u 64 32 96 16 80 48 112) (uO u 8) (aq u 72 40 104 24 88 56 120)) (some x4) (.n (aq u 68 36 100 20 84 52 116) (uO u 12) (aq u 76 44 108 28 92 60 124))) (uO u 2) (.n (.n (aq u 66 34 98 18 82 50 114) (uO u 10) (aq u 74 42 106 26 90 58 122)) (some x6) (.n (aq u 70 38 102 22 86 54 118) (uO u 14) (aq u 78 46 110 30 94 62 126)))))
def ZE:CC:=(.reg [(aa a1 (.bx 25 1 z0)),(qq a2 (.mv (.c (.s 0 0))))])
def bU1:=wu ZE.eq_1
def ZF:CC:=(.reg [(qq a3 (.mv (.c (.s 0 0))))])
def bU2:=wu ZF.eq_1
def ZG:CC:=(.reg [(qq a4 (.mv (x6 0)))])
def bU3:=wu ZG.eq_1
def ZH:CC:=(.reg [(qq a9 (.mv z4)),(qq dJ (.fa 0 z1)),(qq ey (.ld1 eK)),(qq eU (.ln .slice dE)),(qq eC (.bi .lss z9 ei))])
def aJ9:=wu ZH.eq_1
def ZI:CC:=(.reg [(qq eX (.fa 0 z1)),(qq gC (.ld1 gM)),(qq fK (.mv z4)),(qq i5 (.iaS 6 gS hU)),(qq gh (.ldn 6 jz)),(aa a5 (.al 39 [(.i .i64 0),(.b false),.l0,.l0,(.b false),.l0])),(ez (.st 6 z5 k7))])
def aK0:=wu ZI.eq_1
def ZJ:CC:=(.reg [(qq fE (.mv z4)),(qq j9 (.bi .gtr ju (x6 0)))])
def bU4:=wu ZJ.eq_1
def ZK:CC:=(.reg [(qq gO (.mv z3)),(aa jn (.bsl 9 4 1 [(.s 0 0)] [(0,(.c (.s 0 0))),(1,(.c (.s 3 2112288))),(2,(.c (.s 4 539371040))),(3,(.c (.s 4 545029152)))])),(qq gP (.fa 0 z5)),(qq ja (.ld1 kM)),(qq gQ (.iaS 1 jA lw)),(qq kQ (.ld1 lB)),(qq gU (.bi .add k8 mH)),(qq a3 (.mv mI))])
def bU5:=wu ZK.eq_1
def Mw:CC:=(.seq ZJ (.cond kL ZK .skip))
def bU6:=wu Mw.eq_1
def ZL:CC:=(.reg [(qq jv (.fa 1 z5)),(qq jC (.ld1 nv))])
def UG:=wu ZL.eq_1
def LN:CC:=(.reg [(qq lz (.mv z3)),(qq lE (.bi .add oC (.c (.s 2 8225)))),(qq a3 (.mv pQ))])
def UC:=wu LN.eq_1
def LP:CC:=(.seq ZL (.cond ny LN .skip))
def Ey:=wu LP.eq_1
def LQ:CC:=(.reg [(qq a6 (.mv (x6 0)))])
def bb1:=wu LQ.eq_1
def LT:CC:=(.reg [(qq jx (.mv z6)),(qq iK (.fa 5 z5)),(qq mK (.ld1 pM)),(qq ka (.ln .slice pS)),(qq mL (.bi .lss pR oF))])
def Ez:=wu LT.eq_1
def LU:CC:=(.seq LT (.cond qS .skip (.exit 2)))
def EA:=wu LU.eq_1
def LV:CC:=(.reg [(qq jb (.mv z6)),(qq kR (.bi .gtr pT (x6 0)))])
def EB:=wu LV.eq_1
def LW:CC:=(.reg [(qq oK (.mv z3)),(qq lF (.bi .add rL (.c (.s 3 2128928)))),(qq a3 (.mv qU))])
def UD:=wu LW.eq_1
def LX:CC:=(.seq LV (.cond rK LW .skip))
def EC:=wu LX.eq_1
def LY:CC:=(.reg [(qq a7 (.mv (x6 0)))])
def ED:=wu LY.eq_1
def LZ:CC:=(.reg [(qq oL (.mv z7)),(qq ll (.fa 5 z5)),(qq oM (.ld1 sO)),(qq kb (.mv z6)),(qq lG (.iaS 1 rN sq)),(qq qZ (.fa 0 uN)),(qq r0 (.ld1 uZ)),(qq mM (.ln .slice uP)),(qq sv (.bi .lss rM v7))])
def bb4:=wu LZ.eq_1
def Mc:CC:=(.seq LZ (.cond vD .skip (.exit 4)))
def bb7:=wu Mc.eq_1
def Md:CC:=(.reg [(qq sZ (.mv z7)),(qq vN (.bi .gtr vE (x6 0)))])
def bb8:=wu Md.eq_1
def Me:CC:=(.reg [(qq vO (.mv z3)),(qq sw (.bi .add Bg (.c (.s 1 32)))),(qq a3 (.mv Bh))])
def bb9:=wu Me.eq_1
def Mf:CC:=(.seq Md (.cond BH Me .skip))
def bc0:=wu Mf.eq_1
def Mg:CC:=(.reg [(qq vP (.mv z3)),(qq sy (.fa 5 z5)),(qq vQ (.ld1 BI)),(qq nA (.mv z6)),(qq vR (.iaS 1 Bj zk)),(qq ve (.fa 0 BJ)),(qq oN (.ld1 zb)),(qq rS (.mv z7)),(qq vf (.iaS 1 zl vF)),(qq uT (.ldn 1 zd)),(ee uU (.call 42 [ze])),(qq oD (.bi .add Bi zm)),(qq a3 (.mv zf))])
def bc1:=wu Mg.eq_1
def Mh:CC:=(.reg [(qq uS (.mv z7)),(qq pO (.bi .add wW (x6 1))),(qq a7 (.mv za))])
def bc2:=wu Mh.eq_1
def xH:CC:=(.loop (.seq Mc (.seq (.block 5 (.seq Mf Mg)) Mh)))
def bc3:=wu xH.eq_1
def Mi:CC:=(.reg [(qq uV (.mv z6)),(qq fF (.bi .eql zn (x6 0))),(qq pP (.mv ss)),(aE vg (.fa 2 z5) pP),(aE r4 (.fa 0 zq) pP),(aE vT (.ld1 zr) pP),(aE vU (.ln .slice Bm) pP),(aE vV (.bi .gtr Bn (x6 0)) pP),(qq uW (.pk zo Bo xF))])
def bc4:=wu Mi.eq_1
def Mj:CC:=(.reg [(qq xe (.mv z3)),(qq oO (.bi .add BL (.c (.s 3 2112544)))),(qq t0 (.fa 2 z5)),(qq zB (.ldn 1 BN)),(ee vW (.call 42 [BO])),(qq Bv (.bi .add BM ES)),(qq a3 (.mv GH))])
def bc5:=wu Mj.eq_1
def Cn:CC:=(.seq Mi (.cond BK Mj .skip))
def bc6:=wu Cn.eq_1
def Mk:CC:=(.block 3 (.seq LX (.seq (.seq LY (.block 4 xH)) Cn)))
def EE:=wu Mk.eq_1
def Co:CC:=(.reg [(qq lA (.mv z6)),(qq nj (.bi .add qT (x6 1))),(qq a6 (.mv rJ))])
def bc7:=wu Co.eq_1
def xI:CC:=(.seq LQ (.block 2 (.loop (.seq LU (.seq Mk Co)))))
def bc8:=wu xI.eq_1
def xJ:CC:=(.reg [(qq Bw (.fa 3 z5)),(qq rT (.fa 0 ET)),(qq Bx (.ld1 EU)),(qq BU (.ln .slice EV)),(qq BV (.bi .gtr GI (x6 0)))])
def bc9:=wu xJ.eq_1
def Ml:CC:=(.reg [(qq a8 (.mv (.c (.s 3 2113056))))])
def bd0:=wu Ml.eq_1
def Mn:CC:=(.reg [(qq BW (.fa 4 z5)),(qq BX (.ld1 GJ))])
def bd1:=wu Mn.eq_1
def Mo:CC:=(.reg [(qq a8 (.mv (.c (.s 4 540950048))))])
def bd2:=wu Mo.eq_1
def Mp:CC:=(.seq Mn (.cond GK Mo .skip))
def bd3:=wu Mp.eq_1
def Mq:CC:=(.reg [(qq BZ (.mv z3)),(qq Bz (.mv z8)),(qq xf (.bi .add GL Ja)),(qq H5 (.fa 3 z5)),(qq H6 (.ldn 1 Jc)),(ee H7 (.call 42 [Jd])),(qq oJ (.bi .add Jb Je)),(qq a3 (.mv qR))])
def bd4:=wu Mq.eq_1
def xK:CC:=(.cond EW (.seq Ml (.seq Mp Mq)) .skip)
def bd5:=wu xK.eq_1
def Mt:CC:=(.seq Mw (.seq LP (.seq xI (.seq xJ xK))))
def UE:=wu Mt.eq_1
def Cp:CC:=(.reg [(qq dR (.mv z4)),(qq dA (.bi .add fG (x6 1))),(qq a4 (.mv gf))])
def bd6:=wu Cp.eq_1
def Mu:CC:=(.seq (.seq ZH (.cond eb .skip (.exit 0))) (.seq (.block 1 (.seq ZI Mt)) Cp))
def UF:=wu Mu.eq_1
def Cq:CC:=(.reg [(qq ie (.mv z3)),(qq a2 (.mv yZ))])
def bd7:=wu Cq.eq_1
def Mv:CC:=(.seq (.seq ZG (.block 0 (.loop Mu))) (.seq Cq .ret))
def bd8:=wu Mv.eq_1
def c19:CF:= .mk 7 [.t a2] (.seq ZE (.seq ZF Mv))
theorem e19(v0:V):bz 7 [v0]=(.n uY (some v0) uY):=rfl
def vG:=ai @e19 (ai @bU1 (ai @bU2 (ai @bU3 (ai @aJ9 (ai @aK0 (ai @bU4 (ai @bU5 (ai @bU6 (ai @UG (ai @UC (ai @Ey (ai @bb1 (ai @Ez (ai @EA (ai @EB (ai @UD (ai @EC (ai @ED (ai @bb4 (ai @bb7 (ai @bb8 (ai @bb9 (ai @bc0 (ai @bc1 (ai @bc2 (ai @bc3 (ai @bc4 (ai @bc5 (ai @bc6 (ai @EE (ai @bc7 (ai @bc8 (ai @bc9 (ai @bd0 (ai @bd1 (ai @bd2 (ai @bd3 (ai @bd4 (ai @bd5 (ai @UE (ai @bd6 (ai @UF (ai @bd7 (@bd8))))))))))))))))))))))))))))))))))))))))))))
def gL:Nat→eB→List UInt8
 |_,[]=>[]
 |m,w::r=>(if 0<m then[32]else[])++(d6 w++gL (m+1) r)
def inR(k:Nat)(inp:List Pc):List UInt8:=if(decide (k=0)&&hasW inp)=true then[32,60,32]++d6 inp else[]
def jF(inp:List Pc):Nat→List eB→List UInt8
 |_,[]=>[]
 |k,c::r=>(if 0<k then[32,124,32]else[])++(gL 0 c++(inR k inp++jF inp (k+1) r))
def nq(beh:Bool)(out:List Pc):List UInt8:=if hasW out=true then(if beh=true then[32,62,62,32]else[32,62,32])++d6 out else[]
def Du:Nat→List UInt8
 |1=>[32,59,32]
 |2=>[32,38,38,32]
 |3=>[32,124,124,32]
 |_=>[]
def so:Nat→List fD→List UInt8
 |_,[]=>[]
 |i,p::r=>(if 0<i then Du p.join.toNat else[])++((if p.nt=true then[33,32]else[])++(jF p.inp 0 p.cmds++(nq p.beh p.out++so (i+1) r)))
theorem fk{a b:List UInt8}{n:Nat}(h:(a++b).length≤n):a.length≤n:=by rw[aH]at h;omega
theorem iN{a b:List UInt8}(h:(a++b).length≤1000000):cB .add (sV a) (sV b)=some (sV (a++b)):=fj a b (by rw[aH]at h;omega)
theorem l19(Φ:Nat→Option CF)(h42:Φ 42=some RI)(h68:Φ 68=some (.orc (aG h75))){F:RO}{M:Mem}{c c2 pb i k b o:Nat}{cur:List UInt8}{vc x:V}{l:eB}(ok:cR F M c2)(hp2:pb<c2)(A5:load1 F M pb 5=some vc)(ia:eV 1 vc (.i .i64 (k:Int))=some (.p b o))(hb:b<c2)(ld:load1 F M b o=some x)(hl:fo F M c2 x l)(hs:Ji l)(hz:(cur++gL 0 l).length≤1000000)(u:List (Option V))(Q:Ex→St→Prop)
 (hQ:∀(u:List (Option V)) M' c',Gr c2 M c' M'→Q (.ext 4) (.mk ((U5 u (.p c 0) (sV (cur++gL 0 l)) (.i .i64 (i:Int)) (.p pb 0) (.i .i64 (k:Int)))) [] M' c')):
 Wp xH (K Φ none 19 F) (.mk ((Gl u (.p c 0) (sV (cur)) (.i .i64 (i:Int)) (.p pb 0) (.i .i64 (k:Int)) (.i .i64 0))) [] M c2) Q:=by
 have n1:=hl.len
 have mx:=hl.max
 simp only[vG]
 obtain⟨I,hI⟩:∃I:Nat→St→Prop,∀n s',I n s'↔(∃(m c3:Nat) (M3:Mem) (cu:List UInt8) (u:List (Option V)),n=l.length-m∧m≤l.length∧s'= .mk ((Gl u (.p c 0) (sV (cu)) (.i .i64 (i:Int)) (.p pb 0) (.i .i64 (k:Int)) (.i .i64 (m:Int)))) [] M3 c3∧Gr c2 M c3 M3∧cu++gL m (l.drop m)=cur++gL 0 l):=⟨fun n s'=>_,fun _ _=>Iff.rfl⟩
 refine bw I ?_ l.length _ ((hI _ _).2 ⟨0,_,_,_,(X1 (G1 (X1 (G4 (G1 (bf (bA (br (X4 (X2 (X1 []))))))))))),rfl,aD _,rfl,Gr.refl ok,rfl⟩)
 intro n s' hIs
 obtain⟨m,c3,M3,cu,u,rfl,hm,rfl,gr,he⟩:=(hI _ _).1 hIs
 clear hIs
 have B5:load1 F M3 pb 5=some vc:=(gr.load1 hp2 _).trans A5
 have Bl:load1 F M3 b o=some x:=(gr.load1 hb _).trans ld
 by_cases hlt:m<l.length
 ·have q8:cB .add (.i .i64 (m:Int)) (.i .i64 1)=some (.i .i64 ((m+1:Nat):Int)):=by rw[be _ _ (by omega) (by omega)];simp
  have d1:decide ((m:Int)<(l.length:Int))=true:=ah (by omega);obtain⟨b',o',y,hbx,iy,_,ldy,hw0⟩:=cQ.at1 (hl.grow gr) m hlt;have iy:=iy .i64;have hw:dQ F M3 c3 y l[m]:=hw0;have hd:l.drop m=l[m]::l.drop (m+1):=bS hlt;rw[hd,gL]at he;have hsm:=hs l[m] (List.getElem_mem _);generalize l[m]=w at hw hsm he;generalize hR:gL (m+1) (l.drop (m+1))=R at he;obtain⟨A,hA⟩:∃A,(if 0<m then[(32:UInt8)]else[])=A:=⟨_,rfl⟩
  rw[hA]at he;have hzA:(cu++A).length≤1000000:=fk (b:=d6 w++R) (by rw[aT,he];exact hz);have hzB:(cu++A++d6 w).length≤1000000:=fk (b:=R) (by rw[aT,aT,he];exact hz);have hwl:(d6 w).length≤1000000:=by rw[aH]at hzB;omega
  have NXT:∀(u:List (Option V)) M' c',Gr c3 M3 c' M'→I (l.length-(m+1)) (.mk ((Gl u (.p c 0) (sV (cu++A++d6 w)) (.i .i64 (i:Int)) (.p pb 0) (.i .i64 (k:Int)) (.i .i64 ((m+1:Nat):Int)))) [] M' c'):=fun u M' c' g=>(hI _ _).2 ⟨m+1,_,_,_,(X1 (G1 (X1 (G4 (G1 (bf (bA (br (X4 (X2 (X1 []))))))))))),rfl,hlt,rfl,gr.trans g,by rw[hR,←he];simp only[aT]⟩;have q2:=iN hzB;by_cases hm0:0<m
  ·have d0:decide ((0:Int)<(m:Int))=true:=ah (by omega);rw[ac hm0]at hA;subst hA;have q1:cB .add (sV cu) (.s 1 32)=some (sV (cu++[32])):=iN hzA;simp only[WX,vG,B5,ia,Bl,n1,d1,d0,iy,ldy,q1,aB];refine az ((w42 Φ h42 h68 (gr.ok ok) hw hsm hwl).mono ?_);rintro r M4 c4 ⟨rfl,g4⟩;simp only[WX,vG,q2,q8];exact⟨l.length-(m+1),by omega,NXT (X1 (G1 (X1 (G4 (G1 (bf (bA (br (X4 (X2 (X1 []))))))))))) _ _ g4⟩
  ·have d0:decide ((0:Int)<(m:Int))=false:=af (by omega);rw[ab hm0]at hA;subst hA;rw[bH]at q2 NXT;simp only[WX,vG,B5,ia,Bl,n1,d1,d0,iy,ldy,aB];refine az ((w42 Φ h42 h68 (gr.ok ok) hw hsm hwl).mono ?_);rintro r M4 c4 ⟨rfl,g4⟩;simp only[WX,vG,q2,q8];exact⟨l.length-(m+1),by omega,NXT (X1 (G1 (X1 (G4 (G1 (bf (bA (br (X4 (X2 (X1 []))))))))))) _ _ g4⟩
 ·obtain rfl:m=l.length:=by omega
  have d1:decide ((l.length:Int)<(l.length:Int))=false:=af (by omega);rw[cj,gL,bH]at he;subst he;simp only[WX,vG,B5,ia,Bl,n1,d1,aB];exact hQ (X1 (G1 (X1 (G4 (bf (bA (br (X8 [])))))))) _ _ gr
theorem m19(Φ:Nat→Option CF)(h42:Φ 42=some RI)(h68:Φ 68=some (.orc (aG h75))){F:RO}{M:Mem}{c c2 pb i:Nat}{cur:List UInt8}{vi vc:V}{wi:List Pc}{cs:List eB}(ok:cR F M c2)(hp2:pb<c2)(A2:load1 F M pb 2=some vi)(A5:load1 F M pb 5=some vc)(L2:loadN F M pb 2 1=some [vi])(hw:dQ F M c2 vi wi)(hsi:∀q∈wi,q.1.length≤1000000)(hc:lh F M c2 vc cs)(hsc:∀x∈cs,Ji x)(hz:(cur++jF wi 0 cs).length≤1000000)(u:List (Option V))(Q:Ex→St→Prop)
 (hQ:∀(u:List (Option V)) M' c',Gr c2 M c' M'→Q .nrm (.mk ((nN u (.p c 0) (sV (cur++jF wi 0 cs)) (.i .i64 (i:Int)) (.p pb 0))) [] M' c')):
 Wp xI (K Φ none 19 F) (.mk ((nN u (.p c 0) (sV cur) (.i .i64 (i:Int)) (.p pb 0))) [] M c2) Q:=by
 have n1:=hc.len
 have mx:=hc.max
 have ni:=hw.len
 have di:=rc wi
 simp only[WX,vG]
 obtain⟨I,hI⟩:∃I:Nat→St→Prop,∀n s',I n s'↔(∃(k c3:Nat) (M3:Mem) (cu:List UInt8) (u:List (Option V)),n=cs.length-k∧k≤cs.length∧s'= .mk ((U5 u (.p c 0) (sV (cu)) (.i .i64 (i:Int)) (.p pb 0) (.i .i64 (k:Int)))) [] M3 c3∧Gr c2 M c3 M3∧cu++jF wi k (cs.drop k)=cur++jF wi 0 cs):=⟨fun n s'=>_,fun _ _=>Iff.rfl⟩
 refine bw I ?_ cs.length _ ((hI _ _).2 ⟨0,_,_,_,(X1 (G1 (X1 (G4 (bf (bA (br (X8 [])))))))),rfl,aD _,rfl,Gr.refl ok,rfl⟩)
 intro n s' hIs
 obtain⟨k,c3,M3,cu,u,rfl,hk,rfl,gr,he⟩:=(hI _ _).1 hIs
 clear hIs
 have B5:load1 F M3 pb 5=some vc:=(gr.load1 hp2 _).trans A5
 by_cases hlt:k<cs.length
 ·have q8:cB .add (.i .i64 (k:Int)) (.i .i64 1)=some (.i .i64 ((k+1:Nat):Int)):=by rw[be _ _ (by omega) (by omega)];simp
  have d1:decide ((k:Int)<(cs.length:Int))=true:=ah (by omega);obtain⟨b,o,x,hbx,ia,ld,_,hw0⟩:=cQ.at1 (hc.grow gr) k hlt;have ia:=ia .i64;have hw1:fo F M3 c3 x cs[k]:=hw0;have hd:cs.drop k=cs[k]::cs.drop (k+1):=bS hlt;rw[hd,jF]at he;have hsk:=hsc cs[k] (List.getElem_mem _);generalize cs[k]=w at hw1 hsk he;generalize hR:jF wi (k+1) (cs.drop (k+1))=R at he;obtain⟨A,hA⟩:∃A,(if 0<k then[(32:UInt8),124,32]else[])=A:=⟨_,rfl⟩
  obtain⟨C,hC⟩:∃C,inR k wi=C:=⟨_,rfl⟩
  rw[hA,hC]at he;unfold inR at hC;have hzA:(cu++A).length≤1000000:=fk (b:=gL 0 w++(C++R)) (by rw[aT,he];exact hz);have hzB:(cu++A++gL 0 w).length≤1000000:=fk (b:=C++R) (by rw[aT,aT,he];exact hz);have hzC:(cu++A++gL 0 w++C).length≤1000000:=fk (b:=R) (by rw[aT,aT,aT,he];exact hz);have NXT:∀(u:List (Option V)) M' c',Gr c3 M3 c' M'→I (cs.length-(k+1)) (.mk ((U5 u (.p c 0) (sV (cu++A++gL 0 w++C)) (.i .i64 (i:Int)) (.p pb 0) (.i .i64 ((k+1:Nat):Int)))) [] M' c'):=fun u M' c' g=>(hI _ _).2 ⟨k+1,_,_,_,(X1 (G1 (X1 (G4 (bf (bA (br (X8 [])))))))),rfl,hlt,rfl,gr.trans g,by rw[hR,←he];simp only[aT]⟩;have qo:=gr.ok ok;have hle3:=gr.le;have MID:∀u:List (Option V),Wp xH (K Φ none 19 F) (.mk ((Gl u (.p c 0) (sV (cu++A)) (.i .i64 (i:Int)) (.p pb 0) (.i .i64 (k:Int)) (.i .i64 0))) [] M3 c3) (d8 4 (eg Cn (K Φ none 19 F) (d8 3 (eg Co (K Φ none 19 F) (gW I (cs.length-k) (d8 2 Q)))))):=by
   intro u;refine l19 Φ h42 h68 qo (by omega) B5 ia hbx ld hw1 hsk hzB u _ ?_;intro u M4 c4 g4;have G:=gr.trans g4;have ok4:=G.ok ok;have C2:load1 F M4 pb 2=some vi:=(G.load1 hp2 _).trans A2;have D2:loadN F M4 pb 2 1=some [vi]:=(G.loadN hp2 _ _).trans L2;by_cases hk0:k=0
   ·have d0:decide ((k:Int)=0)=true:=ah (by omega);rw[ah hk0,Bool.true_and]at hC;cases hI0:hasW wi with
    |true=>
     rw[hI0]at di;rw[ac hI0]at hC;subst hC;have hwl:(d6 wi).length≤1000000:=by simp only[aH]at hzC;omega
     have q1:cB .add (sV (cu++A++gL 0 w)) (.s 3 2112544)=some (sV (cu++A++gL 0 w++[32,60,32])):=iN (fk (b:=d6 wi) (by rw[aT];exact hzC));have q2:cB .add (sV (cu++A++gL 0 w++[32,60,32])) (sV (d6 wi))=some (sV (cu++A++gL 0 w++[32,60,32]++d6 wi)):=iN (by rw[aT];exact hzC);rw[←aT]at NXT;simp only[WX,Nat.reduceEqDiff,vG,d0,C2,D2,ni,di,q1,aB];refine az ((w42 Φ h42 h68 ok4 (hw.grow G) hsi hwl).mono ?_);rintro r M5 c5 ⟨rfl,g5⟩;simp only[WX,vG,q2,q8];exact⟨cs.length-(k+1),by omega,NXT (X1 (G1 (X1 (G4 (bf (bA (br (X8 [])))))))) _ _ (g4.trans g5)⟩
    |false=>
     rw[hI0]at di;rw[ab (by rw[hI0];simp)]at hC;subst hC;rw[bH]at NXT;simp only[WX,Nat.reduceEqDiff,vG,d0,C2,ni,di,q8,aB];exact⟨cs.length-(k+1),by omega,NXT (X1 (G1 (X1 (G4 (bf (bA (br (X8 [])))))))) _ _ g4⟩
   ·have d0:decide ((k:Int)=0)=false:=af (by omega);rw[af hk0,Bool.false_and,ab (by simp)]at hC;subst hC;rw[bH]at NXT;simp only[WX,Nat.reduceEqDiff,vG,d0,q8];exact⟨cs.length-(k+1),by omega,NXT (X1 (G1 (X1 (G4 (bf (bA (br (X8 [])))))))) _ _ g4⟩
  by_cases hk0:0<k
  ·have d0:decide ((0:Int)<(k:Int))=true:=ah (by omega);rw[ac hk0]at hA;subst hA;have q1:cB .add (sV cu) (.s 3 2128928)=some (sV (cu++[32,124,32])):=iN hzA;simp only[WX,Ez,EA,EB,UD,EC,ED,EE,B5,n1,d1,d0,q1];exact MID (X1 (G1 (X1 (G4 (G1 (bf (bA (br (X4 (X2 (X1 [])))))))))))
  ·have d0:decide ((0:Int)<(k:Int))=false:=af (by omega);rw[ab hk0]at hA;subst hA;rw[bH]at MID;simp only[WX,Ez,EA,EB,EC,ED,EE,B5,n1,d1,d0];exact MID (X1 (G1 (X1 (G4 (G1 (bf (bA (br (X4 (X2 (X1 [])))))))))))
 ·obtain rfl:k=cs.length:=by omega
  have d1:decide ((cs.length:Int)<(cs.length:Int))=false:=af (by omega);rw[cj,jF,bH]at he;subst he;simp only[WX,vG,B5,n1,d1];exact hQ (X1 (G1 (X1 (G2 (G1 (bf (bA (br (X8 (X1 [])))))))))) _ _ gr
theorem ch4(Φ:Nat→Option CF)(h42:Φ 42=some RI)(h68:Φ 68=some (.orc (aG h75))){F:RO}{M:Mem}{c c2 pb i:Nat}{cur:List UInt8}{vo:V}{beh:Bool}{w:List Pc}(ok:cR F M c2)(A3:load1 F M pb 3=some vo)(A4:load1 F M pb 4=some (.b beh))(L3:loadN F M pb 3 1=some [vo])(hw:dQ F M c2 vo w)(hs:∀q∈w,q.1.length≤1000000)(hz:(cur++nq beh w).length≤1000000)(u:List (Option V))(Q:Ex→St→Prop)
 (hQ:∀(u:List (Option V)) M' c',Gr c2 M c' M'→Q .nrm (.mk ((nN u (.p c 0) (sV (cur++nq beh w)) (.i .i64 (i:Int)) (.p pb 0))) [] M' c')):
 Wp xJ (K Φ none 19 F) (.mk ((nN u (.p c 0) (sV cur) (.i .i64 (i:Int)) (.p pb 0))) [] M c2) (eg xK (K Φ none 19 F) Q):=by
 have no:=hw.len
 have do':=rc w
 unfold nq at hz hQ
 cases hO:hasW w with
 |true=>
  rw[hO]at do'
  rw[ac hO]at hz hQ;have hwl:(d6 w).length≤1000000:=by simp only[aH]at hz;omega
  cases beh with
  |true=>
   rw[ac rfl]at hz hQ;have q1:cB .add (sV cur) (.s 4 540950048)=some (sV (cur++[32,62,62,32])):=iN (fk (b:=d6 w) (by rw[aT];exact hz));have q2:cB .add (sV (cur++[32,62,62,32])) (sV (d6 w))=some (sV (cur++[32,62,62,32]++d6 w)):=iN (by rw[aT];exact hz);rw[←aT]at hQ;simp only[WX,vG,A3,A4,L3,no,do',q1,aB];refine az ((w42 Φ h42 h68 ok hw hs hwl).mono ?_);rintro r M5 c5 ⟨rfl,g5⟩;simp only[WX,q2];exact hQ (X1 (G1 (X1 (G2 (G1 (bf (bA (br (X8 (X1 [])))))))))) _ _ g5
  |false=>
   rw[ab (by simp)]at hz hQ;have q1:cB .add (sV cur) (.s 3 2113056)=some (sV (cur++[32,62,32])):=iN (fk (b:=d6 w) (by rw[aT];exact hz));have q2:cB .add (sV (cur++[32,62,32])) (sV (d6 w))=some (sV (cur++[32,62,32]++d6 w)):=iN (by rw[aT];exact hz);rw[←aT]at hQ;simp only[WX,vG,A3,A4,L3,no,do',q1,aB];refine az ((w42 Φ h42 h68 ok hw hs hwl).mono ?_);rintro r M5 c5 ⟨rfl,g5⟩;simp only[WX,q2];exact hQ (X1 (G1 (X1 (G2 (G1 (bf (bA (br (X8 (X1 [])))))))))) _ _ g5
 |false=>
  rw[hO]at do'
  rw[ab (by rw[hO];simp),bH]at hQ;simp only[WX,vG,A3,no,do',aB];exact hQ (X1 (G1 (X1 (G2 (G1 (bf (bA (br (X8 (X1 [])))))))))) _ _ (Gr.refl ok)
theorem ch3(Φ:Nat→Option CF){F:RO}{M:Mem}{c c2 pb i:Nat}{cur:List UInt8}{j:Int}{nt:Bool}(ok:cR F M c2)(hp2:pb<c2)(hi:i<9223372036854775807)(A0:load1 F M pb 0=some (.i .i64 j))(hj0:0≤j)(hj3:j≤3)(hz:(cur++(if 0<i then Du j.toNat else[])).length≤1000000)(u:List (Option V))(Q:Ex→St→Prop)
 (hQ:∀(u:List (Option V)) M' c',Gr c2 M c' M'→Q .nrm (.mk ((nN u (.p c 0) (sV (cur++(if 0<i then Du j.toNat else[]))) (.i .i64 (i:Int)) (.p pb 0))) [] M' c')):
 Wp Mw (K Φ none 19 F) (.mk ((nN u (.p c 0) (sV cur) (.i .i64 (i:Int)) (.p pb 0))) [] M c2) Q:=by
 by_cases hi0:0<i
 ·have d0:decide ((0:Int)<(i:Int))=true:=ah (by omega);rw[ac hi0]at hz hQ;have gZ:=(Gr.refl ok).set c2 (cL [V.s 0 0] 9 [V.s 0 0,V.s 3 2112288,V.s 4 539371040,V.s 4 545029152]) (aj _) (ay _) (aJ _);have hsl:=mq (F:=F) (c:=c2+1) [Du 0,Du 1,Du 2,Du 3] (am M c2 (cL [V.s 0 0] 9 [V.s 0 0,V.s 3 2112288,V.s 4 539371040,V.s 4 545029152])) (ay _);obtain⟨n,rfl⟩:∃n:Nat,j=(n:Int):=⟨j.toNat,by omega⟩
  obtain⟨b,o,hb,ia,ld⟩:=qL hsl n (by simp only[aA,aM];omega);have ia:eV 1 (.l c2 0 4 4) (.i .i64 (n:Int))=some (.p b o):=ia .i64
  have hjn:[Du 0,Du 1,Du 2,Du 3][n]'(by simp only[aA,aM];omega)=Du (n:Int).toNat:=by
   have:n=0∨n=1∨n=2∨n=3:=by omega
   rcases this with rfl|rfl|rfl|rfl<;>rfl
  rw[hjn]at ld;have A0':load1 F (M.set c2 (cL [V.s 0 0] 9 [V.s 0 0,V.s 3 2112288,V.s 4 539371040,V.s 4 545029152])) pb 0=some (.i .i64 (n:Int)):=(gZ.load1 hp2 _).trans A0;have q1:=iN hz;simp only[WX,Nat.reduceAdd,vG,d0,A0',ia,ld,q1];exact hQ (X1 (G1 (X1 (G2 (G1 (bf (bA (br (X8 (X1 [])))))))))) _ _ gZ
 ·have d0:decide ((0:Int)<(i:Int))=false:=af (by omega);rw[ab hi0,bH]at hQ;simp only[WX,vG,d0];exact hQ (X1 (G1 (X1 (G2 (G1 (bf (bA (br (X8 (X1 [])))))))))) _ _ (Gr.refl ok)
theorem w19(Φ:Nat→Option CF)(h:Φ 19=some c19)(h42:Φ 42=some RI)(h68:Φ 68=some (.orc (aG h75))){F:RO}{M:Mem}{c:Nat}(ok:cR F M c){vl:V}{l:List fD}(hl:nh F M c vl l)(hj:∀p∈l,0≤p.join∧p.join≤3)(hS:∀p∈l,GQ p)(hz:(so 0 l).length≤1000000):
 Calls Φ F 19 [.g [vl]] M c fun r M' c'=>r=sV (so 0 l)∧Gr c M c' M':=by
 refine aN h ?_
 obtain⟨y1,y2,y3⟩:=hl.one
 have hG:∀v,flatten (V.g [v])=[v]:=fun _=>rfl
 have n1:=hl.len
 have mx:=hl.max
 have gX:=(Gr.refl ok).set c (ae 25 [vl]) (aj _) (ay _) (aJ _)
 have m0:(M.set c (ae 25 [vl])).get c=some (ae 25 [vl]):=am _ _ _
 have hX:=hl.grow gX
 have e0:V.s 0 0=sV []:=rfl
 simp only[WX,vG,hG,y3]
 generalize M.set c (ae 25 [vl])=X at gX m0 hX⊢
 obtain⟨I,hI⟩:∃I:Nat→St→Prop,∀n s',I n s'↔(∃(i c1:Nat) (M1:Mem) (cur:List UInt8) (u:List (Option V)),n=l.length-i∧i≤l.length∧s'= .mk ((Gk u (.p c 0) (sV cur) (.i .i64 (i:Int)))) [] M1 c1∧Gr (c+1) X c1 M1∧cur++so i (l.drop i)=so 0 l):=⟨fun n s'=>_,fun _ _=>Iff.rfl⟩
 refine bw I ?_ l.length _ ((hI _ _).2 ⟨0,_,_,[],(X1 (G1 (X1 (G2 (bf (bA (br (X8 (X2 []))))))))),rfl,aD _,rfl,Gr.refl (gX.ok ok),rfl⟩)
 intro n s' hIs
 obtain⟨i,c1,M1,cur,u,rfl,hi,rfl,gr,he⟩:=(hI _ _).1 hIs
 clear hIs
 have B0:load1 F M1 c 0=some vl:=(gr.load1 (ay _) _).trans (au m0 0)
 by_cases hlt:i<l.length
 ·have q8:cB .add (.i .i64 (i:Int)) (.i .i64 1)=some (.i .i64 ((i+1:Nat):Int)):=by rw[be _ _ (by omega) (by omega)];simp
  have d1:decide ((i:Int)<(l.length:Int))=true:=ah (by omega);obtain⟨b,o,e,hbx,ia,ld,el,hp⟩:=(hX.grow gr).at (by decide) i hlt;have ia:=ia .i64;have hd:l.drop i=l[i]::l.drop (i+1):=bS hlt;rw[hd,so]at he;obtain⟨hj0,hj3⟩:=hj l[i] (List.getElem_mem _);obtain⟨hsi,hso,hsc,_,_⟩:=hS l[i] (List.getElem_mem _);generalize l[i]=p at hp he hj0 hj3 hsi hso hsc;generalize hR:so (i+1) (l.drop (i+1))=R at he;obtain⟨A,hA⟩:∃A,(if 0<i then Du p.join.toNat else[])=A:=⟨_,rfl⟩
  obtain⟨B,hB⟩:∃B,(if p.nt=true then[(33:UInt8),32]else[])=B:=⟨_,rfl⟩
  rw[hA,hB]at he;obtain⟨vi,vo,vc,rfl,a1,a2,a3⟩:=hp;have hzA:(cur++A).length≤1000000:=fk (b:=B++(jF p.inp 0 p.cmds++(nq p.beh p.out++R))) (by rw[aT,he];exact hz);have hzB:(cur++A++B).length≤1000000:=fk (b:=jF p.inp 0 p.cmds++(nq p.beh p.out++R)) (by rw[aT,aT,he];exact hz);have hzC:(cur++A++B++jF p.inp 0 p.cmds).length≤1000000:=fk (b:=nq p.beh p.out++R) (by rw[aT,aT,aT,he];exact hz);have hzD:(cur++A++B++jF p.inp 0 p.cmds++nq p.beh p.out).length≤1000000:=fk (b:=R) (by rw[aT,aT,aT,aT,he];exact hz);obtain⟨p1,p2,p3⟩:=a1.one;obtain⟨o1,o2,o3⟩:=a2.one;obtain⟨r1,r2,r3⟩:=a3.one;have hG6:flatten (V.g [.i .i64 p.join,.b p.nt,vi,vo,.b p.beh,vc])=[.i .i64 p.join,.b p.nt,vi,vo,.b p.beh,vc]:=rfl;have hA6:aK [.i .i64 p.join,.b p.nt,vi,vo,.b p.beh,vc]=true:=by
   rw[av,av,av,av,av,av,bO,p1,o1,r1];rfl
  have ok1:=gr.ok (gX.ok ok);have sn:bR (M1.set c1 (ae 39 [.i .i64 0,.b false,.l0,.l0,.b false,.l0])) c1 0 [.i .i64 p.join,.b p.nt,vi,vo,.b p.beh,vc]=some (M1.set c1 (ae 39 [.i .i64 p.join,.b p.nt,vi,vo,.b p.beh,vc])):=dI rfl hA6;have gY:=(Gr.refl ok1).set c1 (ae 39 [.i .i64 p.join,.b p.nt,vi,vo,.b p.beh,vc]) (aj _) (ay _) (aJ _);have my:(M1.set c1 (ae 39 [.i .i64 p.join,.b p.nt,vi,vo,.b p.beh,vc])).get c1=some (ae 39 [.i .i64 p.join,.b p.nt,vi,vo,.b p.beh,vc]):=am _ _ _;have k2:loadN F (M1.set c1 (ae 39 [.i .i64 p.join,.b p.nt,vi,vo,.b p.beh,vc])) c1 2 1=some [vi]:=cN M1 c1 2 1 39 [.i .i64 p.join,.b p.nt,vi,vo,.b p.beh,vc] (by simp);have k3:loadN F (M1.set c1 (ae 39 [.i .i64 p.join,.b p.nt,vi,vo,.b p.beh,vc])) c1 3 1=some [vo]:=cN M1 c1 3 1 39 [.i .i64 p.join,.b p.nt,vi,vo,.b p.beh,vc] (by simp);generalize M1.set c1 (ae 39 [.i .i64 p.join,.b p.nt,vi,vo,.b p.beh,vc])=Y at sn gY my k2 k3;have okY:=gY.ok ok1;simp only[WX,Nat.reduceAdd,aJ9,aK0,UE,UF,B0,n1,d1,ia,ld,hG6,Bool.and_self,sn];refine ch3 Φ (nt:=p.nt) okY (ay _) (by omega) (au my 0) hj0 hj3 (by rw[hA];exact hzA) (X1 (G1 (X1 (G2 (G1 (bf (bA (br (X8 (X1 [])))))))))) _ ?_;intro u M2 c2 g2;rw[hA];have l1:load1 F M2 c1 1=some (.b p.nt):=(g2.load1 (ay _) _).trans (au my 1)
  have MID:∀u:List (Option V),Wp xI (K Φ none 19 F) (.mk ((nN u (.p c 0) (sV (cur++A++B)) (.i .i64 (i:Int)) (.p c1 0))) [] M2 c2) (eg (.seq xJ xK) (K Φ none 19 F) (d8 1 (eg Cp (K Φ none 19 F) (gW I (l.length-i) (d8 0 (eg (.seq Cq .ret) (K Φ none 19 F) (j6 F [.t (.r .h)] fun r M' c'=>r=sV (so 0 l)∧Gr c M c' M'))))))):=by
   intro u;have GY:=gY.trans g2;have hle2:=g2.le;refine m19 Φ h42 h68 (GY.ok ok1) (by omega) ((g2.load1 (ay _) _).trans (au my 2)) ((g2.load1 (ay _) _).trans (au my 5)) ((g2.loadN (ay _) _ _).trans k2) (a1.grow GY) hsi (a3.grow GY) hsc hzC u _ ?_;intro u M3 c3 g3;have g23:=g2.trans g3;simp only[WX];refine ch4 Φ h42 h68 (g23.ok okY) ((g23.load1 (ay _) _).trans (au my 3)) ((g23.load1 (ay _) _).trans (au my 4)) ((g23.loadN (ay _) _ _).trans k3) (a2.grow (gY.trans g23)) hso hzD (X1 (G1 (X1 (G2 (G1 (bf (bA (br (X8 (X1 [])))))))))) _ ?_;intro u M4 c4 g4;simp only[WX,vG,q8];exact⟨l.length-(i+1),by omega,(hI _ _).2 ⟨i+1,_,_,_,(X1 (G1 (X1 (G2 (bf (bA (br (X8 (X2 []))))))))),rfl,hlt,rfl,gr.trans (gY.trans (g23.trans g4)),by rw[hR,←he];simp only[aT]⟩⟩
  cases hnt:p.nt with
  |true=>
   rw[hnt]at l1;rw[ac hnt]at hB;subst hB;have q1:cB .add (sV (cur++A)) (.s 2 8225)=some (sV (cur++A++[33,32])):=iN hzB;simp only[WX,UG,UC,Ey,l1,q1];exact MID (X1 (G1 (X1 (G2 (G1 (bf (bA (br (X8 (X1 []))))))))))
  |false=>
   rw[hnt]at l1;rw[ab (by rw[hnt];simp)]at hB;subst hB;rw[bH]at MID;simp only[WX,UG,Ey,l1];exact MID (X1 (G1 (X1 (G2 (G1 (bf (bA (br (X8 (X1 []))))))))))
 ·obtain rfl:i=l.length:=by omega
  have d1:decide ((l.length:Int)<(l.length:Int))=false:=af (by omega);rw[cj,so,bH]at he;subst he;simp only[WX,vG,B0,n1,d1];exact gX.trans gr
abbrev bQ1(u:List (Option V))(x1 x16 x17 x18:V):T:=(.n (.n (.n (aq u 31 15 47 7 39 23 55) (uO u 3) (aq u 35 19 51 11 43 27 59)) (some x1) (.n (.n (.n (gy u 33) (some x17) (gy u 49)) (uO u 9) (fm u 41 25 57)) (uO u 5) (aq u 37 21 53 13 45 29 61))) (uO u 0) (.n (.n (.n (.n (gy u 32) (some x16) (gy u 48)) (uO u 8) (fm u 40 24 56)) (uO u 4) (aq u 36 20 52 12 44 28 60)) (uO u 2) (.n (.n (.n (gy u 34) (some x18) (gy u 50)) (uO u 10) (fm u 42 26 58)) (uO u 6) (aq u 38 22 54 14 46 30 62))))
def Zk:CC:=(.reg [(aa a1 (.bx 25 1 z0)),(qq a2 (.mv (x6 0)))])
def Zl:CC:=(.reg [(qq a5 (.fa 0 z1)),(qq a6 (.ld1 z5)),(qq a7 (.ln .slice z6)),(qq a8 (.bi .lss z7 (x6 1))),(qq a9 (.mv z8)),(aw dJ (.fa 0 z1) a9),(aw ey (.ld1 eK) a9),(aw eU (.ln .slice dE) a9),(aw eC (.bi .gtr ei (x6 16)) a9),(qq dR (.pk z9 xT eb))])
def Zm:CC:=(.seq (.reg [(qq a2 (.mv (x6 2)))]) .ret)
def Zn:CC:=(.reg [(qq dA (.fa 0 z1)),(qq eX (.ld1 gf)),(qq gC (.ln .slice gM)),(qq fK (.mv (x6 0)))])
def Zo:CC:=(.reg [(qq i5 (.bi .lss hU gS))])
def Zp:CC:=(.reg [(qq gh (.mv hU)),(qq fE (.iaS 6 gM hU)),(qq j9 (.ldn 6 ju)),(aa a4 (.al 39 [(.i .i64 0),(.b false),.l0,.l0,(.b false),.l0])),(qq a3 (.mv k7)),(ez (.st 6 z4 kL))])
def Zq:CC:=(.reg [(qq gO (.mv z3)),(qq jn (.bi .eql k8 (x6 0))),(qq gP (.fa 0 z4)),(qq ja (.ld1 kM)),(qq gQ (.bi .eql lw (x6 0))),(qq kQ (.eq true .bool false jA lB)),(qq gU (.mv mH)),(aw jv (.fa 0 z4) gU),(aw jC (.ld1 nv) gU),(aw lz (.bi .lss ny (x6 0)) gU),(qq lE (.pk mI xT oC)),(qq jx (.mv pQ)),(aw iK (.fa 0 z4) jx),(aw mK (.ld1 pM) jx),(aw ka (.bi .gtr pS (x6 3)) jx),(qq mL (.pk pR xT oF)),(qq lA (.mv qS)),(aw nj (.ldn 6 z4) lA),(jJ jb (.call 40 [rJ]) lA),(aw kR (.un .not pT) lA),(qq oK (.pk qT xT rK))])
def Zs:CC:=(.seq (.reg [(qq a2 (.mv (x6 2)))]) .ret)
def Zt:CC:=(.seq Zq (.cond rL Zs .skip))
def Lv:CC:=(.reg [(qq lF (.bi .add hU (x6 1))),(qq fK (.mv qU))])
def Lw:CC:=(.seq (.cond jz .skip (.exit 0)) (.seq (.block 1 (.seq Zp Zt)) Lv))
def Lx:CC:=(.reg [(qq oL (.ldn 1 z1)),(ee ll (.call 39 [rM])),(qq oM (.ln .str sO)),(qq kb (.bi .gtr rN (x6 4096)))])
def Ly:CC:=(.seq (.reg [(qq a2 (.mv (x6 2)))]) .ret)
def Lz:CC:=(.seq Lx (.cond sq Ly .skip))
def LA:CC:=(.seq (.reg [(qq a2 (.mv (x6 0)))]) .ret)
def LB:CC:=(.seq (.seq Zn (.block 0 (.loop (.seq Zo Lw)))) (.seq Lz LA))
def LD:CC:=(.seq (.seq Zl (.cond fG Zm .skip)) LB)
def c17:CF:= .mk 6 [.t a2] (.seq Zk LD)
theorem e17(v0:V):bz 6 [v0]=(.n nu (some v0) nu):=rfl
def GM:=ai @e17 (ai (wu Zk.eq_1) (ai (wu Zl.eq_1) (ai (wu Zm.eq_1) (ai (wu Zn.eq_1) (ai (wu Zo.eq_1) (ai (wu Zp.eq_1) (ai (wu Zq.eq_1) (ai (wu Zs.eq_1) (ai (wu Zt.eq_1) (ai (wu Lv.eq_1) (ai (wu Lw.eq_1) (ai (wu Lx.eq_1) (ai (wu Ly.eq_1) (ai (wu Lz.eq_1) (ai (wu LA.eq_1) (ai (wu LB.eq_1) (wu LD.eq_1)))))))))))))))))
def by4:CC:=(.reg [(aa a1 (.bx 25 1 z0)),(qq a2 (.mv (.c (.s 0 0)))),(qq a3 (.mv (x6 0)))])
def by5:CC:=(.reg [(qq a5 (.ldn 1 z1)),(ee a6 (.call 17 [z5])),(qq a4 (.mv z6))])
def by6:CC:=(.reg [(qq a7 (.mv z4)),(qq a8 (.bi .neq z7 (x6 0)))])
def by7:CC:=(.reg [(qq a9 (.mv z4)),(qq a2 (.mv (.c (.s 0 0)))),(qq a3 (.mv z9))])
def by8:CC:=(.seq by6 (.cond z8 (.seq by7 .ret) .skip))
def by9:CC:=(.reg [(qq dJ (.ldn 1 z1)),(ee ey (.call 39 [eK])),(qq a2 (.mv dE)),(qq a3 (.mv (x6 0)))])
def c16:CF:= .mk 4 [.t a2,.t a3] (.seq by4 (.seq (.seq by5 by8) (.seq by9 .ret)))
def Zu:CC:=(.reg [(aa a1 (.bx 25 1 z0)),(qq a2 (.mv (x6 0)))])
def Zv:CC:=(.reg [(qq a5 (.fa 0 z1)),(qq a6 (.ld1 z5)),(qq a7 (.ln .slice z6)),(qq a8 (.bi .lss z7 (x6 1))),(qq a9 (.mv z8)),(aw dJ (.fa 0 z1) a9),(aw ey (.ld1 eK) a9),(aw eU (.ln .slice dE) a9),(aw eC (.bi .gtr ei (x6 16)) a9),(qq dR (.pk z9 xT eb))])
def Zw:CC:=(.seq (.reg [(qq a2 (.mv (x6 2)))]) .ret)
def Zx:CC:=(.reg [(qq a3 (.mv (x6 0)))])
def Zy:CC:=(.reg [(qq dA (.mv z3)),(qq eX (.fa 0 z1)),(qq gC (.ld1 gM)),(qq fK (.ln .slice gS)),(qq i5 (.bi .lss gf hU))])
def Zz:CC:=(.seq Zy (.cond jz .skip (.exit 0)))
def ZA:CC:=(.reg [(qq j9 (.fa 0 z1)),(qq gO (.ld1 kL)),(qq jn (.mv z3)),(qq gP (.iaS 6 k8 jA)),(qq ja (.ldn 6 kM)),(aa a4 (.al 39 [(.i .i64 0),(.b false),.l0,.l0,(.b false),.l0])),(ez (.st 6 z4 lw))])
def ZB:CC:=(.reg [(qq gQ (.mv z3)),(qq kQ (.bi .eql lB (x6 0))),(qq gU (.mv mH)),(aE jv (.fa 0 z4) gU),(aE jC (.ld1 nv) gU),(aE lz (.bi .neq ny (x6 0)) gU),(qq lE (.pk mI oC xF)),(qq jx (.mv pQ)),(aw iK (.mv z3) jx),(aw mK (.bi .gtr pM (x6 0)) jx),(aw ka (.mv pS) jx),(aE mL (.fa 0 z4) ka),(aE lA (.ld1 qS) ka),(aE nj (.bi .lss qT (x6 1)) ka),(aE jb (.mv rJ) ka),(aw kR (.fa 0 z4) jb),(aw oK (.ld1 rK) jb),(aw lF (.bi .gtr rL (x6 3)) jb),(aE oL (.pk pT xT qU) ka),(aw ll (.pk oF rM xF) jx),(qq oM (.pk pR xT sO)),(qq kb (.mv rN)),(aw lG (.ldn 6 z4) kb),(jJ qZ (.call 41 [uN]) kb),(aw r0 (.un .not uZ) kb),(qq mM (.pk sq xT uP))])
def ZD:CC:=(.seq (.reg [(qq a2 (.mv (x6 2)))]) .ret)
def LE:CC:=(.seq ZB (.cond v7 ZD .skip))
def LF:CC:=(.reg [(qq gh (.mv z3)),(qq fE (.bi .add k7 (x6 1))),(qq a3 (.mv ju))])
def LG:CC:=(.loop (.seq Zz (.seq (.block 1 (.seq ZA LE)) LF)))
def LH:CC:=(.reg [(qq sv (.ldn 1 z1)),(ee uS (.call 19 [vD])),(qq pO (.ln .str wW)),(qq sZ (.bi .gtr za (x6 4096)))])
def LI:CC:=(.seq (.reg [(qq a2 (.mv (x6 2)))]) .ret)
def LJ:CC:=(.seq LH (.cond vE LI .skip))
def LL:CC:=(.seq (.reg [(qq a2 (.mv (x6 0)))]) .ret)
def LM:CC:=(.seq (.seq Zv (.cond fG Zw .skip)) (.seq (.seq Zx (.block 0 LG)) (.seq LJ LL)))
def c18:CF:= .mk 6 [.t a2] (.seq Zu LM)
theorem e18(v0:V):bz 6 [v0]=(.n nu (some v0) nu):=rfl
def Bq:=ai @e18 (ai (wu Zu.eq_1) (ai (wu Zv.eq_1) (ai (wu Zw.eq_1) (ai (wu Zx.eq_1) (ai (wu Zy.eq_1) (ai (wu Zz.eq_1) (ai (wu ZA.eq_1) (ai (wu ZB.eq_1) (ai (wu ZD.eq_1) (ai (wu LE.eq_1) (ai (wu LF.eq_1) (ai (wu LG.eq_1) (ai (wu LH.eq_1) (ai (wu LI.eq_1) (ai (wu LJ.eq_1) (ai (wu LL.eq_1) (wu LM.eq_1)))))))))))))))))
def jOk(i:Nat)(j:Int):Bool:=(decide (i=0)==decide (j=0))&&(!decide (j<0)&& !decide (3<j))
def cZ:Nat→List fD→Bool
 |_,[]=>true
 |i,p::r=>(jOk i p.join&&mg p)&&cZ (i+1) r
def D7(l:List fD):Bool:= !decide (l.length<1)&&(!decide (16<l.length)&&(cZ 0 l&& !decide (4096<(ff [32] (qP l)).length)))
def VV(b:Bool):V:= .i .i64 (if b=true then 0 else 2)
theorem qx:∀(l:List fD) (i:Nat),cZ i l=true→ ∀p∈l,0≤p.join∧p.join≤3
 |[],_,_,p,hp=>by cases hp
 |q::r,i,h,p,hp=>by
  rw[cZ,aV,aV]at h;rcases bq.1 hp with rfl|hp
  ·have:=h.1.1;unfold jOk at this;rw[aV,aV]at this;have a:=this.2.1;have b:=this.2.2;simp only[Bool.not_eq_true',decide_eq_false_iff_not]at a b;omega
  ·exact qx r _ h.2 p hp
theorem S2(n:Nat):decide ((16:Int)<(n:Int))=decide (16<n):=by congr 1;exact propext (by omega)
theorem zP(n:Nat):decide ((4096:Int)<(n:Int))=decide (4096<n):=by congr 1;exact propext (by omega)
theorem bE9(n:Nat):decide ((n:Int)=0)=decide (n=0):=by congr 1;exact propext (by omega)
theorem w17(Φ:Nat→Option CF)(h:Φ 17=some c17)(h40:Φ 40=some c40)(h63:Φ 63=some Wu)(h62:Φ 62=some Ho)(h80:Φ 80=some RJ)(h81:Φ 81=some RK)(h82:Φ 82=some VT)(h90:Φ 90=some RL)(h83:Φ 83=some J8)(h61:Φ 61=some Hn)(h39:Φ 39=some c39)(h33:Φ 33=some VP)(h57:Φ 57=some zL)(h58:Φ 58=some Wt)(h59:Φ 59=some Fb)(h60:Φ 60=some J7)(h79:Φ 79=some Wx)(h89:Φ 89=some VU)(h77:Φ 77=some (.orc (aG h77)))(h52:Φ 52=some BA)(h54:Φ 54=some BB)(h71:Φ 71=some zg){F:RO}{M:Mem}{c:Nat}(ok:cR F M c){vl:V}{l:List fD}(hl:nh F M c vl l)(hS:∀p∈l,GQ p)(hz:dL (qP l)≤1000000):
 Calls Φ F 17 [.g [vl]] M c fun r M' c'=>r=VV (D7 l)∧Gr c M c' M':=by
 refine aN h ?_
 obtain⟨y1,y2,y3⟩:=hl.one
 have hG:∀v,flatten (V.g [v])=[v]:=fun _=>rfl
 have n1:=hl.len
 have mx:=hl.max
 have gX:=(Gr.refl ok).set c (ae 25 [vl]) (aj _) (ay _) (aJ _)
 have m0:(M.set c (ae 25 [vl])).get c=some (ae 25 [vl]):=am _ _ _
 have kX:load1 F (M.set c (ae 25 [vl])) c 0=some vl:=au m0 0
 have lX:loadN F (M.set c (ae 25 [vl])) c 0 1=some [vl]:=aP m0 1 rfl
 have hX:=hl.grow gX
 simp only[WX,GM,hG,y3,kX,n1,aB]
 generalize M.set c (ae 25 [vl])=X at gX m0 hX kX lX⊢
 have okX:=gX.ok ok
 have dl:=Fg l.length
 have dg:=S2 l.length
 have BAD:∀b,D7 l=b→(b=false→(V.i IntKind.i64 2)=VV (D7 l)):=by intro b hb h0;rw[hb,h0];rfl
 by_cases hl1:l.length<1
 ·rw[ah hl1]at dl;simp only[WX,GM,dl];exact⟨BAD _ rfl (by unfold D7;rw[ah hl1];rfl),gX⟩
 rw[af hl1]at dl
 by_cases hl16:16<l.length
 ·rw[ah hl16]at dg;simp only[WX,GM,dl,dg,kX,n1,aB];exact⟨BAD _ rfl (by unfold D7;rw[ah hl16];simp),gX⟩
 rw[af hl16]at dg
 simp only[WX,GM,dl,dg,kX,n1,aB]
 have CH:D7 l=(cZ 0 l&& !decide (4096<(ff [32] (qP l)).length)):=by unfold D7;rw[af hl1,af hl16];rfl
 obtain⟨I,hI⟩:∃I:Nat→St→Prop,∀n s',I n s'↔(∃(i c1:Nat) (M1:Mem) (u:List (Option V)),n=l.length-i∧i≤l.length∧s'= .mk ((bQ1 u (.p c 0) vl (.i .i64 (l.length:Int)) (.i .i64 (i:Int)))) [] M1 c1∧Gr (c+1) X c1 M1∧cZ 0 l=cZ i (l.drop i)):=⟨fun n s'=>_,fun _ _=>Iff.rfl⟩
 refine bw I ?_ l.length _ ((hI _ _).2 ⟨0,_,_,(X1 (G1 (X8 (X4 (X2 (G2 (G1 (bA (X8 (X4 [])))))))))),rfl,aD _,rfl,Gr.refl okX,rfl⟩)
 intro n s' hIs
 obtain⟨i,c1,M1,u,rfl,hi,rfl,gr,he⟩:=(hI _ _).1 hIs
 clear hIs
 by_cases hlt:i<l.length
 ·have q8:cB .add (.i .i64 (i:Int)) (.i .i64 1)=some (.i .i64 ((i+1:Nat):Int)):=by rw[be _ _ (by omega) (by omega)];simp
  have d1:decide ((i:Int)<(l.length:Int))=true:=ah (by omega);obtain⟨b,o,e,hbx,ia,ld,el,hp⟩:=(hX.grow gr).at (by decide) i hlt;have ia:=ia .i64;have hd:l.drop i=l[i]::l.drop (i+1):=bS hlt;rw[hd,cZ]at he;have hSi:=hS l[i] (List.getElem_mem _);generalize l[i]=p at hp he hSi;have hp':=hp;obtain⟨vi,vo,vc,rfl,a1,a2,a3⟩:=hp;obtain⟨p1,p2,p3⟩:=a1.one;obtain⟨o1,o2,o3⟩:=a2.one;obtain⟨r1,r2,r3⟩:=a3.one;have hG6:flatten (V.g [.i .i64 p.join,.b p.nt,vi,vo,.b p.beh,vc])=[.i .i64 p.join,.b p.nt,vi,vo,.b p.beh,vc]:=rfl;have hA6:aK [.i .i64 p.join,.b p.nt,vi,vo,.b p.beh,vc]=true:=by
   rw[av,av,av,av,av,av,bO,p1,o1,r1];rfl
  have ok1:=gr.ok okX;have sn:bR (M1.set c1 (ae 39 [.i .i64 0,.b false,.l0,.l0,.b false,.l0])) c1 0 [.i .i64 p.join,.b p.nt,vi,vo,.b p.beh,vc]=some (M1.set c1 (ae 39 [.i .i64 p.join,.b p.nt,vi,vo,.b p.beh,vc])):=dI rfl hA6;have gY:=(Gr.refl ok1).set c1 (ae 39 [.i .i64 p.join,.b p.nt,vi,vo,.b p.beh,vc]) (aj _) (ay _) (aJ _);have my:(M1.set c1 (ae 39 [.i .i64 p.join,.b p.nt,vi,vo,.b p.beh,vc])).get c1=some (ae 39 [.i .i64 p.join,.b p.nt,vi,vo,.b p.beh,vc]):=am _ _ _;have k0:load1 F (M1.set c1 (ae 39 [.i .i64 p.join,.b p.nt,vi,vo,.b p.beh,vc])) c1 0=some (.i .i64 p.join):=au my 0;have k6:loadN F (M1.set c1 (ae 39 [.i .i64 p.join,.b p.nt,vi,vo,.b p.beh,vc])) c1 0 6=some [.i .i64 p.join,.b p.nt,vi,vo,.b p.beh,vc]:=aP my 6 rfl;generalize M1.set c1 (ae 39 [.i .i64 p.join,.b p.nt,vi,vo,.b p.beh,vc])=Y at sn gY my k0 k6;have okY:=gY.ok ok1;have gXY:=gX.trans (gr.trans gY);simp only[WX,Nat.reduceAdd,GM,d1,ia,ld,hG6,Bool.and_self,sn,k0,aB];have dz:=bE9 i;unfold jOk at he;obtain⟨a,ha⟩:∃a,decide (i=0)=a:=⟨_,rfl⟩
  obtain⟨z,hz'⟩:∃z,decide (p.join=0)=z:=⟨_,rfl⟩
  obtain⟨x,hx⟩:∃x,decide (p.join<0)=x:=⟨_,rfl⟩
  obtain⟨w,hw⟩:∃w,decide (3<p.join)=w:=⟨_,rfl⟩
  rw[ha,hz',hx,hw]at he;rw[ha]at dz;have NO:cZ 0 l=false→ ∀M' c',Gr c M c' M'→(V.i IntKind.i64 2)=VV (D7 l)∧Gr c M c' M':=fun hn M' c' g=>⟨BAD _ rfl (by rw[CH,hn];rfl),g⟩;by_cases haz:a=z
  ·have dz2:decide (a=z)=true:=ah haz;have az2:(a==z)=true:=by rw[haz];simp
   rw[az2]at he;cases x with
   |true=>
    simp only[WX,GM,dz,hz',hx,dz2,k0,aB];exact NO (by rw[he];rfl) _ _ gXY
   |false=>
    cases w with
    |true=>
     simp only[WX,GM,dz,hz',hx,hw,dz2,k0,aB];exact NO (by rw[he];rfl) _ _ gXY
    |false=>
     simp only[WX,dz,hz',hx,hw,dz2,k0,k6,aB];refine az ((w40 Φ h40 h63 h62 h80 h81 h82 h90 h83 h61 h77 okY (P1.grow gY _ _ hp') hSi).mono ?_);rintro r M2 c2 ⟨rfl,g2⟩;cases hpo:mg p with
     |false=>
      rw[hpo]at he;simp only[WX,GM];exact NO (by rw[he];rfl) _ _ (gXY.trans g2)
     |true=>
      rw[hpo]at he;simp only[WX,GM,q8];exact⟨l.length-(i+1),by omega,(hI _ _).2 ⟨i+1,_,_,(X1 (G1 (X8 (X4 (X2 (G2 (G1 (bA (X8 (X4 [])))))))))),rfl,hlt,rfl,gr.trans (gY.trans g2),by rw[he];rfl⟩⟩
  ·have dz2:decide (a=z)=false:=af haz;have az2:(a==z)=false:=by simpa using haz
   rw[az2]at he;simp only[WX,GM,dz,hz',dz2];exact NO (by rw[he];rfl) _ _ gXY
 ·obtain rfl:i=l.length:=by omega
  have d1:decide ((l.length:Int)<(l.length:Int))=false:=af (by omega);rw[cj,cZ]at he;have lx:loadN F M1 c 0 1=some [vl]:=(gr.loadN (ay _) _ _).trans lX;simp only[WX,GM,d1,lx];refine az ((w39 Φ h39 h33 h57 h58 h59 h60 h79 h89 h77 h52 h54 h71 (gr.ok okX) (hX.grow gr) (qx l 0 he) hS hz).mono ?_);rintro r M2 c2 ⟨rfl,g2⟩;have dW:=zP (ff [32] (qP l)).length;rw[he,Bool.true_and]at CH;cases hW:decide (4096<(ff [32] (qP l)).length)with
  |true=>
   rw[hW]at dW CH;simp only[WX,GM,dW];exact⟨BAD _ rfl CH,gX.trans (gr.trans g2)⟩
  |false=>
   rw[hW]at dW CH;simp only[WX,GM,dW];exact⟨by rw[CH];rfl,gX.trans (gr.trans g2)⟩
abbrev bQ2(u:List (Option V))(x1 x3:V):T:=(.n (.n (.n (aq u 31 15 47 7 39 23 55) (some x3) (aq u 35 19 51 11 43 27 59)) (some x1) (.n (aq u 33 17 49 9 41 25 57) (uO u 5) (aq u 37 21 53 13 45 29 61))) (uO u 0) (.n (.n (aq u 32 16 48 8 40 24 56) (uO u 4) (aq u 36 20 52 12 44 28 60)) (uO u 2) (.n (aq u 34 18 50 10 42 26 58) (uO u 6) (aq u 38 22 54 14 46 30 62))))
def jR(i:Nat)(j:Int):Bool:= !(decide (i=0)&& !decide (j=0))&& !(decide (0<i)&&(decide (j<1)||decide (3<j)))
theorem bJ1(i:Nat)(j:Int):jR i j=jOk i j:=by
 unfold jR jOk
 by_cases h1:i=0
 ·by_cases h2:j=0
  ·subst h1 h2;rfl
  ·rw[ah h1,af h2];rfl
 ·by_cases h2:j=0
  ·rw[af h1,ah h2,ah (show 0<i by omega),ah (show j<1 by omega)];rfl
  ·rw[af h1,af h2,ah (show 0<i by omega),show decide (j<1)=decide (j<0)from by congr 1;exact propext (by omega)];cases decide (j<0)<;>cases decide (3<j)<;>rfl
def vj(l:List fD):Bool:= !decide (l.length<1)&&(!decide (16<l.length)&&(cZ 0 l&& !decide (4096<(so 0 l).length)))
theorem w18(Φ:Nat→Option CF)(h:Φ 18=some c18)(h41:Φ 41=some c41)(h64:Φ 64=some VQ)(h69:Φ 69=some (.orc (aG h78)))(h66:Φ 66=some VS)(h65:Φ 65=some (.orc (aG h65)))(h67:Φ 67=some Wv)(h84:Φ 84=some (.orc (aG h84)))(h19:Φ 19=some c19)(h42:Φ 42=some RI)(h68:Φ 68=some (.orc (aG h75))){F:RO}{M:Mem}{c:Nat}(ok:cR F M c){vl:V}{l:List fD}(hl:nh F M c vl l)(hS:∀p∈l,GQ p)(hz:(so 0 l).length≤1000000):
 Calls Φ F 18 [.g [vl]] M c fun r M' c'=>r=VV (vj l)∧Gr c M c' M':=by
 refine aN h ?_
 obtain⟨y1,y2,y3⟩:=hl.one
 have hG:∀v,flatten (V.g [v])=[v]:=fun _=>rfl
 have n1:=hl.len
 have mx:=hl.max
 have gX:=(Gr.refl ok).set c (ae 25 [vl]) (aj _) (ay _) (aJ _)
 have m0:(M.set c (ae 25 [vl])).get c=some (ae 25 [vl]):=am _ _ _
 have kX:load1 F (M.set c (ae 25 [vl])) c 0=some vl:=au m0 0
 have lX:loadN F (M.set c (ae 25 [vl])) c 0 1=some [vl]:=aP m0 1 rfl
 have hX:=hl.grow gX
 simp only[WX,Bq,hG,y3,kX,n1,aB]
 generalize M.set c (ae 25 [vl])=X at gX m0 hX kX lX⊢
 have okX:=gX.ok ok
 have dl:=Fg l.length
 have dg:=S2 l.length
 have BAD:∀b,vj l=b→(b=false→(V.i IntKind.i64 2)=VV (vj l)):=by intro b hb h0;rw[hb,h0];rfl
 by_cases hl1:l.length<1
 ·rw[ah hl1]at dl;simp only[WX,Bq,dl];exact⟨BAD _ rfl (by unfold vj;rw[ah hl1];rfl),gX⟩
 rw[af hl1]at dl
 by_cases hl16:16<l.length
 ·rw[ah hl16]at dg;simp only[WX,Bq,dl,dg,kX,n1,aB];exact⟨BAD _ rfl (by unfold vj;rw[ah hl16];simp),gX⟩
 rw[af hl16]at dg
 simp only[WX,Bq,dl,dg,kX,n1,aB]
 have CH:vj l=(cZ 0 l&& !decide (4096<(so 0 l).length)):=by unfold vj;rw[af hl1,af hl16];rfl
 obtain⟨I,hI⟩:∃I:Nat→St→Prop,∀n s',I n s'↔(∃(i c1:Nat) (M1:Mem) (u:List (Option V)),n=l.length-i∧i≤l.length∧s'= .mk ((bQ2 u (.p c 0) (.i .i64 (i:Int)))) [] M1 c1∧Gr (c+1) X c1 M1∧cZ 0 l=cZ i (l.drop i)):=⟨fun n s'=>_,fun _ _=>Iff.rfl⟩
 refine bw I ?_ l.length _ ((hI _ _).2 ⟨0,_,_,(X1 (G1 (X1 (G1 (bA (br (X8 (X2 (X1 []))))))))),rfl,aD _,rfl,Gr.refl okX,rfl⟩)
 intro n s' hIs
 obtain⟨i,c1,M1,u,rfl,hi,rfl,gr,he⟩:=(hI _ _).1 hIs
 clear hIs
 have B0:load1 F M1 c 0=some vl:=(gr.load1 (ay _) _).trans kX
 by_cases hlt:i<l.length
 ·have q8:cB .add (.i .i64 (i:Int)) (.i .i64 1)=some (.i .i64 ((i+1:Nat):Int)):=by rw[be _ _ (by omega) (by omega)];simp
  have d1:decide ((i:Int)<(l.length:Int))=true:=ah (by omega);obtain⟨b,o,e,hbx,ia,ld,el,hp⟩:=(hX.grow gr).at (by decide) i hlt;have ia:=ia .i64;have hd:l.drop i=l[i]::l.drop (i+1):=bS hlt;rw[hd,cZ,←bJ1]at he;have hSi:=hS l[i] (List.getElem_mem _);generalize l[i]=p at hp he hSi;have hp':=hp;obtain⟨vi,vo,vc,rfl,a1,a2,a3⟩:=hp;obtain⟨p1,p2,p3⟩:=a1.one;obtain⟨o1,o2,o3⟩:=a2.one;obtain⟨r1,r2,r3⟩:=a3.one;have hG6:flatten (V.g [.i .i64 p.join,.b p.nt,vi,vo,.b p.beh,vc])=[.i .i64 p.join,.b p.nt,vi,vo,.b p.beh,vc]:=rfl;have hA6:aK [.i .i64 p.join,.b p.nt,vi,vo,.b p.beh,vc]=true:=by
   rw[av,av,av,av,av,av,bO,p1,o1,r1];rfl
  have ok1:=gr.ok okX;have sn:bR (M1.set c1 (ae 39 [.i .i64 0,.b false,.l0,.l0,.b false,.l0])) c1 0 [.i .i64 p.join,.b p.nt,vi,vo,.b p.beh,vc]=some (M1.set c1 (ae 39 [.i .i64 p.join,.b p.nt,vi,vo,.b p.beh,vc])):=dI rfl hA6;have gY:=(Gr.refl ok1).set c1 (ae 39 [.i .i64 p.join,.b p.nt,vi,vo,.b p.beh,vc]) (aj _) (ay _) (aJ _);have my:(M1.set c1 (ae 39 [.i .i64 p.join,.b p.nt,vi,vo,.b p.beh,vc])).get c1=some (ae 39 [.i .i64 p.join,.b p.nt,vi,vo,.b p.beh,vc]):=am _ _ _;have k0:load1 F (M1.set c1 (ae 39 [.i .i64 p.join,.b p.nt,vi,vo,.b p.beh,vc])) c1 0=some (.i .i64 p.join):=au my 0;have k6:loadN F (M1.set c1 (ae 39 [.i .i64 p.join,.b p.nt,vi,vo,.b p.beh,vc])) c1 0 6=some [.i .i64 p.join,.b p.nt,vi,vo,.b p.beh,vc]:=aP my 6 rfl;generalize M1.set c1 (ae 39 [.i .i64 p.join,.b p.nt,vi,vo,.b p.beh,vc])=Y at sn gY my k0 k6;have okY:=gY.ok ok1;have gXY:=gX.trans (gr.trans gY);have dz:=bE9 i;have dp:decide ((0:Int)<(i:Int))=decide (0<i):=by congr 1;exact propext (by omega)
  have dn:decide (¬(p.join=0))= !decide (p.join=0):=decide_not;unfold jR at he;have NO:cZ 0 l=false→ ∀M' c',Gr c M c' M'→(V.i IntKind.i64 2)=VV (vj l)∧Gr c M c' M':=fun hn M' c' g=>⟨BAD _ rfl (by rw[CH,hn];rfl),g⟩;have hjj:p.join=0→decide (p.join<1)=true:=fun e=>ah (by omega);obtain⟨x,hx⟩:∃x,decide (p.join<1)=x:=⟨_,rfl⟩
  obtain⟨w,hw⟩:∃w,decide (3<p.join)=w:=⟨_,rfl⟩
  rw[hx,hw]at he
  have PART:∀b:Bool,cZ 0 l=((b&&yz p)&&cZ (i+1) (l.drop (i+1)))→b=true→lD (dt (j5 Φ) F 41 [.g [.i .i64 p.join,.b p.nt,vi,vo,.b p.beh,vc]] Y (c1+1) (Φ 41)) fun r M' c'=>(r= .b true∧cZ 0 l=cZ (i+1) (l.drop (i+1))∧Gr (c1+1) Y c' M')∨(r= .b false∧cZ 0 l=false∧Gr (c1+1) Y c' M'):=by
   intro b hb hbt;refine(w41 Φ h41 h64 h69 h66 h65 h67 h84 okY (P1.grow gY _ _ hp') hSi).mono ?_;rintro r M2 c2 ⟨rfl,g2⟩;rw[hbt]at hb;cases hpo:yz p with
   |true=>rw[hpo]at hb;exact .inl ⟨rfl,by rw[hb];rfl,g2⟩
   |false=>rw[hpo]at hb;exact .inr ⟨rfl,by rw[hb];rfl,g2⟩
  rw[←XI]at he;by_cases hi0:i=0
  ·have dp:=dp.trans (af (show¬0<i by omega));rw[ah hi0]at dz he;rw[af (show¬0<i by omega)]at he;cases hz':decide (p.join=0)with
   |true=>
    rw[hz']at dn he;simp only[WX,Nat.reduceAdd,Bq,B0,n1,d1,ia,ld,hG6,Bool.and_self,sn,k0,k6,dz,dn,dp,aB];refine az ((PART _ he (by simp)).mono ?_);rintro r M2 c2 (⟨rfl,h2,g2⟩|⟨rfl,h2,g2⟩)
    ·simp only[WX,Bq,q8];exact⟨l.length-(i+1),by omega,(hI _ _).2 ⟨i+1,_,_,(X1 (G1 (X1 (G1 (bA (br (X8 (X2 (X1 []))))))))),rfl,hlt,rfl,gr.trans (gY.trans g2),h2⟩⟩
    ·simp only[WX,Bq];exact NO h2 _ _ (gXY.trans g2)
   |false=>
    rw[hz']at dn he;simp only[WX,Nat.reduceAdd,Bq,B0,n1,d1,ia,ld,hG6,Bool.and_self,sn,k0,dz,dn,aB];exact NO (by rw[he];rfl) _ _ gXY
  ·have dp:=dp.trans (ah (show 0<i by omega));rw[af hi0]at dz he;rw[ah (show 0<i by omega)]at he;cases x with
   |true=>
    simp only[WX,Nat.reduceAdd,Bq,B0,n1,d1,ia,ld,hG6,Bool.and_self,sn,k0,dz,dp,hx,aB];exact NO (by rw[he];rfl) _ _ gXY
   |false=>
    cases w with
    |true=>
     simp only[WX,Nat.reduceAdd,Bq,B0,n1,d1,ia,ld,hG6,Bool.and_self,sn,k0,dz,dp,hx,hw,aB];exact NO (by rw[he];rfl) _ _ gXY
    |false=>
     simp only[WX,Nat.reduceAdd,Bq,B0,n1,d1,ia,ld,hG6,Bool.and_self,sn,k0,k6,dz,dp,hx,hw,aB];refine az ((PART _ he (by simp)).mono ?_);rintro r M2 c2 (⟨rfl,h2,g2⟩|⟨rfl,h2,g2⟩)
     ·simp only[WX,Bq,q8];exact⟨l.length-(i+1),by omega,(hI _ _).2 ⟨i+1,_,_,(X1 (G1 (X1 (G1 (bA (br (X8 (X2 (X1 []))))))))),rfl,hlt,rfl,gr.trans (gY.trans g2),h2⟩⟩
     ·simp only[WX,Bq];exact NO h2 _ _ (gXY.trans g2)
 ·obtain rfl:i=l.length:=by omega
  have d1:decide ((l.length:Int)<(l.length:Int))=false:=af (by omega);rw[cj,cZ]at he;have lx:loadN F M1 c 0 1=some [vl]:=(gr.loadN (ay _) _ _).trans lX;simp only[WX,Bq,B0,n1,d1,lx,aB];refine az ((w19 Φ h19 h42 h68 (gr.ok okX) (hX.grow gr) (qx l 0 he) hS hz).mono ?_);rintro r M2 c2 ⟨rfl,g2⟩;have dW:=zP (so 0 l).length;rw[he,Bool.true_and]at CH;cases hW:decide (4096<(so 0 l).length)with
  |true=>
   rw[hW]at dW CH;simp only[WX,Bq,dW];exact⟨BAD _ rfl CH,gX.trans (gr.trans g2)⟩
  |false=>
   rw[hW]at dW CH;simp only[WX,Bq,dW];exact⟨by rw[CH];rfl,gX.trans (gr.trans g2)⟩
def Bu(l:List (List UInt8)):List UInt8:=(l.map fun x=>32::x).flatten
theorem EY:Bu []=[]:=rfl
theorem sP(w:List UInt8)(r:List (List UInt8)):Bu (w::r)=32::(w++Bu r):=rfl
theorem kc(a b:List (List UInt8)):Bu (a++b)=Bu a++Bu b:=by unfold Bu;rw[List.map_append,List.flatten_append]
theorem Jk(l:List (List UInt8))(h:l≠[]):32::ff [32] l=Bu l:=by
 cases l with
 |nil=>exact absurd rfl h
 |cons w r=>rfl
theorem aM7:∀(c:eB) (m:Nat),0<m→gL m c=Bu (c.map d6)
 |[],_,_=>rfl
 |w::r,m,h=>by
  rw[gL,ac h,List.map_cons,sP,aM7 r (m+1) (by omega)];rfl
theorem br2(c:eB)(h:c≠[]):32::gL 0 c=Bu (c.map d6):=by
 cases c with
 |nil=>exact absurd rfl h
 |cons w r=>rw[gL,ab (by omega),List.map_cons,sP,aM7 r 1 (by omega)];rfl
theorem aD7(inp:List Pc):∀(cs:List eB) (k:Nat),(∀c∈cs,c≠[])→(k=0→cs≠[])→Bu (jp inp k cs)=(if k=0 then[32]else[])++jF inp k cs
 |[],k,_,h=>by rw[ab (fun e=>h e rfl)];rfl
 |c::r,k,hc,_=>by
  have h1:=br2 c (hc c (bX ..));have h2:=aD7 inp r (k+1) (fun x hx=>hc x (bJ _ hx)) (by omega);rw[ab (by omega),List.nil_append]at h2;rw[jp,jF,kc,kc,kc,h2,←h1];have h3:Bu (if(decide (k=0)&&hasW inp)=true then[[60],d6 inp]else[])=inR k inp:=by
   unfold inR;split
   ·show 32::([60]++(32::(d6 inp++[])))=_;rw[bH];rfl
   ·rfl
  rw[h3];by_cases hk:k=0
  ·rw[ab (show¬0<k by omega),ab (show¬0<k by omega),ac hk];rfl
  ·rw[ac (show 0<k by omega),ac (show 0<k by omega),ab hk];rfl
theorem RX{c:eB}(h:oU c=true):c≠[]:=by
 intro e;subst e
 revert h;decide
theorem bM3{p:fD}(h:mg p=true):Bu ((if p.nt=true then[[33]]else[])++(jp p.inp 0 p.cmds++m8 p.beh p.out))=32::((if p.nt=true then[33,32]else[])++(jF p.inp 0 p.cmds++nq p.beh p.out)):=by
 unfold mg at h
 simp only[aV]at h
 obtain⟨h1,h2,h3,h4,h5,h6⟩:=h
 have hne:p.cmds≠[]:=by
  intro e;rw[e]at h1;revert h1;decide
 have hc:∀c∈p.cmds,c≠[]:=by
  intro c hc;have:=List.all_eq_true.1 h6 c hc;unfold zO at this;rw[aV]at this;exact RX this.1
 rw[kc,kc,aD7 p.inp p.cmds 0 hc (fun _=>hne),ac rfl]
 have ho:Bu (m8 p.beh p.out)=nq p.beh p.out:=by
  unfold m8 nq;cases hb:p.beh with
  |true=>
   rw[hb]at h3;have hw:hasW p.out=true:=by
    cases hw:hasW p.out with
    |true=>rfl
    |false=>rw[hw]at h3;exact absurd h3 (by decide)
   rw[ac rfl,ac hw,ac rfl];show 32::([62,62]++(32::(d6 p.out++[])))=_;rw[bH];rfl
  |false=>
   show Bu (if hasW p.out=true then[[62],d6 p.out]else[])=(if hasW p.out=true then[32,62,32]++d6 p.out else[])
   cases hasW p.out with
   |true=>show 32::([62]++(32::(d6 p.out++[])))=_;rw[bH];rfl
   |false=>rfl
 rw[ho]
 cases p.nt<;>rfl
theorem Vk:∀(l:List fD) (i:Nat),cZ i l=true→(i=0→l≠[])→Bu (qP l)=(if i=0 then[32]else[])++so i l
 |[],i,_,h=>by rw[ab (fun e=>h e rfl)];rfl
 |p::r,i,h,_=>by
  rw[cZ,aV,aV]at h;obtain⟨⟨hj,hp⟩,hr⟩:=h;have h2:=Vk r (i+1) hr (by omega);rw[ab (by omega),List.nil_append]at h2;rw[qP,so,kc,h2,Ta,kc,bM3 hp];unfold jOk at hj;rw[aV,aV]at hj;obtain⟨j1,j2,j3⟩:=hj;simp only[Bool.not_eq_true',decide_eq_false_iff_not]at j2 j3;by_cases hi:i=0
  ·rw[ah hi]at j1;have hj0:p.join=0:=by simpa using j1
   rw[ac hi,ab (show¬0<i by omega),ab (show¬0<p.join by omega)];simp only[EY,List.cons_append,List.nil_append,aT]
  ·rw[af hi]at j1;have hj0:¬p.join=0:=by simpa using j1
   rw[ab hi,ac (show 0<i by omega),ac (show 0<p.join by omega)];have:p.join.toNat=1∨p.join.toNat=2∨p.join.toNat=3:=by omega
   rcases this with e|e|e<;>rw[e]<;>simp only[sP,EY,BC,Du,List.cons_append,List.nil_append,aT]
theorem br4{l:List fD}(h:cZ 0 l=true)(hl:l≠[]):qP l≠[]:=by
 intro e
 have:=Vk l 0 h (fun _=>hl)
 rw[e]at this;cases this
theorem br3{l:List fD}(h:cZ 0 l=true):so 0 l=ff [32] (qP l):=by
 by_cases hl:l=[]
 ·subst hl;rfl
 ·have h1:=Vk l 0 h (fun _=>hl);rw[←Jk _ (br4 h hl)]at h1;injection h1 with _ h1
  exact h1.symm
theorem WH(l:List fD):vj l=D7 l:=by
 unfold vj D7
 cases h:cZ 0 l with
 |false=>rfl
 |true=>rw[br3 h]
end
end Go.Proofs.YtmbpllipombieaaDoor.Ev
