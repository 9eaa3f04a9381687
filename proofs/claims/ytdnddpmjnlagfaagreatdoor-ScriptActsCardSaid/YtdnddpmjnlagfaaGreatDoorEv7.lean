/- What is proved here: pieces of the evaluator's soundness: if the evaluator comes to a value, the model's run comes to it, for every world and tape; no conditions beyond the hypotheses of each theorem. -/
import Derived.Test.YtdnddpmjnlagfaaGreatDoorEv6
set_option linter.unusedSimpArgs false
set_option linter.unusedVariables false
set_option linter.defProp false
set_option maxRecDepth 10000
set_option maxHeartbeats 8000000
namespace Go.Proofs.YtdnddpmjnlagfaaGreatDoor.Ev
open Go
noncomputable section
abbrev Zq(u:List (Option V))(x0 x4 x12:V):T:=(.n (.n (.n (.n (.n (am u 127 63 191 31 159 95 223) (uO u 15) (am u 143 79 207 47 175 111 239)) (uO u 7) (.n (am u 135 71 199 39 167 103 231) (uO u 23) (am u 151 87 215 55 183 119 247))) (uO u 3) (.n (.n (am u 131 67 195 35 163 99 227) (uO u 19) (am u 147 83 211 51 179 115 243)) (uO u 11) (.n (am u 139 75 203 43 171 107 235) (uO u 27) (am u 155 91 219 59 187 123 251)))) (uO u 1) (.n (.n (.n (am u 129 65 193 33 161 97 225) (uO u 17) (am u 145 81 209 49 177 113 241)) (uO u 9) (.n (am u 137 73 201 41 169 105 233) (uO u 25) (am u 153 89 217 57 185 121 249))) (uO u 5) (.n (.n (am u 133 69 197 37 165 101 229) (uO u 21) (am u 149 85 213 53 181 117 245)) (uO u 13) (.n (am u 141 77 205 45 173 109 237) (uO u 29) (am u 157 93 221 61 189 125 253))))) (some x0) (.n (.n (.n (.n (am u 128 64 192 32 160 96 224) (uO u 16) (am u 144 80 208 48 176 112 240)) (uO u 8) (.n (am u 136 72 200 40 168 104 232) (uO u 24) (am u 152 88 216 56 184 120 248))) (some x4) (.n (.n (am u 132 68 196 36 164 100 228) (uO u 20) (am u 148 84 212 52 180 116 244)) (some x12) (.n (am u 140 76 204 44 172 108 236) (uO u 28) (am u 156 92 220 60 188 124 252)))) (uO u 2) (.n (.n (.n (am u 130 66 194 34 162 98 226) (uO u 18) (am u 146 82 210 50 178 114 242)) (uO u 10) (.n (am u 138 74 202 42 170 106 234) (uO u 26) (am u 154 90 218 58 186 122 250))) (uO u 6) (.n (.n (am u 134 70 198 38 166 102 230) (uO u 22) (am u 150 86 214 54 182 118 246)) (uO u 14) (.n (am u 142 78 206 46 174 110 238) (uO u 30) (am u 158 94 222 62 190 126 254))))))
abbrev cf8(u:List (Option V))(x0 x1 x4:V):T:=(.n (.n (.n (.n (.n (am u 127 63 191 31 159 95 223) (uO u 15) (am u 143 79 207 47 175 111 239)) (uO u 7) (.n (am u 135 71 199 39 167 103 231) (uO u 23) (am u 151 87 215 55 183 119 247))) (uO u 3) (.n (.n (am u 131 67 195 35 163 99 227) (uO u 19) (am u 147 83 211 51 179 115 243)) (uO u 11) (.n (am u 139 75 203 43 171 107 235) (uO u 27) (am u 155 91 219 59 187 123 251)))) (some x1) (.n (.n (.n (am u 129 65 193 33 161 97 225) (uO u 17) (am u 145 81 209 49 177 113 241)) (uO u 9) (.n (am u 137 73 201 41 169 105 233) (uO u 25) (am u 153 89 217 57 185 121 249))) (uO u 5) (.n (.n (am u 133 69 197 37 165 101 229) (uO u 21) (am u 149 85 213 53 181 117 245)) (uO u 13) (.n (am u 141 77 205 45 173 109 237) (uO u 29) (am u 157 93 221 61 189 125 253))))) (some x0) (.n (.n (.n (.n (am u 128 64 192 32 160 96 224) (uO u 16) (am u 144 80 208 48 176 112 240)) (uO u 8) (.n (am u 136 72 200 40 168 104 232) (uO u 24) (am u 152 88 216 56 184 120 248))) (some x4) (.n (.n (am u 132 68 196 36 164 100 228) (uO u 20) (am u 148 84 212 52 180 116 244)) (uO u 12) (.n (am u 140 76 204 44 172 108 236) (uO u 28) (am u 156 92 220 60 188 124 252)))) (uO u 2) (.n (.n (.n (am u 130 66 194 34 162 98 226) (uO u 18) (am u 146 82 210 50 178 114 242)) (uO u 10) (.n (am u 138 74 202 42 170 106 234) (uO u 26) (am u 154 90 218 58 186 122 250))) (uO u 6) (.n (.n (am u 134 70 198 38 166 102 230) (uO u 22) (am u 150 86 214 54 182 118 246)) (uO u 14) (.n (am u 142 78 206 46 174 110 238) (uO u 30) (am u 158 94 222 62 190 126 254))))))
def Um:CC:=(.reg [(qq dX (.mv z0)),(qq dS (.ln .slice dL)),(qq a4 (.mv eA))])
def bs5:=wu Um.eq_1
def Un:CC:=(.reg [(qq dN (.mv z4)),(qq fi (.bi .geq fk (x6 8)))])
def ZR:=wu Un.eq_1
def Uo:CC:=(.seq Un (.cond fl .skip (.exit 0)))
def ZS:=wu Uo.eq_1
def Up:CC:=(.reg [(qq eL (.mv z1)),(qq eM (.bi .rem fT (.c (.i .u64 100000000)))),(qq ew (.ci .u32 fm)),(qq a5 (.mv fW))])
def bs6:=wu Up.eq_1
def Uq:CC:=(.reg [(qq dG (.mv z1)),(qq eE (.bi .quo fX (.c (.i .u64 100000000)))),(qq a1 (.mv fY))])
def bs7:=wu Uq.eq_1
def Ur:CC:=(.reg [(qq eU (.mv z5)),(qq fC (.bi .quo ib (.c (.i .u32 10000)))),(qq fU (.mv z5)),(qq fp (.bi .rem ic (.c (.i .u32 10000)))),(qq a6 (.mv gi)),(qq a7 (.mv ij))])
def bs8:=wu Ur.eq_1
def Us:CC:=(.reg [(qq fD (.mv z7)),(qq iF (.bi .quo il (.c (.i .u32 100)))),(qq gu (.bi .mul iE (.c (.i .u32 2)))),(qq gH (.mv z7)),(qq ga (.bi .rem ji (.c (.i .u32 100)))),(qq iG (.bi .mul jz (.c (.i .u32 2)))),(qq a8 (.mv jh)),(qq a9 (.mv jj))])
def bs9:=wu Us.eq_1
def Ut:CC:=(.reg [(qq jb (.mv z6)),(qq iP (.bi .quo k5 (.c (.i .u32 100)))),(qq ia (.bi .mul jk (.c (.i .u32 2)))),(qq j0 (.mv z6)),(qq ie (.bi .rem k8 (.c (.i .u32 100)))),(qq jB (.bi .mul kg (.c (.i .u32 2)))),(qq cg (.mv j1)),(qq cF (.mv kh))])
def bt0:=wu Ut.eq_1
def Uu:CC:=(.dreg 15 [(0,0,(qq jc (.mv z0))),(1,0,(qq jd (.mv z4))),(2,2,(qq jm (.bi .sub ll (x6 1)))),(3,0,(qq k6 (.mv z0))),(4,0,(qq kS (.mv z4))),(5,16,(qq kT (.bi .sub mJ (x6 2)))),(6,0,(qq jv (.mv z9))),(7,64,(qq gj (.bi .add mw (.c (.i .u32 1))))),(8,192,(qq mh (.ixS (.c (.s 200 9938655150514779720929161263213647789093395803754561035662628441001274968862597953692946393464194303251501229616933063375291039650253924995779037586872666250072396106842829501851083234932712366962979930255066872747696324303968523733872590022915936937156789320557469720923390131174387415513794469201054844961267015441141542819553679203788501627738430154234325528792480477051962324423099068299719245009424585859096469223093538032153047611602695245052081125123941502624659711709950000)) mf))),(9,0,(qq k7 (.mv z9))),(10,512,(qq kd (.ixS (.c (.s 200 9938655150514779720929161263213647789093395803754561035662628441001274968862597953692946393464194303251501229616933063375291039650253924995779037586872666250072396106842829501851083234932712366962979930255066872747696324303968523733872590022915936937156789320557469720923390131174387415513794469201054844961267015441141542819553679203788501627738430154234325528792480477051962324423099068299719245009424585859096469223093538032153047611602695245052081125123941502624659711709950000)) nN))),(11,455,(qq iH (.iaS 1 kK lm))),(12,2503,(ez (.st 1 nO mM))),(13,8191,(qq mB (.iaS 1 lr lq))),(14,16383,(ez (.st 1 oF oq)))])
def bt1:=wu Uu.eq_1
def Kx:CC:=(.dreg 15 [(0,0,(qq mC (.mv z0))),(1,0,(qq kW (.mv z4))),(2,2,(qq kL (.bi .sub nP (x6 3)))),(3,0,(qq mD (.mv z0))),(4,0,(qq oy (.mv z4))),(5,16,(qq mE (.bi .sub pV (x6 4)))),(6,0,(qq mF (.mv z8))),(7,64,(qq oz (.bi .add ry (.c (.i .u32 1))))),(8,192,(qq mR (.ixS (.c (.s 200 9938655150514779720929161263213647789093395803754561035662628441001274968862597953692946393464194303251501229616933063375291039650253924995779037586872666250072396106842829501851083234932712366962979930255066872747696324303968523733872590022915936937156789320557469720923390131174387415513794469201054844961267015441141542819553679203788501627738430154234325528792480477051962324423099068299719245009424585859096469223093538032153047611602695245052081125123941502624659711709950000)) rp))),(9,0,(qq rt (.mv z8))),(10,512,(qq qb (.ixS (.c (.s 200 9938655150514779720929161263213647789093395803754561035662628441001274968862597953692946393464194303251501229616933063375291039650253924995779037586872666250072396106842829501851083234932712366962979930255066872747696324303968523733872590022915936937156789320557469720923390131174387415513794469201054844961267015441141542819553679203788501627738430154234325528792480477051962324423099068299719245009424585859096469223093538032153047611602695245052081125123941502624659711709950000)) xn))),(11,455,(qq sK (.iaS 1 ot p7))),(12,2503,(ez (.st 1 uz rq))),(13,8191,(qq pc (.iaS 1 p8 pW))),(14,16383,(ez (.st 1 xp sH)))])
def at7:=wu Kx.eq_1
def Ky:CC:=(.dreg 15 [(0,0,(qq mi (.mv z0))),(1,0,(qq pU (.mv z4))),(2,2,(qq tL (.bi .sub xr (x6 5)))),(3,0,(qq sL (.mv z0))),(4,0,(qq pd (.mv z4))),(5,16,(qq ub (.bi .sub yf (x6 6)))),(6,0,(qq uc (.mv cI))),(7,64,(qq sM (.bi .add zC (.c (.i .u32 1))))),(8,192,(qq ru (.ixS (.c (.s 200 9938655150514779720929161263213647789093395803754561035662628441001274968862597953692946393464194303251501229616933063375291039650253924995779037586872666250072396106842829501851083234932712366962979930255066872747696324303968523733872590022915936937156789320557469720923390131174387415513794469201054844961267015441141542819553679203788501627738430154234325528792480477051962324423099068299719245009424585859096469223093538032153047611602695245052081125123941502624659711709950000)) zD))),(9,0,(qq xN (.mv cI))),(10,512,(qq BB (.ixS (.c (.s 200 9938655150514779720929161263213647789093395803754561035662628441001274968862597953692946393464194303251501229616933063375291039650253924995779037586872666250072396106842829501851083234932712366962979930255066872747696324303968523733872590022915936937156789320557469720923390131174387415513794469201054844961267015441141542819553679203788501627738430154234325528792480477051962324423099068299719245009424585859096469223093538032153047611602695245052081125123941502624659711709950000)) BD))),(11,455,(qq BC (.iaS 1 xq xu))),(12,2503,(ez (.st 1 GT zE))),(13,8191,(qq xO (.iaS 1 xD xE))),(14,16383,(ez (.st 1 GU BE)))])
def at8:=wu Ky.eq_1
def Kz:CC:=(.dreg 15 [(0,0,(qq DB (.mv z0))),(1,0,(qq DC (.mv z4))),(2,2,(qq DD (.bi .sub Nx (x6 7)))),(3,0,(qq rC (.mv z0))),(4,0,(qq DR (.mv z4))),(5,16,(qq DT (.bi .sub Pz (x6 8)))),(6,0,(qq DU (.mv cm))),(7,64,(qq DV (.bi .add PH (.c (.i .u32 1))))),(8,192,(qq xA (.ixS (.c (.s 200 9938655150514779720929161263213647789093395803754561035662628441001274968862597953692946393464194303251501229616933063375291039650253924995779037586872666250072396106842829501851083234932712366962979930255066872747696324303968523733872590022915936937156789320557469720923390131174387415513794469201054844961267015441141542819553679203788501627738430154234325528792480477051962324423099068299719245009424585859096469223093538032153047611602695245052081125123941502624659711709950000)) PI))),(9,0,(qq DW (.mv cm))),(10,512,(qq DX (.ixS (.c (.s 200 9938655150514779720929161263213647789093395803754561035662628441001274968862597953692946393464194303251501229616933063375291039650253924995779037586872666250072396106842829501851083234932712366962979930255066872747696324303968523733872590022915936937156789320557469720923390131174387415513794469201054844961267015441141542819553679203788501627738430154234325528792480477051962324423099068299719245009424585859096469223093538032153047611602695245052081125123941502624659711709950000)) Nz))),(11,455,(qq xP (.iaS 1 PF PG))),(12,2503,(ez (.st 1 PK PJ))),(13,8191,(qq DY (.iaS 1 GV Ny))),(14,16383,(ez (.st 1 PL NA)))])
def at9:=wu Kz.eq_1
def KA:CC:=(.reg [(qq BV (.mv z4)),(qq DE (.bi .sub PM (x6 8))),(qq a4 (.mv z95))])
def au0:=wu KA.eq_1
def KB:CC:=(.seq Uu (.seq Kx (.seq Ky (.seq Kz KA))))
def au1:=wu KB.eq_1
def KC:CC:=(.seq Uq (.seq Ur (.seq Us (.seq Ut KB))))
def au2:=wu KC.eq_1
def KD:CC:=(.block 0 (.loop (.seq Uo (.block 1 (.seq Up KC)))))
def au3:=wu KD.eq_1
def KE:CC:=(.reg [(qq H5 (.mv z1)),(qq H6 (.ci .u32 NB)),(qq de (.mv z97))])
def MY:=wu KE.eq_1
def KF:CC:=(.reg [(qq H7 (.mv z4)),(qq BW (.bi .geq z98 (x6 4)))])
def Bh:=wu KF.eq_1
def KG:CC:=(.reg [(qq mO (.mv cT)),(qq mA (.bi .rem y5 (.c (.i .u32 10000)))),(qq cO (.mv sG))])
def MZ:=wu KG.eq_1
def KH:CC:=(.reg [(qq mP (.mv cT)),(qq pa (.bi .quo xj (.c (.i .u32 10000)))),(qq de (.mv y6))])
def N0:=wu KH.eq_1
def KI:CC:=(.reg [(qq qa (.mv cK)),(qq tG (.bi .quo y7 (.c (.i .u32 100)))),(qq uE (.bi .mul y8 (.c (.i .u32 2)))),(qq iO (.mv cK)),(qq zJ (.bi .rem y9 (.c (.i .u32 100)))),(qq xK (.bi .mul ye (.c (.i .u32 2)))),(qq dm (.mv Bx)),(qq dC (.mv Dr))])
def N3:=wu KI.eq_1
def KJ:CC:=(.dreg 15 [(0,0,(qq xL (.mv z0))),(1,0,(qq tH (.mv z4))),(2,2,(qq zK (.bi .sub GB (x6 1)))),(3,0,(qq zL (.mv z0))),(4,0,(qq zM (.mv z4))),(5,16,(qq ka (.bi .sub Dt (x6 2)))),(6,0,(qq tI (.mv dy))),(7,64,(qq BK (.bi .add Dv (.c (.i .u32 1))))),(8,192,(qq BL (.ixS (.c (.s 200 9938655150514779720929161263213647789093395803754561035662628441001274968862597953692946393464194303251501229616933063375291039650253924995779037586872666250072396106842829501851083234932712366962979930255066872747696324303968523733872590022915936937156789320557469720923390131174387415513794469201054844961267015441141542819553679203788501627738430154234325528792480477051962324423099068299719245009424585859096469223093538032153047611602695245052081125123941502624659711709950000)) GD))),(9,0,(qq BM (.mv dy))),(10,512,(qq BN (.ixS (.c (.s 200 9938655150514779720929161263213647789093395803754561035662628441001274968862597953692946393464194303251501229616933063375291039650253924995779037586872666250072396106842829501851083234932712366962979930255066872747696324303968523733872590022915936937156789320557469720923390131174387415513794469201054844961267015441141542819553679203788501627738430154234325528792480477051962324423099068299719245009424585859096469223093538032153047611602695245052081125123941502624659711709950000)) GF))),(11,455,(qq mQ (.iaS 1 Bz GC))),(12,2503,(ez (.st 1 GH GE))),(13,8191,(qq uF (.iaS 1 Ds Du))),(14,16383,(ez (.st 1 GI GG)))])
def N4:=wu KJ.eq_1
def KK:CC:=(.dreg 15 [(0,0,(qq BO (.mv z0))),(1,0,(qq uG (.mv z4))),(2,2,(qq uH (.bi .sub GK (x6 3)))),(3,0,(qq BP (.mv z0))),(4,0,(qq ow (.mv z4))),(5,16,(qq uI (.bi .sub GN (x6 4)))),(6,0,(qq uJ (.mv dB))),(7,64,(qq BQ (.bi .add GP (.c (.i .u32 1))))),(8,192,(qq BR (.ixS (.c (.s 200 9938655150514779720929161263213647789093395803754561035662628441001274968862597953692946393464194303251501229616933063375291039650253924995779037586872666250072396106842829501851083234932712366962979930255066872747696324303968523733872590022915936937156789320557469720923390131174387415513794469201054844961267015441141542819553679203788501627738430154234325528792480477051962324423099068299719245009424585859096469223093538032153047611602695245052081125123941502624659711709950000)) GQ))),(9,0,(qq BS (.mv dB))),(10,512,(qq DO (.ixS (.c (.s 200 9938655150514779720929161263213647789093395803754561035662628441001274968862597953692946393464194303251501229616933063375291039650253924995779037586872666250072396106842829501851083234932712366962979930255066872747696324303968523733872590022915936937156789320557469720923390131174387415513794469201054844961267015441141542819553679203788501627738430154234325528792480477051962324423099068299719245009424585859096469223093538032153047611602695245052081125123941502624659711709950000)) GS))),(11,455,(qq xM (.iaS 1 GJ GL))),(12,2503,(ez (.st 1 Py GR))),(13,8191,(qq NF (.iaS 1 GM GO))),(14,16383,(ez (.st 1 aa1 Px)))])
def N5:=wu KK.eq_1
def KL:CC:=(.reg [(qq NG (.mv z4)),(qq NH (.bi .sub aa3 (x6 4))),(qq a4 (.mv aa4))])
def N9:=wu KL.eq_1
def KM:CC:=(.seq KH (.seq KI (.seq KJ (.seq KK KL))))
def Na:=wu KM.eq_1
def KO:CC:=(.cond PN (.seq KG KM) .skip)
def Bi:=wu KO.eq_1
def zW:CC:=(.reg [(qq NI (.mv z4)),(qq zN (.bi .geq aa5 (x6 2)))])
def Bj:=wu zW.eq_1
def KP:CC:=(.reg [(qq NJ (.mv cT)),(qq NK (.bi .rem aa7 (.c (.i .u32 100)))),(qq NL (.bi .mul aa8 (.c (.i .u32 2)))),(qq dJ (.mv aa9))])
def Nb:=wu KP.eq_1
def KQ:CC:=(.reg [(qq PW (.mv cT)),(qq BT (.bi .quo av9 (.c (.i .u32 100)))),(qq de (.mv aw0))])
def Nc:=wu KQ.eq_1
def KR:CC:=(.dreg 15 [(0,0,(qq PX (.mv z0))),(1,0,(qq PY (.mv z4))),(2,2,(qq PZ (.bi .sub aw2 (x6 1)))),(3,0,(qq Q0 (.mv z0))),(4,0,(qq tJ (.mv z4))),(5,16,(qq Q1 (.bi .sub aw5 (x6 2)))),(6,0,(qq Q2 (.mv ec))),(7,64,(qq Q3 (.bi .add aw7 (.c (.i .u32 1))))),(8,192,(qq Q4 (.ixS (.c (.s 200 9938655150514779720929161263213647789093395803754561035662628441001274968862597953692946393464194303251501229616933063375291039650253924995779037586872666250072396106842829501851083234932712366962979930255066872747696324303968523733872590022915936937156789320557469720923390131174387415513794469201054844961267015441141542819553679203788501627738430154234325528792480477051962324423099068299719245009424585859096469223093538032153047611602695245052081125123941502624659711709950000)) aw8))),(9,0,(qq zO (.mv ec))),(10,512,(qq uK (.ixS (.c (.s 200 9938655150514779720929161263213647789093395803754561035662628441001274968862597953692946393464194303251501229616933063375291039650253924995779037586872666250072396106842829501851083234932712366962979930255066872747696324303968523733872590022915936937156789320557469720923390131174387415513794469201054844961267015441141542819553679203788501627738430154234325528792480477051962324423099068299719245009424585859096469223093538032153047611602695245052081125123941502624659711709950000)) ax0))),(11,455,(qq Q5 (.iaS 1 aw1 aw3))),(12,2503,(ez (.st 1 ax2 aw9))),(13,8191,(qq Q6 (.iaS 1 aw4 aw6))),(14,16383,(ez (.st 1 ax3 ax1)))])
def Nd:=wu KR.eq_1
def KS:CC:=(.reg [(qq Q7 (.mv z4)),(qq Q8 (.bi .sub ax4 (x6 2))),(qq a4 (.mv ax5))])
def Nf:=wu KS.eq_1
def zX:CC:=(.cond aa6 (.seq KP (.seq KQ (.seq KR KS))) .skip)
def Bk:=wu zX.eq_1
def ug:CC:=(.reg [(qq tK (.mv z4)),(qq Q9 (.bi .gtr ax6 (x6 0)))])
def au4:=wu ug.eq_1
def KT:CC:=(.reg [(qq Qa (.mv z0)),(qq Qb (.mv cT)),(qq Qc (.bi .add (.c (.i .u32 48)) ax9)),(qq uL (.ci .u8 ay0)),(qq Qd (.iaS 1 ax8 (x6 0))),(ez (.st 1 ay2 ay1))])
def au5:=wu KT.eq_1
def uh:CC:=(.cond ax7 KT .skip)
def au6:=wu uh.eq_1
def zY:CC:=(.seq (.seq KF KO) (.seq (.seq zW zX) (.seq ug uh)))
def Bl:=wu zY.eq_1
def Xu:CF:= .mk 8 [] (.seq Um (.seq KD (.seq KE zY)))
theorem cz4(v0 v1:V):bh 8 [v0,v1]=(.n (.n xC (some v1) xC) (some v0) sk7):=rfl
def ac0:=ai @cz4 (ai @bs5 (ai @ZR (ai @ZS (ai @bs6 (ai @bs7 (ai @bs8 (ai @bs9 (ai @bt0 (ai @bt1 (ai @at7 (ai @at8 (ai @at9 (ai @au0 (ai @au1 (ai @au2 (ai @au3 (ai @MY (ai @Bh (ai @MZ (ai @N0 (ai @N3 (ai @N4 (ai @N5 (ai @N9 (ai @Na (ai @Bi (ai @Bj (ai @Nb (ai @Nc (ai @Nd (ai @Nf (ai @Bk (ai @au4 (ai @au5 (ai @au6 (@Bl))))))))))))))))))))))))))))))))))))
def yh:List V:=[.i .u8 0,.i .u8 0,.i .u8 0,.i .u8 0,.i .u8 0,.i .u8 0,.i .u8 0,.i .u8 0,.i .u8 0,.i .u8 0,.i .u8 0,.i .u8 0,.i .u8 0,.i .u8 0,.i .u8 0,.i .u8 0,.i .u8 0,.i .u8 0,.i .u8 0,.i .u8 0,.i .u8 0,.i .u8 0,.i .u8 0,.i .u8 0]
theorem Ye(x:UInt8):cY (bV x)=true:=rfl
theorem jM(x:UInt8):flatten (bV x)=[bV x]:=rfl
theorem CL:∀(r l:List V) (i j:Nat) (x:V),i<j→(over l j r).set i x=over (l.set i x) j r
 |[],l,i,j,x,_=>rfl
 |y::r,l,i,j,x,h=>by rw[fJ,fJ,CL r _ i (j+1) x (by omega),List.set_comm _ _ (by omega)]
def xe(ty i:Nat)(vs:List UInt8):bq:=ax ty (over yh i (vs.map bV))
theorem eK{M:Mem}{b ty i:Nat}{vs:List UInt8}(x:UInt8)(h:i<24):cC (M.set b (xe ty (i+1) vs)) b i [bV x]=some (M.set b (xe ty i (x::vs))):=by
 unfold xe
 rw[kI _ _ _ _ _ _ (by rw[iX];show i+1≤24;omega) rfl,fJ,qI,CL _ _ _ _ _ (aL i)];rfl
theorem nS:∀(j a n:Nat),kM (a+j) n=kM a (n/10^j)++kM j n
 |0,a,n=>by rw[Nat.pow_zero,Nat.div_one,kM,cL];rfl
 |j+1,a,n=>by
  rw[←Nat.add_assoc,kM,nS j a (n/10),kM,←gf,Nat.div_div_eq_div_mul,Nat.pow_succ,Nat.mul_comm 10]
theorem aq8(a b:Nat)(hb:0<b)(ha:a<18446744073709551616):bD .quo (.i .u64 (a:Int)) (.i .u64 (b:Int))=some (.i .u64 ((a/b:Nat):Int)):=by
 have hle:a/b≤a:=Nat.div_le_self a b
 have h0:0≤((a/b:Nat):Int):=Int.natCast_nonneg _
 show(ml .u64 (a:Int) (b:Int)).val=_
 unfold ml
 rw[cB,ag (show¬((b:Int)=0) by omega),cond_false,dW,iZ,←Int.ofNat_tdiv,eS,Int.emod_eq_of_lt h0 (by omega)];rfl
theorem aq9(a b:Nat)(hb:0<b):bD .rem (.i .u64 (a:Int)) (.i .u64 (b:Int))=some (.i .u64 ((a%b:Nat):Int)):=by
 show(mm .u64 (a:Int) (b:Int)).val=_
 unfold mm
 rw[cB,ag (show¬((b:Int)=0) by omega),cond_false,dW,←Int.ofNat_tmod];rfl
theorem vq(n:Nat):kM 2 n=[UInt8.ofNat (48+(n%100)/10),UInt8.ofNat (48+(n%100)%10)]:=by
 simp only[kM,List.nil_append,List.cons_append,List.cons.injEq,and_true]
 refine⟨?_,?_⟩<;>(congr 1<;>omega)
theorem EN(n:Nat):kM 4 n=kM 2 (n%10000/100)++kM 2 (n%10000):=by
 rw[show 4=2+2 from rfl,nS]
 congr 1
 ·rw[vq,vq,show n/10^2%100=n%10000/100%100 from by simp only[Nat.reducePow];omega]
 ·rw[vq,vq,show n%100=n%10000%100 by omega]
theorem cx3(n:Nat):kM 8 n=kM 4 (n%100000000/10000)++kM 4 (n%100000000):=by
 rw[show 8=4+4 from rfl,nS]
 congr 1
 ·rw[EN,EN,show n/10^4%10000=n%100000000/10000%10000 from by simp only[Nat.reducePow];omega]
 ·rw[EN,EN,show n%10000=n%100000000%10000 by omega]
theorem ff(m j:Nat)(h:j≤m)(hm:m<1000):IntKind.i64.wrap ((m:Int)-(j:Int))=((m-j:Nat):Int):=by rw[fA (by omega) (by omega)];omega
theorem pO(p:Nat)(h:p<100):bD .mul (.i .u32 (p:Int)) (.i .u32 2)=some (.i .u32 ((2*p:Nat):Int)):=by rw[show(2:Int)=((2:Nat):Int)from rfl,aq7 _ _ (by omega),Nat.mul_comm]
theorem pP(p:Nat)(h:p<100):bD .add (.i .u32 ((2*p:Nat):Int)) (.i .u32 1)=some (.i .u32 ((2*p+1:Nat):Int)):=by rw[show(1:Int)=((1:Nat):Int)from rfl,MR _ _ (by omega)]
theorem cd6(Φ:Nat→Option CF)(h:Φ 160=some Xu){F:RO}{M:Mem}{c b ty:Nat}(hf:∀x,bF (M.set b x) F=true)(n k:Nat)(hn:n<10^k)(h64:n<18446744073709551616)(hk:k≤20):Calls Φ F 160 [.l b 1 k 23,.i .u64 (n:Int)] (M.set b (ax ty yh)) c fun _ M' c'=>M'=M.set b (ax ty (over yh 1 ((kM k n).map bV)))∧c≤c':=by
 have hv0:M.set b (ax ty yh)=M.set b (xe ty (k+1) (kM 0 n)):=rfl
 rw[hv0]
 refine az h ?_
 have T3:∀(m x:Nat) (vs:List UInt8) (c1:Nat) (u:List (Option V)),m≤1→m≤k→x<10^m→c≤c1→Wp (.seq ug uh) (K Φ none 160 F) (.mk ((Zq u (.l b 1 k 23) (.i .i64 (m:Int)) (.i .u32 (x:Int)))) [] (M.set b (xe ty (m+1) vs)) c1) (cX F [] fun _ M' c'=>M'=M.set b (xe ty 1 (kM m x++vs))∧c≤c'):=by
  intro m x vs c1 u hm hmk hx hc
  match m,hm with
  |0,_=>
   simp only[WX,Int.reduceLT,ac0,Int.ofNat_zero];exact⟨rfl,hc⟩
  |1,_=>
   have hx:x<10:=hx;have i0:jP 1 (.l b 1 k 23) (.i .i64 0)=some (.p b 1):=iV 1 b 1 k 23 0 .i64 (by omega);have ad:bD .add (.i .u32 48) (.i .u32 (x:Int))=some (.i .u32 ((48+x:Nat):Int)):=by rw[show(48:Int)=((48:Nat):Int)from rfl,MR _ _ (by omega)]
   have w8:IntKind.u8.wrap ((48+x:Nat):Int)=((48+x:Nat):Int):=me _ (by omega);have b8:=qf (48+x) (by omega);have w1:=eK (M:=M) (b:=b) (ty:=ty) (i:=1) (vs:=vs) (UInt8.ofNat (48+x)) (by omega);have hd:kM 1 x=[UInt8.ofNat (48+x)]:=by
    simp only[kM,List.nil_append]
    congr 2;omega
   rw[hd];simp only[WX,Int.reduceLT,Nat.reduceAdd,ac0,i0,ad,w8,←b8,w1,jM,Int.cast_ofNat_Int];exact hc
 have T2:∀(m x:Nat) (vs:List UInt8) (c1:Nat) (u:List (Option V)),m≤3→m≤k→x<10^m→c≤c1→Wp (.seq (.seq zW zX) (.seq ug uh)) (K Φ none 160 F) (.mk ((Zq u (.l b 1 k 23) (.i .i64 (m:Int)) (.i .u32 (x:Int)))) [] (M.set b (xe ty (m+1) vs)) c1) (cX F [] fun _ M' c'=>M'=M.set b (xe ty 1 (kM m x++vs))∧c≤c'):=by
  intro m x vs c1 u hm hmk hx hc;by_cases h2:m≤1
  ·have d:decide ((2:Int)≤(m:Int))=false:=ag (by omega);simp only[WX,Bj,Bk,d];rw[←be];exact T3 m x vs c1 (G1 (X2 (X1 (G1 (X4 (X2 (X1 (G1 (aM (aM (aM (bO (bE (X2 [])))))))))))))) h2 hmk hx hc
  obtain⟨m,rfl⟩:∃j,m=j+2:=⟨m-2,by omega⟩
  have hx4:x<1000:=Nat.lt_of_lt_of_le hx (Nat.pow_le_pow_right (by decide) hm);have d:decide ((2:Int)≤((m+2:Nat):Int))=true:=ae (by omega);have q0:bD .rem (.i .u32 (x:Int)) (.i .u32 100)=some (.i .u32 ((x%100:Nat):Int)):=oo x 100 (by omega);have q1:bD .quo (.i .u32 (x:Int)) (.i .u32 100)=some (.i .u32 ((x/100:Nat):Int)):=og x 100 (by omega) (by omega);have z1:IntKind.i64.wrap (((m+2:Nat):Int)-1)=((m+1:Nat):Int):=ff (m+2) 1 (by omega) (by omega);have i1:jP 1 (.l b 1 k 23) (.i .i64 ((m+1:Nat):Int))=some (.p b (m+2)):=by rw[iV 1 b 1 k 23 _ .i64 (by omega)];congr 2;omega
  have z2:IntKind.i64.wrap (((m+2:Nat):Int)-2)=((m:Nat):Int):=ff (m+2) 2 (by omega) (by omega);have i2:jP 1 (.l b 1 k 23) (.i .i64 ((m:Nat):Int))=some (.p b (m+1)):=by rw[iV 1 b 1 k 23 _ .i64 (by omega)];congr 2;omega
  have ml0:=pO (x%100) (by omega);have pl0:=pP (x%100) (by omega);have s0:=pC (x%100) .u32 (by omega);have t0:=pD (x%100) .u32 (by omega);have w2:=eK (M:=M) (b:=b) (ty:=ty) (i:=m+2) (vs:=vs) (UInt8.ofNat (48+(x%100)%10)) (by omega);have w1:=eK (M:=M) (b:=b) (ty:=ty) (i:=m+1) (vs:=UInt8.ofNat (48+(x%100)%10)::vs) (UInt8.ofNat (48+(x%100)/10)) (by omega);have e:kM (m+2) x++vs=kM m (x/100)++(UInt8.ofNat (48+(x%100)/10)::UInt8.ofNat (48+(x%100)%10)::vs):=by rw[nS,vq,gf];rfl
  rw[e];simp only[WX,Nat.reduceAdd,kJ,Bj,Nb,Nc,Nd,Nf,Bk,d,q0,q1,z1,i1,z2,i2,ml0,pl0,s0,t0,w2,w1,hf,jM];rw[←be];exact T3 m (x/100) _ _ (G1 (X2 (X1 (G1 (X4 (X2 (X1 (G1 (aM (aM (aM (bO (bE (X2 [])))))))))))))) (by omega) (by omega) (by rw[Nat.pow_succ,Nat.pow_succ]at hx;omega) (by omega)
 have T1:∀(m x:Nat) (vs:List UInt8) (c1:Nat) (u:List (Option V)),m≤7→m≤k→x<10^m→c≤c1→Wp zY (K Φ none 160 F) (.mk ((Zq u (.l b 1 k 23) (.i .i64 (m:Int)) (.i .u32 (x:Int)))) [] (M.set b (xe ty (m+1) vs)) c1) (cX F [] fun _ M' c'=>M'=M.set b (xe ty 1 (kM m x++vs))∧c≤c'):=by
  intro m x vs c1 u hm hmk hx hc;by_cases h2:m≤3
  ·have d:decide ((4:Int)≤(m:Int))=false:=ag (by omega);simp only[WX,Bh,Bi,Bl,d];rw[←be,←be];exact T2 m x vs c1 (G1 (X2 (X1 (G1 (X4 (X2 (X1 (G1 (aM (aM (aM (bO (bE (X2 [])))))))))))))) h2 hmk hx hc
  obtain⟨m,rfl⟩:∃j,m=j+4:=⟨m-4,by omega⟩
  have hx4:x<10000000:=Nat.lt_of_lt_of_le hx (Nat.pow_le_pow_right (by decide) hm);have d:decide ((4:Int)≤((m+4:Nat):Int))=true:=ae (by omega);have q0:bD .rem (.i .u32 (x:Int)) (.i .u32 10000)=some (.i .u32 ((x%10000:Nat):Int)):=oo x 10000 (by omega);have q1:bD .quo (.i .u32 (x:Int)) (.i .u32 10000)=some (.i .u32 ((x/10000:Nat):Int)):=og x 10000 (by omega) (by omega);have q2:bD .quo (.i .u32 ((x%10000:Nat):Int)) (.i .u32 100)=some (.i .u32 ((x%10000/100:Nat):Int)):=og (x%10000) 100 (by omega) (by omega);have q3:bD .rem (.i .u32 ((x%10000:Nat):Int)) (.i .u32 100)=some (.i .u32 ((x%10000%100:Nat):Int)):=oo (x%10000) 100 (by omega);have z1:IntKind.i64.wrap (((m+4:Nat):Int)-1)=((m+3:Nat):Int):=ff (m+4) 1 (by omega) (by omega);have i1:jP 1 (.l b 1 k 23) (.i .i64 ((m+3:Nat):Int))=some (.p b (m+4)):=by rw[iV 1 b 1 k 23 _ .i64 (by omega)];congr 2;omega
  have z2:IntKind.i64.wrap (((m+4:Nat):Int)-2)=((m+2:Nat):Int):=ff (m+4) 2 (by omega) (by omega);have i2:jP 1 (.l b 1 k 23) (.i .i64 ((m+2:Nat):Int))=some (.p b (m+3)):=by rw[iV 1 b 1 k 23 _ .i64 (by omega)];congr 2;omega
  have z3:IntKind.i64.wrap (((m+4:Nat):Int)-3)=((m+1:Nat):Int):=ff (m+4) 3 (by omega) (by omega);have i3:jP 1 (.l b 1 k 23) (.i .i64 ((m+1:Nat):Int))=some (.p b (m+2)):=by rw[iV 1 b 1 k 23 _ .i64 (by omega)];congr 2;omega
  have z4:IntKind.i64.wrap (((m+4:Nat):Int)-4)=((m:Nat):Int):=ff (m+4) 4 (by omega) (by omega);have i4:jP 1 (.l b 1 k 23) (.i .i64 ((m:Nat):Int))=some (.p b (m+1)):=by rw[iV 1 b 1 k 23 _ .i64 (by omega)];congr 2;omega
  have ml0:=pO (x%10000%100) (by omega);have pl0:=pP (x%10000%100) (by omega);have s0:=pC (x%10000%100) .u32 (by omega);have t0:=pD (x%10000%100) .u32 (by omega);have ml1:=pO (x%10000/100) (by omega);have pl1:=pP (x%10000/100) (by omega);have s1:=pC (x%10000/100) .u32 (by omega);have t1:=pD (x%10000/100) .u32 (by omega);have w4:=eK (M:=M) (b:=b) (ty:=ty) (i:=m+4) (vs:=vs) (UInt8.ofNat (48+(x%10000%100)%10)) (by omega);have w3:=eK (M:=M) (b:=b) (ty:=ty) (i:=m+3) (vs:=UInt8.ofNat (48+(x%10000%100)%10)::vs) (UInt8.ofNat (48+(x%10000%100)/10)) (by omega);have w2:=eK (M:=M) (b:=b) (ty:=ty) (i:=m+2) (vs:=UInt8.ofNat (48+(x%10000%100)/10)::UInt8.ofNat (48+(x%10000%100)%10)::vs) (UInt8.ofNat (48+(x%10000/100)%10)) (by omega);have w1:=eK (M:=M) (b:=b) (ty:=ty) (i:=m+1) (vs:=UInt8.ofNat (48+(x%10000/100)%10)::UInt8.ofNat (48+(x%10000%100)/10)::UInt8.ofNat (48+(x%10000%100)%10)::vs) (UInt8.ofNat (48+(x%10000/100)/10)) (by omega);have e:kM (m+4) x++vs=kM m (x/10000)++(UInt8.ofNat (48+(x%10000/100)/10)::UInt8.ofNat (48+(x%10000/100)%10)::UInt8.ofNat (48+(x%10000%100)/10)::UInt8.ofNat (48+(x%10000%100)%10)::vs):=by
   rw[nS,EN,vq,vq,gf,Nat.mod_eq_of_lt (show x%10000/100<100 by omega)];rfl
  rw[e];simp only[WX,Nat.reduceAdd,kJ,Bh,MZ,N0,N3,N4,N5,N9,Na,Bi,Bl,d,q0,q1,q2,q3,z1,i1,z2,i2,z3,i3,z4,i4,ml0,pl0,s0,t0,ml1,pl1,s1,t1,w4,w3,w2,w1,hf,jM];rw[←be,←be];exact T2 m (x/10000) _ _ (G1 (X2 (X1 (G1 (X4 (X2 (X1 (G1 (aM (aM (aM (bO (bE (X2 [])))))))))))))) (by omega) (by omega) (by rw[Nat.pow_add]at hx;simp only[Nat.reducePow]at hx;omega) (by omega)
 simp only[WX,ac0]
 obtain⟨I,hI⟩:∃I:Nat→St→Prop,∀j s',I j s'↔(∃(m c1 v:Nat) (vs:List UInt8) (u:List (Option V)),j=m∧m≤k∧c≤c1∧v<10^m∧v<18446744073709551616∧kM m v++vs=kM k n∧s'= .mk ((cf8 u (.l b 1 k 23) (.i .u64 (v:Int)) (.i .i64 (m:Int)))) [] (M.set b (xe ty (m+1) vs)) c1):=⟨fun j s'=>_,fun _ _=>Iff.rfl⟩
 refine bG I ?_ k _ ((hI _ _).2 ⟨k,c,n,kM 0 n,(G2 (X2 (G1 (aM (aM (aM (bO (bE (X8 (X2 [])))))))))),rfl,ah _,ah _,hn,h64,cL _,rfl⟩)
 intro m s' hIs
 obtain⟨m',c1,v,vs,u,rfl,hm,hc1,hv,hv64,hcat,rfl⟩:=(hI _ _).1 hIs
 clear hIs
 by_cases h8:m≤7
 ·have d:decide ((8:Int)≤(m:Int))=false:=ag (by omega);have hv7:v<10000000:=Nat.lt_of_lt_of_le hv (Nat.pow_le_pow_right (by decide) h8);have w0:IntKind.u32.wrap (v:Int)=(v:Int):=AJ v (by omega);simp only[WX,ZR,ZS,MY,d,w0];rw[←hcat];exact T1 m v vs c1 (G1 (X2 (X1 (G1 (X4 (X2 (X1 (G1 (aM (aM (aM (bO (bE (X2 [])))))))))))))) h8 hm hv hc1
 ·obtain⟨m,rfl⟩:∃j,m=j+8:=⟨m-8,by omega⟩
  have d:decide ((8:Int)≤((m+8:Nat):Int))=true:=ae (by omega);have q0:bD .rem (.i .u64 (v:Int)) (.i .u64 100000000)=some (.i .u64 ((v%100000000:Nat):Int)):=aq9 v 100000000 (by omega);have q1:bD .quo (.i .u64 (v:Int)) (.i .u64 100000000)=some (.i .u64 ((v/100000000:Nat):Int)):=aq8 v 100000000 (by omega) hv64;have w0:IntKind.u32.wrap ((v%100000000:Nat):Int)=((v%100000000:Nat):Int):=AJ _ (by omega);have q2:bD .quo (.i .u32 ((v%100000000:Nat):Int)) (.i .u32 10000)=some (.i .u32 ((v%100000000/10000:Nat):Int)):=og _ 10000 (by omega) (by omega);have q3:bD .rem (.i .u32 ((v%100000000:Nat):Int)) (.i .u32 10000)=some (.i .u32 ((v%100000000%10000:Nat):Int)):=oo _ 10000 (by omega);have q4:bD .quo (.i .u32 ((v%100000000/10000:Nat):Int)) (.i .u32 100)=some (.i .u32 ((v%100000000/10000/100:Nat):Int)):=og _ 100 (by omega) (by omega);have q5:bD .rem (.i .u32 ((v%100000000/10000:Nat):Int)) (.i .u32 100)=some (.i .u32 ((v%100000000/10000%100:Nat):Int)):=oo _ 100 (by omega);have q6:bD .quo (.i .u32 ((v%100000000%10000:Nat):Int)) (.i .u32 100)=some (.i .u32 ((v%100000000%10000/100:Nat):Int)):=og _ 100 (by omega) (by omega);have q7:bD .rem (.i .u32 ((v%100000000%10000:Nat):Int)) (.i .u32 100)=some (.i .u32 ((v%100000000%10000%100:Nat):Int)):=oo _ 100 (by omega);have z1:IntKind.i64.wrap (((m+8:Nat):Int)-1)=((m+7:Nat):Int):=ff (m+8) 1 (by omega) (by omega);have i1:jP 1 (.l b 1 k 23) (.i .i64 ((m+7:Nat):Int))=some (.p b (m+8)):=by rw[iV 1 b 1 k 23 _ .i64 (by omega)];congr 2;omega
  have z2:IntKind.i64.wrap (((m+8:Nat):Int)-2)=((m+6:Nat):Int):=ff (m+8) 2 (by omega) (by omega);have i2:jP 1 (.l b 1 k 23) (.i .i64 ((m+6:Nat):Int))=some (.p b (m+7)):=by rw[iV 1 b 1 k 23 _ .i64 (by omega)];congr 2;omega
  have z3:IntKind.i64.wrap (((m+8:Nat):Int)-3)=((m+5:Nat):Int):=ff (m+8) 3 (by omega) (by omega);have i3:jP 1 (.l b 1 k 23) (.i .i64 ((m+5:Nat):Int))=some (.p b (m+6)):=by rw[iV 1 b 1 k 23 _ .i64 (by omega)];congr 2;omega
  have z4:IntKind.i64.wrap (((m+8:Nat):Int)-4)=((m+4:Nat):Int):=ff (m+8) 4 (by omega) (by omega);have i4:jP 1 (.l b 1 k 23) (.i .i64 ((m+4:Nat):Int))=some (.p b (m+5)):=by rw[iV 1 b 1 k 23 _ .i64 (by omega)];congr 2;omega
  have z5:IntKind.i64.wrap (((m+8:Nat):Int)-5)=((m+3:Nat):Int):=ff (m+8) 5 (by omega) (by omega);have i5:jP 1 (.l b 1 k 23) (.i .i64 ((m+3:Nat):Int))=some (.p b (m+4)):=by rw[iV 1 b 1 k 23 _ .i64 (by omega)];congr 2;omega
  have z6:IntKind.i64.wrap (((m+8:Nat):Int)-6)=((m+2:Nat):Int):=ff (m+8) 6 (by omega) (by omega);have i6:jP 1 (.l b 1 k 23) (.i .i64 ((m+2:Nat):Int))=some (.p b (m+3)):=by rw[iV 1 b 1 k 23 _ .i64 (by omega)];congr 2;omega
  have z7:IntKind.i64.wrap (((m+8:Nat):Int)-7)=((m+1:Nat):Int):=ff (m+8) 7 (by omega) (by omega);have i7:jP 1 (.l b 1 k 23) (.i .i64 ((m+1:Nat):Int))=some (.p b (m+2)):=by rw[iV 1 b 1 k 23 _ .i64 (by omega)];congr 2;omega
  have z8:IntKind.i64.wrap (((m+8:Nat):Int)-8)=((m:Nat):Int):=ff (m+8) 8 (by omega) (by omega);have i8:jP 1 (.l b 1 k 23) (.i .i64 ((m:Nat):Int))=some (.p b (m+1)):=by rw[iV 1 b 1 k 23 _ .i64 (by omega)];congr 2;omega
  have ml0:=pO (v%100000000/10000/100) (by omega);have pl0:=pP (v%100000000/10000/100) (by omega);have s0:=pC (v%100000000/10000/100) .u32 (by omega);have t0:=pD (v%100000000/10000/100) .u32 (by omega);have ml1:=pO (v%100000000/10000%100) (by omega);have pl1:=pP (v%100000000/10000%100) (by omega);have s1:=pC (v%100000000/10000%100) .u32 (by omega);have t1:=pD (v%100000000/10000%100) .u32 (by omega);have ml2:=pO (v%100000000%10000/100) (by omega);have pl2:=pP (v%100000000%10000/100) (by omega);have s2:=pC (v%100000000%10000/100) .u32 (by omega);have t2:=pD (v%100000000%10000/100) .u32 (by omega);have ml3:=pO (v%100000000%10000%100) (by omega);have pl3:=pP (v%100000000%10000%100) (by omega);have s3:=pC (v%100000000%10000%100) .u32 (by omega);have t3:=pD (v%100000000%10000%100) .u32 (by omega);have w8:=eK (M:=M) (b:=b) (ty:=ty) (i:=m+8) (vs:=vs) (UInt8.ofNat (48+(v%100000000%10000%100)%10)) (by omega);have w7:=eK (M:=M) (b:=b) (ty:=ty) (i:=m+7) (vs:=UInt8.ofNat (48+(v%100000000%10000%100)%10)::vs) (UInt8.ofNat (48+(v%100000000%10000%100)/10)) (by omega);have w6:=eK (M:=M) (b:=b) (ty:=ty) (i:=m+6) (vs:=UInt8.ofNat (48+(v%100000000%10000%100)/10)::UInt8.ofNat (48+(v%100000000%10000%100)%10)::vs) (UInt8.ofNat (48+(v%100000000%10000/100)%10)) (by omega);have w5:=eK (M:=M) (b:=b) (ty:=ty) (i:=m+5) (vs:=UInt8.ofNat (48+(v%100000000%10000/100)%10)::UInt8.ofNat (48+(v%100000000%10000%100)/10)::UInt8.ofNat (48+(v%100000000%10000%100)%10)::vs) (UInt8.ofNat (48+(v%100000000%10000/100)/10)) (by omega);have w4:=eK (M:=M) (b:=b) (ty:=ty) (i:=m+4) (vs:=UInt8.ofNat (48+(v%100000000%10000/100)/10)::UInt8.ofNat (48+(v%100000000%10000/100)%10)::UInt8.ofNat (48+(v%100000000%10000%100)/10)::UInt8.ofNat (48+(v%100000000%10000%100)%10)::vs) (UInt8.ofNat (48+(v%100000000/10000%100)%10)) (by omega);have w3:=eK (M:=M) (b:=b) (ty:=ty) (i:=m+3) (vs:=UInt8.ofNat (48+(v%100000000/10000%100)%10)::UInt8.ofNat (48+(v%100000000%10000/100)/10)::UInt8.ofNat (48+(v%100000000%10000/100)%10)::UInt8.ofNat (48+(v%100000000%10000%100)/10)::UInt8.ofNat (48+(v%100000000%10000%100)%10)::vs) (UInt8.ofNat (48+(v%100000000/10000%100)/10)) (by omega);have w2:=eK (M:=M) (b:=b) (ty:=ty) (i:=m+2) (vs:=UInt8.ofNat (48+(v%100000000/10000%100)/10)::UInt8.ofNat (48+(v%100000000/10000%100)%10)::UInt8.ofNat (48+(v%100000000%10000/100)/10)::UInt8.ofNat (48+(v%100000000%10000/100)%10)::UInt8.ofNat (48+(v%100000000%10000%100)/10)::UInt8.ofNat (48+(v%100000000%10000%100)%10)::vs) (UInt8.ofNat (48+(v%100000000/10000/100)%10)) (by omega);have w1:=eK (M:=M) (b:=b) (ty:=ty) (i:=m+1) (vs:=UInt8.ofNat (48+(v%100000000/10000/100)%10)::UInt8.ofNat (48+(v%100000000/10000%100)/10)::UInt8.ofNat (48+(v%100000000/10000%100)%10)::UInt8.ofNat (48+(v%100000000%10000/100)/10)::UInt8.ofNat (48+(v%100000000%10000/100)%10)::UInt8.ofNat (48+(v%100000000%10000%100)/10)::UInt8.ofNat (48+(v%100000000%10000%100)%10)::vs) (UInt8.ofNat (48+(v%100000000/10000/100)/10)) (by omega);have e:kM m (v/100000000)++(UInt8.ofNat (48+(v%100000000/10000/100)/10)::UInt8.ofNat (48+(v%100000000/10000/100)%10)::UInt8.ofNat (48+(v%100000000/10000%100)/10)::UInt8.ofNat (48+(v%100000000/10000%100)%10)::UInt8.ofNat (48+(v%100000000%10000/100)/10)::UInt8.ofNat (48+(v%100000000%10000/100)%10)::UInt8.ofNat (48+(v%100000000%10000%100)/10)::UInt8.ofNat (48+(v%100000000%10000%100)%10)::vs)=kM k n:=by
   rw[←hcat,nS,cx3,EN,EN,vq,vq,vq,vq,gf,Nat.mod_eq_of_lt (show v%100000000/10000<10000 by omega),Nat.mod_eq_of_lt (show v%100000000/10000/100<100 by omega),Nat.mod_eq_of_lt (show v%100000000%10000/100<100 by omega)];rfl
  simp only[WX,Nat.reduceAdd,kJ,ac0,d,q0,q1,q2,q3,q4,q5,q6,q7,w0,z1,i1,z2,i2,z3,i3,z4,i4,z5,i5,z6,i6,z7,i7,z8,i8,ml0,pl0,s0,t0,ml1,pl1,s1,t1,ml2,pl2,s2,t2,ml3,pl3,s3,t3,w8,w7,w6,w5,w4,w3,w2,w1,hf,jM];exact⟨m,by omega,(hI _ _).2 ⟨m,_,v/100000000,_,(G2 (X2 (G1 (aM (aM (aM (bO (bE (X8 (X2 [])))))))))),rfl,by omega,by omega,by rw[Nat.pow_add]at hv;simp only[Nat.reducePow]at hv;omega,by omega,e,rfl⟩⟩
def So:CC:=(.reg [(qq a4 (.mv (.c (.s 0 0))))])
def Sp:CC:=(.reg [(qq cg (.mv z1)),(qq cF (.bi .eql cm (x6 10)))])
def Sq:CC:=(.reg [(qq de (.mv z0)),(qq cO (.bi .leq (x6 0) cT)),(qq dm (.mv cK)),(ak dC (.mv z0) dm),(ak dJ (.bi .lss dy (x6 100)) dm),(qq dX (.pk dB ec xF))])
def Sr:CC:=(.reg [(qq dS (.mv z0)),(ee dN (.call 158 [eA])),(qq a4 (.mv fk))])
def Ss:CC:=(.cond dL (.seq Sr .ret) .skip)
def Su:CC:=(.reg [(aa a5 (.al 214 [(.i .u8 0),(.i .u8 0),(.i .u8 0),(.i .u8 0),(.i .u8 0),(.i .u8 0),(.i .u8 0),(.i .u8 0),(.i .u8 0),(.i .u8 0),(.i .u8 0),(.i .u8 0),(.i .u8 0),(.i .u8 0),(.i .u8 0),(.i .u8 0),(.i .u8 0),(.i .u8 0),(.i .u8 0),(.i .u8 0),(.i .u8 0),(.i .u8 0),(.i .u8 0),(.i .u8 0)]))])
def Sv:CC:=(.reg [(qq fi (.mv z0)),(qq eL (.ci .u64 fl)),(qq a6 (.mv fT))])
def Sw:CC:=(.reg [(qq eM (.mv z0)),(qq ew (.bi .lss fm (x6 0)))])
def Sx:CC:=(.reg [(qq dG (.mv z6)),(qq eE (.un .neg fX)),(qq a6 (.mv fY))])
def Jv:CC:=(.seq Sw (.cond fW Sx .skip))
def Jw:CC:=(.reg [(qq eU (.mv z6)),(ee fC (.call 159 [ib])),(qq a7 (.mv gi))])
def Jx:CC:=(.reg [(qq fU (.mv z7)),(qq fp (.bi .add (x6 1) ic)),(qq fD (.slA 24 1 z5 (some (x6 1)) (some ij) none)),(qq iF (.mv z6)),(ee gu (.call 160 [il,iE]))])
def Jy:CC:=(.reg [(qq gH (.mv z0)),(qq ga (.bi .lss ji (x6 0)))])
def Jz:CC:=(.reg [(qq iG (.iaA 24 1 z5 (x6 0))),(ez (.st 1 jj (.c (.i .u8 45))))])
def JA:CC:=(.reg [(qq jb (.mv z7)),(qq iP (.bi .add (x6 1) k5)),(qq ia (.slA 24 1 z5 none (some jk) none)),(qq j0 (.bs j1)),(qq a4 (.mv k8))])
def JB:CC:=(.cond jz (.seq Jz (.seq JA .ret)) .skip)
def JC:CC:=(.reg [(qq ie (.mv z7)),(qq jB (.bi .add (x6 1) kg)),(qq jc (.slA 24 1 z5 (some (x6 1)) (some kh) none)),(qq jd (.bs kK)),(qq a4 (.mv ll))])
def JD:CC:=(.seq Jx (.seq (.seq Jy JB) (.seq JC .ret)))
def JE:CC:=(.seq Su (.seq Sv (.seq Jv (.seq Jw JD))))
def JF:CC:=(.cond cI (.seq (.seq Sq Ss) JE) .skip)
def JG:CC:=(.reg [(qq k6 (.mv z0)),(qq kS (.ci .u64 lr)),(qq kT (.mv z1)),(qq jv (.mv z0)),(qq gj (.bi .lss mw (x6 0))),(ee mh (.call 161 [(.c .l0),mJ,lq,mf,xF])),(qq jm (.mv mM)),(qq k7 (.ex 0 lm)),(qq kd (.ex 1 lm)),(qq a8 (.mv nN)),(qq a9 (.mv oq))])
def JH:CC:=(.reg [(qq iH (.mv z9)),(qq a4 (.mv nO))])
def JI:CC:=(.seq (.seq Sp JF) (.seq JG (.seq JH .ret)))
def ae8:CF:= .mk 6 [.t a4] (.seq So JI)
theorem cy5(v0 v1:V):bh 6 [v0,v1]=(.n (.n oE (some v1) oE) (some v0) zn):=rfl
def PP:=ai @cy5 (ai (wu So.eq_1) (ai (wu Sp.eq_1) (ai (wu Sq.eq_1) (ai (wu Sr.eq_1) (ai (wu Ss.eq_1) (ai (wu Su.eq_1) (ai (wu Sv.eq_1) (ai (wu Sw.eq_1) (ai (wu Sx.eq_1) (ai (wu Jv.eq_1) (ai (wu Jw.eq_1) (ai (wu Jx.eq_1) (ai (wu Jy.eq_1) (ai (wu Jz.eq_1) (ai (wu JA.eq_1) (ai (wu JB.eq_1) (ai (wu JC.eq_1) (ai (wu JD.eq_1) (ai (wu JE.eq_1) (ai (wu JF.eq_1) (ai (wu JG.eq_1) (ai (wu JH.eq_1) (wu JI.eq_1)))))))))))))))))))))))
def aX6:CC:=(.reg [(qq a3 (.mv z0)),(ee a4 (.call 128 [z3,(x6 10)])),(qq a2 (.mv z4))])
def aX7:CC:=(.seq (.reg [(qq a2 (.mv (.c (.s 0 0))))]) (.seq aX6 .ret))
def c90:CF:= .mk 3 [.t a2] aX7
theorem e90(v0:V):bh 3 [v0]=(.n mL (some v0) mL):=rfl
def B90:=ai @e90 (ai (wu aX6.eq_1) (wu aX7.eq_1))
def aN6:CC:=(.reg [(qq a3 (.mv z0)),(ee a4 (.call 90 [z3])),(qq a2 (.mv z4))])
def aN7:CC:=(.seq (.reg [(qq a2 (.mv (.c (.s 0 0))))]) (.seq aN6 .ret))
def c44:CF:= .mk 3 [.t a2] aN7
theorem e44(v0:V):bh 3 [v0]=(.n mL (some v0) mL):=rfl
def B44:=ai @e44 (ai (wu aN6.eq_1) (wu aN7.eq_1))
def Zh(n sz:Nat)(x:V)(lo hi mx:Option V):Option V:=(cS (.slA n sz (.c x) (lo.map .c) (hi.map .c) (mx.map .c)) [] .e .e).val
theorem map_none{α β:Type}(f:α→β)(o:Option α):(o.map f).isNone=o.isNone:=by cases o<;>rfl
theorem MS{F:RO}(n sz:Nat)(x:X)(lo hi mx:Option X)(M:Mem)(t:T):(cS (.slA n sz x lo hi mx) F M t).val=Zh n sz (x.ev t) (lo.map fun x=>x.ev t) (hi.map fun x=>x.ev t) (mx.map fun x=>x.ev t):=by
 show(bif mx.isNone||hi.isSome then rX (x.ev t) .f fun b o=>wq n sz b o (optN t 0 lo) (optN t n hi) (optN t n mx)else .f).val=(bif _||_ then rX (x.ev t) .f fun b o=>wq n sz b o (optN .e 0 _) (optN .e n _) (optN .e n _)else .f).val
 rw[nk,nk,nk]
 cases mx<;>cases hi<;>rfl
theorem MG(n sz b o l h:Nat)(h1:l≤h)(h2:h≤n)(h1003:l<n):(wq n sz b o (some l) (some h) (some n)).val=some (.l b (o+l*sz) (h-l) (n-l)):=by
 show(tn sz b o n l h n).val=_
 unfold tn
 rw[bL,bL,bL,bp,ae (ah n),ae h2,ae h1,ag (show¬n=l by omega)]
 show(mkL b (o+l*sz) (h-l) (n-l)).val=_
 rw[Fl];rfl
theorem Zi(n sz b o l h:Nat)(k k':IntKind)(h1:l≤h)(h2:h≤n)(h1003:l<n):Zh n sz (.p b o) (some (.i k (l:Int))) (some (.i k' (h:Int))) none=some (.l b (o+l*sz) (h-l) (n-l)):=MG n sz b o l h h1 h2 h1003
theorem bi7(n sz b o h:Nat)(k':IntKind)(h2:h≤n)(h1003:0<n):Zh n sz (.p b o) none (some (.i k' (h:Int))) none=some (.l b o h n):=by
 have:=MG n sz b o 0 h (aF _) h2 h1003
 rw[Nat.zero_mul,bT,Nat.sub_zero,Nat.sub_zero]at this
 exact this
theorem AM(k:IntKind)(n:Int):unV .neg (.i k n)=some (.i k (k.wrap (0-n))):=by
 show(vI k (wr k (Int.sub 0 n))).val=_
 rw[dW,iZ];rfl
theorem CK:∀(vs l:List V) (i j:Nat),i+vs.length≤l.length→(over l i vs)[j]?=if i≤j∧j<i+vs.length then vs[j-i]? else l[j]?
 |[],l,i,j,h=>by rw[qI,ab (by simp only[bU];omega)]
 |v::r,l,i,j,h=>by
  simp only[aX]at h;rw[fJ,CK r _ (i+1) j (by simp;omega)];simp only[aX];by_cases h0:j=i
  ·subst h0;rw[ab (by omega),ac (by omega),Nat.sub_self,List.getElem?_cons_zero,List.getElem?_set_self (by omega)]
  ·by_cases h1:i≤j∧j<i+(r.length+1)
   ·rw[ac (by omega),ac h1,show j-i=(j-(i+1))+1 by omega,List.getElem?_cons_succ]
   ·rw[ab (by omega),ab h1,List.getElem?_set_ne (by omega)]
theorem D3{F:RO}{M:Mem}{b c ty o cap:Nat}{row:List V}{l:List UInt8}(hM:M.get b=some (ax ty (over row o (l.map bV))))(hb:b<c)(hl:o+l.length≤row.length)(hc:l.length≤cap):ov F M c (.l b o l.length cap) l:=by
 have e1:(l.map fun x=>[bV x]).length=l.length:=List.length_map ..
 have e2:(l.map fun x=>[bV x]).flatten=l.map bV:=by
  clear hM hl hc e1
  induction l with
  |nil=>rfl
  |cons x l ih=>rw[List.map_cons,List.flatten_cons,ih];rfl
 refine⟨fun e he=>by obtain⟨x,_,rfl⟩:=List.mem_map.1 he;rfl,.inr ⟨b,o,.inl ⟨cap,by rw[e1];exact hc,by rw[e1]⟩,hb,?_⟩⟩
 rw[e2]
 intro k hk
 rw[List.length_map]at hk
 have hr:ja F M b (over row o (l.map bV)):=ny hM
 rw[hr.load1,CK _ _ _ _ (by rw[List.length_map];exact hl),List.length_map,ac (by omega),Nat.add_sub_cancel_left]
theorem yY(n:Nat)(h:n<10000000):1≤nd n∧nd n≤7∧n<10^nd n:=by
 obtain⟨k1,k2,k3⟩:=jQ n (by omega)
 refine⟨k1,?_,k3⟩
 by_cases c0:n<10
 ·have:=j7 0 20 n (.inl rfl) c0 (by omega);show Fm 20 n≤7;omega
 by_cases c1:n<100
 ·have:=j7 1 20 n (.inr (by omega)) (by omega) (by omega);show Fm 20 n≤7;omega
 by_cases c2:n<1000
 ·have:=j7 2 20 n (.inr (by omega)) (by omega) (by omega);show Fm 20 n≤7;omega
 by_cases c3:n<10000
 ·have:=j7 3 20 n (.inr (by omega)) (by omega) (by omega);show Fm 20 n≤7;omega
 by_cases c4:n<100000
 ·have:=j7 4 20 n (.inr (by omega)) (by omega) (by omega);show Fm 20 n≤7;omega
 by_cases c5:n<1000000
 ·have:=j7 5 20 n (.inr (by omega)) (by omega) (by omega);show Fm 20 n≤7;omega
 ·have:=j7 6 20 n (.inr (by omega)) (by omega) (by omega);show Fm 20 n≤7;omega
theorem xw:yh.length=24:=rfl
def tS:List V→Option V
 |[.i .u64 (.ofNat n)]=>if 1≤n∧n<18446744073709551616 then some (.i .i64 (nd n:Int))else none
 |_=>none
theorem Lk{n:Nat}(h1:1≤n)(h2:n<18446744073709551616):tS [.i .u64 (n:Int)]=some (.i .i64 (nd n:Int)):=ac ⟨h1,h2⟩
theorem Fs(l:List V)(x:V)(r:List V):(over l 1 r).set 0 x=over l 0 (x::r):=by
 have key:∀(r l:List V) (i:Nat),1≤i→(over l i r).set 0 x=over (l.set 0 x) i r:=by
  intro r
  induction r with
  |nil=>intro l i _;rfl
  |cons y r ih=>intro l i hi;rw[fJ,fJ,ih _ _ (by omega),List.set_comm _ _ (by omega)]
 rw[key r l 1 (ah _),fJ]
theorem cI2(Φ:Nat→Option CF)(h:Φ 128=some ae8){L:List eT}(vF:Φ 158=some (.orc (bg vF)))(tS:Φ 159=some (.orc (eQ L tS)))(h160:Φ 160=some Xu)
 {F:RO} {M:Mem} {c:Nat} (ok:d9 F M c) (ht:bA F L=true) (n:Int) (hn1: -9223372036854775808≤n) (hn2:n≤9223372036854775807):Calls Φ F 128 [.i .i64 n,.i .i64 10] M c fun r _ _=>r=sV (bI n):=by
 refine az h ?_
 have hT:=fun h args M c=>en ht h args M c
 by_cases hs:0≤n∧n<100
 ·obtain⟨m,rfl⟩:=Int.eq_ofNat_of_zero_le hs.1;have d1:decide ((0:Int)≤(m:Int))=true:=ae (by omega);have d2:decide ((m:Int)<100)=true:=ae (by omega);simp only[WX,PP,d1,d2,vF,aj8 (show m<100 by omega)];rfl
 ·have hfree:∀x,bF (M.set c x) F=true:=fun x=>ok.free_set x;have cD:=ok.set c (ax 214 yh) (ah _) (aL _);by_cases h0:0≤n
  ·obtain⟨m,rfl⟩:=Int.eq_ofNat_of_zero_le h0;have d1:decide ((0:Int)≤(m:Int))=true:=ae (by omega);have d2:decide ((m:Int)<100)=false:=ag (by omega);have d3:decide ((m:Int)<0)=false:=ag (by omega);have w1:IntKind.u64.wrap (m:Int)=(m:Int):=by rw[eS];omega
   obtain⟨k1,k2,k3⟩:=jQ m (by omega);have ha:bD .add (.i .i64 1) (.i .i64 (nd m:Int))=some (.i .i64 ((1+nd m:Nat):Int)):=by rw[aO _ _ (by omega) (by omega)];simp
   have hsl:Zh 24 1 (.p c 0) (some (.i .i64 1)) (some (.i .i64 ((1+nd m:Nat):Int))) none=some (.l c 1 (nd m) 23):=by
    have:=Zi 24 1 c 0 1 (1+nd m) .i64 .i64 (by omega) (by omega) (by omega);rw[show 1+nd m-1=nd m by omega]at this;exact this
   simp only[WX,PP,d1,d2,d3,w1,tS,hT,Lk (show 1≤m by omega) (show m<18446744073709551616 by omega),ha,MS,hsl];refine av ((cd6 Φ h160 hfree m (nd m) k3 (by omega) k2).mono ?_);rintro v M1 c1 ⟨rfl,hc1⟩;have hb:=yq (D3 (F:=F) (M:=M.set c (ax 214 (over yh 1 ((kM (nd m) m).map bV)))) (b:=c) (c:=c+1) (o:=1) (cap:=23) (au _ _ _) (by omega) (by rw[fF,xw];omega) (by rw[fF];omega));rw[fF]at hb;simp only[WX,PP,d3,ha,MS,hsl,hb];rfl
  ·obtain⟨m,rfl⟩:=Int.eq_negSucc_of_lt_zero (show n<0 by omega);have d1:decide ((0:Int)≤Int.negSucc m)=false:=ag (by omega);have d3:decide (Int.negSucc m<0)=true:=ae (by omega);have w1:IntKind.u64.wrap (Int.negSucc m)=18446744073709551615-(m:Int):=by rw[eS];omega
   have w2:IntKind.u64.wrap (0-(18446744073709551615-(m:Int)))=((m+1:Nat):Int):=by rw[eS];omega
   obtain⟨k1,k2,k3⟩:=jQ (m+1) (by omega);have ha:bD .add (.i .i64 1) (.i .i64 (nd (m+1):Int))=some (.i .i64 ((1+nd (m+1):Nat):Int)):=by rw[aO _ _ (by omega) (by omega)];simp
   have hsl:Zh 24 1 (.p c 0) (some (.i .i64 1)) (some (.i .i64 ((1+nd (m+1):Nat):Int))) none=some (.l c 1 (nd (m+1)) 23):=by
    have:=Zi 24 1 c 0 1 (1+nd (m+1)) .i64 .i64 (by omega) (by omega) (by omega);rw[show 1+nd (m+1)-1=nd (m+1) by omega]at this;exact this
   have hsl2:=bi7 24 1 c 0 (1+nd (m+1)) .i64 (by omega) (by omega);simp only[WX,PP,d1,d3,w1,w2,AM,tS,hT,Lk (show 1≤m+1 by omega) (show m+1<18446744073709551616 by omega),ha,MS,hsl];refine av ((cd6 Φ h160 hfree (m+1) (nd (m+1)) k3 (by omega) k2).mono ?_);rintro v M1 c1 ⟨rfl,hc1⟩;have hia:=Lx 24 1 c 0 0 .i64 (by omega);have hst:cC (M.set c (ax 214 (over yh 1 ((kM (nd (m+1)) (m+1)).map bV)))) c 0 [V.i .u8 45]=some (M.set c (ax 214 (over yh 0 ((45::kM (nd (m+1)) (m+1)).map bV)))):=by
    rw[kI _ _ _ _ _ _ (by rw[iX,xw];simp) rfl,fJ,qI,Fs];rfl
   have hb:=yq (D3 (F:=F) (M:=M.set c (ax 214 (over yh 0 ((45::kM (nd (m+1)) (m+1)).map bV)))) (b:=c) (c:=c+1) (o:=0) (cap:=24) (au _ _ _) (by omega) (by rw[aX,fF,xw];omega) (by rw[aX,fF];omega));rw[aX,fF,Nat.add_comm (nd (m+1)) 1]at hb;rw[show((0:Nat):Int)=0 from rfl]at hia;simp only[WX,PP,d3,ha,MS,Dh,hia,hst,hsl2,hb];rfl
def vE:List V→Option V
 |[.i .i64 n,.i .i64 10]=>if -9223372036854775808≤n∧n≤9223372036854775807 then some (sV (bI n))else none
 |_=>none
theorem aj7{n:Int}(h1: -9223372036854775808≤n)(h2:n≤9223372036854775807):vE [.i .i64 n,.i .i64 10]=some (sV (bI n)):=ac ⟨h1,h2⟩
def DG:List V→Option V
 |[.i .i64 n]=>if -9223372036854775808≤n∧n≤9223372036854775807 then some (sV (bI n))else none
 |_=>none
theorem jN{n:Int}(h1: -9223372036854775808≤n)(h2:n≤9223372036854775807):DG [.i .i64 n]=some (sV (bI n)):=ac ⟨h1,h2⟩
theorem r90(Φ:Nat→Option CF)(h:Φ 90=some c90){L:List eT}(vE:Φ 128=some (.orc (eQ L vE))){F:RO}{M:Mem}{c:Nat}(ht:bA F L=true)(n:Int)(hn1: -9223372036854775808≤n)(hn2:n≤9223372036854775807):Calls Φ F 90 [.i .i64 n] M c fun r _ _=>r=sV (bI n):=by
 refine az h ?_
 have hT:=fun h args M c=>en ht h args M c
 simp only[WX,B90,vE,hT,aj7 hn1 hn2]
theorem r44(Φ:Nat→Option CF)(h:Φ 44=some c44){L:List eT}(DG:Φ 90=some (.orc (eQ L DG))){F:RO}{M:Mem}{c:Nat}(ht:bA F L=true)(n:Int)(hn1: -9223372036854775808≤n)(hn2:n≤9223372036854775807):Calls Φ F 44 [.i .i64 n] M c fun r _ _=>r=sV (bI n):=by
 refine az h ?_
 have hT:=fun h args M c=>en ht h args M c
 simp only[WX,B44,DG,hT,jN hn1 hn2]
def Sa:CC:=(.reg [(qq a6 (.mv (x6 0))),(qq a7 (.mv (.c .a0)))])
def Sb:CC:=(.reg [(qq de (.mv z0)),(qq cO (.bi .eql cT (.c (.s 0 0))))])
def Sc:CC:=(.reg [(qq dm (.mki 177 (x6 2))),(qq a6 (.mv (x6 0))),(qq a7 (.mv dB))])
def Sd:CC:=(.seq Sb (.cond cK (.seq Sc .ret) .skip))
def Se:CC:=(.reg [(qq a8 (.mv xF))])
def Sf:CC:=(.reg [(qq dC (.mv z0)),(qq dJ (.ixS dy (x6 0)))])
def Sg:CC:=(.reg [(qq dS (.bi .eql ec (.c (.i .u8 43)))),(qq dX (.mv eA))])
def Si:CC:=(.reg [(qq dN (.mv z0)),(qq fi (.slS fk (some (x6 1)) none)),(qq a0 (.mv fl))])
def Sj:CC:=(.reg [(qq eM (.bi .eql ec (.c (.i .u8 45)))),(qq eL (.mv fm))])
def J4:CC:=(.reg [(qq ew (.mv z0)),(qq dG (.slS fW (some (x6 1)) none)),(qq a0 (.mv fX))])
def J5:CC:=(.reg [(qq a8 (.mv xT))])
def J6:CC:=(.cond fT (.seq J4 J5) .skip)
def J7:CC:=(.cond dL Si (.seq Sj J6))
def J8:CC:=(.reg [(qq a9 (.mv (.c (.i .u64 0))))])
def J9:CC:=(.reg [(qq eU (.mv z0)),(qq fC (.mv z1)),(qq fU (.mv z2)),(ee fp (.call 120 [ib,gi,ic])),(qq eE (.mv ij)),(qq fD (.ex 0 fY)),(qq iF (.ex 1 fY)),(qq a9 (.mv il)),(qq a7 (.mv iE))])
def Ja:CC:=(.reg [(qq gu (.mv z7)),(qq gH (.eq true .iface true jh (.c .a0))),(qq ga (.mv ji)),(ak iG (.mv z7) ga),(ak jb (.mki 177 (x6 1)) ga),(ak iP (.eq true (.ifs [2,3,5,6,12,21,22,29,121,136,142,157,160,177,197,226,263,264,266,267]) false jj k5) ga),(qq ia (.pk jz jk xF))])
def Jb:CC:=(.reg [(qq j0 (.mv z7)),(qq a6 (.mv (x6 0))),(qq a7 (.mv k8))])
def Jc:CC:=(.cond j1 (.seq Jb .ret) .skip)
def Jd:CC:=(.reg [(qq ie (.mv z2)),(qq jB (.bi .eql kg (x6 0)))])
def Je:CC:=(.cond kh (.reg [(qq a2 (.mv (x6 64)))]) .skip)
def Jf:CC:=(.reg [(qq jc (.mv z2)),(qq jd (.bi .sub kK (x6 1))),(qq jm (.ci .u64 ll)),(qq k6 (.bi .shl (.c (.i .u64 1)) lm)),(qq cg (.mv lr))])
def Jg:CC:=(.reg [(qq kS (.mv z8)),(qq kT (.un .not mJ)),(qq jv (.mv lq)),(ak gj (.mv z9) jv),(ak mh (.mv cm) jv),(ak k7 (.bi .geq mf mM) jv),(qq kd (.pk mw nN xF))])
def Jh:CC:=(.reg [(qq iH (.mv cm)),(qq mB (.bi .sub nO (.c (.i .u64 1)))),(qq mC (.ci .i64 oF)),(qq kW (.mki 177 (x6 1))),(qq a6 (.mv ot)),(qq a7 (.mv nP))])
def Ji:CC:=(.cond oq (.seq Jh .ret) .skip)
def Jj:CC:=(.reg [(qq kL (.mv z8)),(qq mD (.mv p7)),(ak oy (.mv z9) mD),(ak mE (.mv cm) mD),(ak mF (.bi .gtr pV pW) mD),(qq oz (.pk p8 ry xF))])
def Jk:CC:=(.reg [(qq mR (.mv cm)),(qq rt (.ci .i64 rq)),(qq qb (.un .neg xn)),(qq sK (.mki 177 (x6 1))),(qq a6 (.mv sH)),(qq a7 (.mv uz))])
def Jl:CC:=(.cond rp (.seq Jk .ret) .skip)
def Jm:CC:=(.reg [(qq pc (.mv z9)),(qq mi (.ci .i64 xp)),(qq cF (.mv xq))])
def Jn:CC:=(.reg [(qq pU (.mv z8))])
def Jo:CC:=(.reg [(qq tL (.mv cI)),(qq sL (.un .neg xu)),(qq cF (.mv xD))])
def Jp:CC:=(.seq Jn (.cond xr Jo .skip))
def Jq:CC:=(.reg [(qq pd (.mv cI)),(qq a6 (.mv yf)),(qq a7 (.mv (.c .a0)))])
def Jr:CC:=(.seq (.seq Jj Jl) (.seq Jm (.seq Jp (.seq Jq .ret))))
def Js:CC:=(.seq (.seq Jd Je) (.seq Jf (.seq (.seq Jg Ji) Jr)))
def Jt:CC:=(.seq J8 (.seq J9 (.seq (.seq Ja Jc) Js)))
def Ju:CC:=(.seq (.seq Sf (.block 0 (.seq Sg J7))) Jt)
def Ez:CF:= .mk 7 [.t a6,.t a7] (.seq Sa (.seq Sd (.seq Se Ju)))
theorem cy2(v0 v1 v2:V):bh 7 [v0,v1,v2]=(.n (.n zn (some v1) zn) (some v0) (.n zn (some v2) zn)):=rfl
def rz:=ai @cy2 (ai (wu Sa.eq_1) (ai (wu Sb.eq_1) (ai (wu Sc.eq_1) (ai (wu Sd.eq_1) (ai (wu Se.eq_1) (ai (wu Sf.eq_1) (ai (wu Sg.eq_1) (ai (wu Si.eq_1) (ai (wu Sj.eq_1) (ai (wu J4.eq_1) (ai (wu J5.eq_1) (ai (wu J6.eq_1) (ai (wu J7.eq_1) (ai (wu J8.eq_1) (ai (wu J9.eq_1) (ai (wu Ja.eq_1) (ai (wu Jb.eq_1) (ai (wu Jc.eq_1) (ai (wu Jd.eq_1) (ai (wu Je.eq_1) (ai (wu Jf.eq_1) (ai (wu Jg.eq_1) (ai (wu Jh.eq_1) (ai (wu Ji.eq_1) (ai (wu Jj.eq_1) (ai (wu Jk.eq_1) (ai (wu Jl.eq_1) (ai (wu Jm.eq_1) (ai (wu Jn.eq_1) (ai (wu Jo.eq_1) (ai (wu Jp.eq_1) (ai (wu Jq.eq_1) (ai (wu Jr.eq_1) (ai (wu Js.eq_1) (ai (wu Jt.eq_1) (wu Ju.eq_1))))))))))))))))))))))))))))))))))))
def cJ(z:Int):Prop:= -9223372036854775808≤z∧z≤9223372036854775807
theorem i9(x:Int):cJ (IntKind.i64.wrap x):=by
 unfold cJ
 rw[nK .i64 x 18446744073709551616 9223372036854775808 rfl rfl rfl]
 split<;>omega
theorem cd5(Φ:Nat→Option CF)(h:Φ 123=some Ez)(h120:Φ 120=some xR)(h149:Φ 149=some (.orc (bg h149))){F:RO}{M:Mem}{c:Nat}(ok:d9 F M c)(l:List UInt8)(hl:l.length≤1000000):
 Calls Φ F 123 [sV l,.i .i64 10,.i .i64 0] M c fun r M' c'=>∃(z:Int) (e:V),r= .t [.i .i64 z,e]∧xH e∧Gr c M c' M'∧cJ z:=by
 refine az h ?_
 by_cases h0:l=[]
 ·have e0:bD .eql (sV l) (.s 0 0)=some (.b true):=by
   have:=gk l [];rw[ae h0]at this;exact this
  simp only[WX,rz,e0,fh];exact⟨0,_,rfl,.inr (.inr rfl),Gr.refl ok,⟨by decide,by decide⟩⟩
 ·have e0:bD .eql (sV l) (.s 0 0)=some (.b false):=by
   have:=gk l [];rw[ag h0]at this;exact this
  have hlen:1≤l.length:=by
   cases l with
   |nil=>exact absurd rfl h0
   |cons _ _=>simp
  have hix:rP (sV l) (.i .i64 0)=some (.i .u8 (l[0].toNat:Int)):=oC l .i64 0 (by omega);have hd:=tl l .i64 1 hlen;rw[show((1:Nat):Int)=1 from rfl]at hd;have hdl:(l.drop 1).length≤1000000:=by rw[bP];omega
  have wz:bD .sub (.i .i64 64) (.i .i64 1)=some (.i .i64 63):=by rw[eF];rfl
  have w87:IntKind.u64.wrap 63=63:=rfl;have sh:bD .shl (.i .u64 1) (.i .u64 63)=some (.i .u64 9223372036854775808):=by have:=Eo .u64 .u64 1 63;exact this.trans rfl
  have rest:∀(neg:Bool) (n:Nat) (e:V) (M1:Mem) (c1:Nat),xH e→Gr c M c1 M1→True:=fun _ _ _ _ _ _ _=>trivial;have fin:∀{M1:Mem} {c1:Nat},Gr c M c1 M1→ ∀(z:Int) (e:V),xH e→cJ z→ ∃(z':Int) (e':V),V.t [.i .i64 z,e]= .t [.i .i64 z',e']∧xH e'∧Gr c M c1 M1∧cJ z':=fun g z e he hz=>⟨z,e,rfl,he,g,hz⟩;have hm1:rT 177 [2,3,5,6,12,21,22,29,121,136,142,157,160,177,197,226,263,264,266,267]=true:=rfl;by_cases h103:l[0].toNat=43
  ·have d43:decide ((l[0].toNat:Int)=43)=true:=ae (by omega);simp only[WX,rz,e0,hix,d43,hd];refine av ((bh9 Φ h120 h149 ok (l.drop 1) hdl).mono ?_);rintro r M1 c1 ⟨n,e,rfl,hn,he,hg⟩;rcases he with rfl|rfl|rfl
   ·cases hq:decide ((9223372036854775808:Int)≤(n:Int))<;>cases hq2:decide ((9223372036854775808:Int)<(n:Int))<;>simp only[WX,rz,qp,fh,wz,w87,sh,hq]
    all_goals exact fin hg _ _ (by first|exact .inl rfl|exact .inr (.inl rfl)) (by first|exact i9 _|exact⟨by decide,by decide⟩)
   ·cases hq:decide ((9223372036854775808:Int)≤(n:Int))<;>cases hq2:decide ((9223372036854775808:Int)<(n:Int))<;>simp only[WX,rz,kz,kA,hm1,fh,wz,w87,sh,hq]
    all_goals exact fin hg _ _ (by first|exact .inl rfl|exact .inr (.inl rfl)) (by first|exact i9 _|exact⟨by decide,by decide⟩)
   ·simp only[WX,Int.reduceEq,rz,kz,kA,hm1,fh];exact fin hg _ _ (.inr (.inr rfl)) (by first|exact i9 _|exact⟨by decide,by decide⟩)
  ·have d43:decide ((l[0].toNat:Int)=43)=false:=ag (by omega);by_cases h104:l[0].toNat=45
   ·have d45:decide ((l[0].toNat:Int)=45)=true:=ae (by omega);simp only[WX,rz,e0,hix,d43,d45,hd];refine av ((bh9 Φ h120 h149 ok (l.drop 1) hdl).mono ?_);rintro r M1 c1 ⟨n,e,rfl,hn,he,hg⟩;rcases he with rfl|rfl|rfl
    ·cases hq:decide ((9223372036854775808:Int)≤(n:Int))<;>cases hq2:decide ((9223372036854775808:Int)<(n:Int))<;>simp only[WX,rz,qp,fh,wz,w87,sh,hq2,AM]
     all_goals exact fin hg _ _ (by first|exact .inl rfl|exact .inr (.inl rfl)) (by first|exact i9 _|exact⟨by decide,by decide⟩)
    ·cases hq:decide ((9223372036854775808:Int)≤(n:Int))<;>cases hq2:decide ((9223372036854775808:Int)<(n:Int))<;>simp only[WX,rz,kz,kA,hm1,fh,wz,w87,sh,hq2,AM]
     all_goals exact fin hg _ _ (by first|exact .inl rfl|exact .inr (.inl rfl)) (by first|exact i9 _|exact⟨by decide,by decide⟩)
    ·simp only[WX,Int.reduceEq,rz,kz,kA,hm1,fh];exact fin hg _ _ (.inr (.inr rfl)) (by first|exact i9 _|exact⟨by decide,by decide⟩)
   ·have d45:decide ((l[0].toNat:Int)=45)=false:=ag (by omega);simp only[WX,rz,e0,hix,d43,d45];refine av ((bh9 Φ h120 h149 ok l hl).mono ?_);rintro r M1 c1 ⟨n,e,rfl,hn,he,hg⟩;rcases he with rfl|rfl|rfl
    ·cases hq:decide ((9223372036854775808:Int)≤(n:Int))<;>cases hq2:decide ((9223372036854775808:Int)<(n:Int))<;>simp only[WX,rz,qp,fh,wz,w87,sh,hq]
     all_goals exact fin hg _ _ (by first|exact .inl rfl|exact .inr (.inl rfl)) (by first|exact i9 _|exact⟨by decide,by decide⟩)
    ·cases hq:decide ((9223372036854775808:Int)≤(n:Int))<;>cases hq2:decide ((9223372036854775808:Int)<(n:Int))<;>simp only[WX,rz,kz,kA,hm1,fh,wz,w87,sh,hq]
     all_goals exact fin hg _ _ (by first|exact .inl rfl|exact .inr (.inl rfl)) (by first|exact i9 _|exact⟨by decide,by decide⟩)
    ·simp only[WX,Int.reduceEq,rz,kz,kA,hm1,fh];exact fin hg _ _ (.inr (.inr rfl)) (by first|exact i9 _|exact⟨by decide,by decide⟩)
abbrev cf6(u:List (Option V))(x0 x5 x6:V):T:=(.n (.n (.n (.n (am u 63 31 95 15 79 47 111) (uO u 7) (am u 71 39 103 23 87 55 119)) (uO u 3) (.n (am u 67 35 99 19 83 51 115) (uO u 11) (am u 75 43 107 27 91 59 123))) (uO u 1) (.n (.n (am u 65 33 97 17 81 49 113) (uO u 9) (am u 73 41 105 25 89 57 121)) (some x5) (.n (am u 69 37 101 21 85 53 117) (uO u 13) (am u 77 45 109 29 93 61 125)))) (some x0) (.n (.n (.n (am u 64 32 96 16 80 48 112) (uO u 8) (am u 72 40 104 24 88 56 120)) (uO u 4) (.n (am u 68 36 100 20 84 52 116) (uO u 12) (am u 76 44 108 28 92 60 124))) (uO u 2) (.n (.n (am u 66 34 98 18 82 50 114) (uO u 10) (am u 74 42 106 26 90 58 122)) (some x6) (.n (am u 70 38 102 22 86 54 118) (uO u 14) (am u 78 46 110 30 94 62 126)))))
abbrev cf7(u:List (Option V))(x0 x5 x6 x47 x48 x49:V):T:=(.n (.n (.n (.n (.n (hU u 63 31 95) (uO u 15) (.n (ju u 79) (some x47) (ju u 111))) (uO u 7) (am u 71 39 103 23 87 55 119)) (uO u 3) (.n (am u 67 35 99 19 83 51 115) (uO u 11) (am u 75 43 107 27 91 59 123))) (uO u 1) (.n (.n (.n (hU u 65 33 97) (uO u 17) (.n (ju u 81) (some x49) (ju u 113))) (uO u 9) (am u 73 41 105 25 89 57 121)) (some x5) (.n (am u 69 37 101 21 85 53 117) (uO u 13) (am u 77 45 109 29 93 61 125)))) (some x0) (.n (.n (.n (.n (hU u 64 32 96) (uO u 16) (.n (ju u 80) (some x48) (ju u 112))) (uO u 8) (am u 72 40 104 24 88 56 120)) (uO u 4) (.n (am u 68 36 100 20 84 52 116) (uO u 12) (am u 76 44 108 28 92 60 124))) (uO u 2) (.n (.n (am u 66 34 98 18 82 50 114) (uO u 10) (am u 74 42 106 26 90 58 122)) (some x6) (.n (am u 70 38 102 22 86 54 118) (uO u 14) (am u 78 46 110 30 94 62 126)))))
def aV0:CC:=(.reg [(qq a2 (.mv (x6 0))),(qq a3 (.mv (.c .a0)))])
def tz:=wu aV0.eq_1
def aV1:CC:=(.reg [(qq cF (.mv z0)),(qq de (.ln .str cI)),(qq a4 (.mv cT))])
def tA:=wu aV1.eq_1
def aV2:CC:=(.reg [(qq cO (.mv xF)),(ak dm (.mv z4) cO),(ak dC (.bi .lss (x6 0) dB) cO),(ak dJ (.mv dy) cO),(ak dX (.mv z4) dJ),(ak dS (.bi .lss dL (x6 10)) dJ),(ak dN (.pk ec eA xF) cO),(qq fi (.pk cK fk xF)),(qq eL (.mv fl)),(aU eM (.mv xT) eL),(ak ew (.mv z4) eM),(ak dG (.bi .lss (x6 0) fW) eM),(ak eE (.mv fX) eM),(ak eU (.mv z4) eE),(ak fC (.bi .lss ib (x6 19)) eE),(ak fU (.pk fY gi xF) eM),(aU fp (.pk fm ic xF) eL),(qq fD (.pk fT xT ij))])
def tB:=wu aV2.eq_1
def aV3:CC:=(.reg [(qq iF (.mv z0)),(qq a5 (.mv iE))])
def zA:=wu aV3.eq_1
def aV4:CC:=(.reg [(qq gu (.mv z0)),(qq gH (.ixS jh (x6 0))),(qq ga (.bi .eql ji (.c (.i .u8 45)))),(qq iG (.mv jz)),(aU jb (.mv z0) iG),(aU iP (.ixS k5 (x6 0)) iG),(aU ia (.bi .eql jk (.c (.i .u8 43))) iG),(qq j0 (.pk jj xT j1))])
def zB:=wu aV4.eq_1
def aV5:CC:=(.reg [(qq ie (.mv z0)),(qq jB (.slS kg (some (x6 1)) none)),(qq a0 (.mv kh))])
def Di:=wu aV5.eq_1
def aV6:CC:=(.reg [(qq jc (.mv z0)),(qq jd (.ln .str kK)),(qq jm (.bi .lss ll (x6 1)))])
def Dj:=wu aV6.eq_1
def aV7:CC:=(.reg [(qq k6 (.mki 177 (x6 2))),(qq a2 (.mv (x6 0))),(qq a3 (.mv lr))])
def a04:=wu aV7.eq_1
def aV8:CC:=(.cond lm (.seq aV7 .ret) .skip)
def Dk:=wu aV8.eq_1
def WG:CC:=(.cond k8 (.seq aV5 (.seq aV6 aV8)) .skip)
def sD:=wu WG.eq_1
def WH:CC:=(.reg [(qq a6 (.mv (x6 0)))])
def Bt:=wu WH.eq_1
def WI:CC:=(.reg [(qq kS (.mv z0)),(aa kT (.sb 5 mJ)),(qq jv (.ln .slice lq)),(qq gj (.mv (x6 0)))])
def bv7:=wu WI.eq_1
def WJ:CC:=(.reg [(qq mh (.bi .lss mf mw))])
def bv8:=wu WJ.eq_1
def WK:CC:=(.reg [(qq k7 (.iaS 1 lq mf)),(qq kd (.ld1 nN)),(qq a8 (.mv oq))])
def bv9:=wu WK.eq_1
def WN:CC:=(.reg [(qq iH (.mv z8)),(qq mB (.bi .sub nO (.c (.i .u8 48)))),(qq a8 (.mv oF))])
def bw0:=wu WN.eq_1
def WO:CC:=(.reg [(qq mC (.mv z8)),(qq kW (.bi .gtr ot (.c (.i .u8 9))))])
def bw1:=wu WO.eq_1
def WP:CC:=(.reg [(qq kL (.mki 177 (x6 2))),(qq a2 (.mv (x6 0))),(qq a3 (.mv p7))])
def bw2:=wu WP.eq_1
def WQ:CC:=(.cond nP (.seq WP .ret) .skip)
def bw3:=wu WQ.eq_1
def WR:CC:=(.reg [(qq mD (.mv z6)),(qq oy (.bi .mul p8 (x6 10))),(qq mE (.mv z8)),(qq mF (.ci .i64 pW)),(qq oz (.bi .add pV ry)),(qq a6 (.mv rp))])
def bw4:=wu WR.eq_1
def WS:CC:=(.seq WK (.seq WN (.seq (.seq WO WQ) WR)))
def bw5:=wu WS.eq_1
def WT:CC:=(.reg [(qq mR (.bi .add mf (x6 1))),(qq gj (.mv rq))])
def bw6:=wu WT.eq_1
def WU:CC:=(.seq (.cond mM .skip (.exit 0)) (.seq (.block 1 WS) WT))
def bw7:=wu WU.eq_1
def WV:CC:=(.reg [(qq rt (.mv z5)),(qq qb (.ixS xn (x6 0))),(qq sK (.bi .eql sH (.c (.i .u8 45))))])
def bw8:=wu WV.eq_1
def WW:CC:=(.reg [(qq pc (.mv z6)),(qq mi (.un .neg xp)),(qq a6 (.mv xq))])
def bw9:=wu WW.eq_1
def WY:CC:=(.seq WV (.cond uz WW .skip))
def bx0:=wu WY.eq_1
def WZ:CC:=(.reg [(qq pU (.mv z6)),(qq a2 (.mv xr)),(qq a3 (.mv (.c .a0)))])
def bx1:=wu WZ.eq_1
def Eh:CC:=(.seq (.seq WI (.block 0 (.loop (.seq WJ WU)))) (.seq WY (.seq WZ .ret)))
def bx2:=wu Eh.eq_1
def X0:CC:=(.seq aV3 (.seq (.seq aV4 WG) (.seq WH Eh)))
def sE:=wu X0.eq_1
def X3:CC:=(.seq aV2 (.cond il X0 .skip))
def nI:=wu X3.eq_1
def X5:CC:=(.reg [(qq sL (.mv z0)),(ee pd (.call 123 [xD,(x6 10),(x6 0)])),(qq tL (.mv yf)),(qq ub (.ex 0 xu)),(qq uc (.ex 1 xu)),(qq a9 (.mv xE)),(qq cg (.mv zC))])
def Gx:=wu X5.eq_1
def X6:CC:=(.reg [(qq sM (.mv z9)),(qq ru (.mv cm)),(qq a2 (.mv zD)),(qq a3 (.mv zE))])
def bx3:=wu X6.eq_1
def X7:CC:=(.seq aV0 (.seq aV1 (.seq X3 (.seq X5 (.seq X6 .ret)))))
def nJ:=wu X7.eq_1
def c87:CF:= .mk 7 [.t a2,.t a3] X7
theorem e87(v0:V):bh 7 [v0]=(.n xC (some v0) xC):=rfl
def B87:=ai @e87 (ai @tz (ai @tA (ai @tB (ai @zA (ai @zB (ai @Di (ai @Dj (ai @a04 (ai @Dk (ai @sD (ai @Bt (ai @bv7 (ai @bv8 (ai @bv9 (ai @bw0 (ai @bw1 (ai @bw2 (ai @bw3 (ai @bw4 (ai @bw5 (ai @bw6 (ai @bw7 (ai @bw8 (ai @bw9 (ai @bx0 (ai @bx1 (ai @bx2 (ai @sE (ai @nI (ai @Gx (ai @bx3 (@nJ))))))))))))))))))))))))))))))))
def kQ(l:List UInt8):Nat:=l.foldl (fun a x=>a*10+(x.toNat-48)) 0
def je(x:UInt8):Prop:=48≤x.toNat∧x.toNat≤57
theorem sv(l:List UInt8)(x:UInt8):kQ (l++[x])=kQ l*10+(x.toNat-48):=by simp[kQ]
theorem qm:∀(k n:Nat),∀x∈kM k n,je x
 |0,n,x,h=>by cases h
 |k+1,n,x,h=>by
  rw[kM]at h;rcases List.mem_append.1 h with h|h
  ·exact qm k (n/10) x h
  ·rw[List.mem_singleton]at h;subst h;unfold je;rw[UInt8.toNat_ofNat',Nat.mod_eq_of_lt (by omega)];omega
theorem wS:∀(k n:Nat),n<10^k→kQ (kM k n)=n
 |0,n,h=>by have:n=0:=by simpa using h
            subst this;rfl
 |k+1,n,h=>by
  rw[kM,sv,wS k (n/10) (by rw[Nat.pow_succ]at h;omega),UInt8.toNat_ofNat',Nat.mod_eq_of_lt (by omega)];omega
theorem lP{m:Int}(h1: -10000000<m)(h2:m<10000000):(1≤(bI m).length∧(bI m).length≤8)∧
 ((0≤m∧(∀x∈bI m,je x)∧(kQ (bI m):Int)=m)∨(m<0∧ ∃r,bI m=45::r∧r≠[]∧(∀x∈r,je x)∧(kQ r:Int)= -m)):=by
 cases m with
 |ofNat n=>
  obtain⟨k1,k2,k3⟩:=yY n (by have:(n:Int)<10000000:=h2;omega);have hl:(bI (Int.ofNat n)).length=nd n:=fF _ _;refine⟨by omega,.inl ⟨Int.natCast_nonneg n,qm _ _,?_⟩⟩;show(kQ (kM (nd n) n):Int)=(n:Int)
  rw[wS _ _ k3]
 |negSucc n=>
  obtain⟨k1,k2,k3⟩:=yY (n+1) (by omega);have hl:(bI (Int.negSucc n)).length=nd (n+1)+1:=by show(45::gP (n+1)).length=_;rw[aX,gP,fF]
  refine⟨by omega,.inr ⟨by omega,gP (n+1),rfl,?_,qm _ _,?_⟩⟩
  ·intro e;have:=congrArg List.length e;rw[gP,fF,bU]at this;omega
  ·rw[gP,wS _ _ k3];omega
theorem AQ:∀(k:Nat) (l:List UInt8),l.length=k→(∀x∈l,je x)→kQ l<10^k
 |0,l,h,_=>by rw[List.length_eq_zero_iff]at h;subst h;decide
 |k+1,l,h,hd=>by
  have hne:l≠[]:=by intro e;subst e;simp at h
  have e:=List.dropLast_concat_getLast hne;have h1:=AQ k l.dropLast (by simp;omega) fun x hx=>hd x (List.dropLast_subset l hx);have h2:=hd (l.getLast hne) (List.getLast_mem hne);rw[←e,sv,Nat.pow_succ];unfold je at h2;omega
theorem FT{Φ:Nat→Option CF}{F:RO}{M:Mem}{c:Nat}(ok:d9 F M c)(l l':List UInt8)(hl:1≤l.length)(hl':l'.length≤18)(u:List (Option V)):
 Wp Eh (K Φ none 87 F) (.mk ((cf6 u (sV l') (sV l) (.i .i64 0))) [] M c) (fun e s=>e= .ret∧ ∃(t:T) (M':Mem) (c':Nat) (z:Int) (er:V),s= .mk t [] M' c'∧cq t (.r .h)= .i .i64 z∧cq t (.l (.l .h))=er∧xH er∧Gr c M c' M'∧cJ z∧((∀x∈l',je x)→er= .a0∧z=if l[0].toNat=45 then -(kQ l':Int)else(kQ l':Int))):=by
 have gX:Gr c M (c+1) (M.set c (nA 5 l')):=(Gr.refl ok).set c _ (ah _) (aL _) (aP _)
 have hsl:ov F (M.set c (nA 5 l')) (c+1) (.u c 0 l'.length 0 l'.length) l':=FP (au _ _ _) (aL _)
 simp only[WX,B87,DZ,Z7]
 generalize M.set c (nA 5 l')=X at gX hsl⊢
 obtain⟨I1,hI1⟩:∃I:Nat→St→Prop,∀n s',I n s'↔(∃(i:Nat) (u:List (Option V)),n=l'.length-i∧i≤l'.length∧(∀x∈l'.take i,je x)∧s'= .mk ((cf7 u (sV l') (sV l) (.i .i64 (kQ (l'.take i):Int)) (.u c 0 l'.length 0 l'.length) (.i .i64 (l'.length:Int)) (.i .i64 (i:Int)))) [] X (c+1)):=⟨fun n s'=>_,fun _ _=>Iff.rfl⟩
 refine bG I1 ?_ l'.length _ ((hI1 _ _).2 ⟨0,(G1 (X4 (G2 (bO (X8 (G2 (G1 (aM (X8 (X4 (X1 []))))))))))),rfl,aF _,(by intro x hx;cases hx),rfl⟩)
 intro n s' hIs
 obtain⟨i,u,rfl,hi,hdg,rfl⟩:=(hI1 _ _).1 hIs
 clear hIs
 by_cases hlt:i<l'.length
 ·have d1:decide ((i:Int)<(l'.length:Int))=true:=ae (by omega);obtain⟨b1,o1,_,ia1,ld1⟩:=hsl.get i hlt;have hx:l'[i].toNat<256:=UInt8.toNat_lt l'[i];have q8:bD .add (.i .i64 (i:Int)) (.i .i64 1)=some (.i .i64 ((i+1:Nat):Int)):=by rw[aO _ _ (by omega) (by omega)];simp
  have htk:l'.take (i+1)=l'.take i++[l'[i]]:=List.take_succ_eq_append_getElem hlt;by_cases hA:je l'[i]
  ·have hA':=hA;unfold je at hA';have s1:bD .sub (.i .u8 (l'[i].toNat:Int)) (.i .u8 48)=some (.i .u8 ((l'[i].toNat-48:Nat):Int)):=by rw[eF,bS];congr 2;omega
   have e1004:decide ((9:Int)<((l'[i].toNat-48:Nat):Int))=false:=ag (by omega);have hv:=AQ i (l'.take i) (by rw[List.length_take];omega) hdg;have hv2:kQ (l'.take i)<10^17:=Nat.lt_of_lt_of_le hv (Nat.pow_le_pow_right (by decide) (by omega));simp only[Nat.reducePow]at hv2;have m1:bD .mul (.i .i64 (kQ (l'.take i):Int)) (.i .i64 10)=some (.i .i64 ((kQ (l'.take i)*10:Nat):Int)):=by rw[qA _ _ (by omega) (by omega)];simp
   have w1:IntKind.i64.wrap ((l'[i].toNat-48:Nat):Int)=((l'[i].toNat-48:Nat):Int):=fA (by omega) (by omega);have a1:bD .add (.i .i64 ((kQ (l'.take i)*10:Nat):Int)) (.i .i64 ((l'[i].toNat-48:Nat):Int))=some (.i .i64 ((kQ (l'.take (i+1)):Nat):Int)):=by
    rw[aO _ _ (by omega) (by omega),htk,sv];simp
   simp only[WX,B87,d1,ia1,ld1,s1,e1004,m1,w1,a1,q8];refine⟨l'.length-(i+1),by omega,(hI1 _ _).2 ⟨i+1,(G1 (X4 (G2 (bO (X8 (G2 (G1 (aM (X8 (X4 (X1 []))))))))))),rfl,by omega,?_,rfl⟩⟩;intro x hx;rw[htk]at hx;rcases List.mem_append.1 hx with hx|hx
   ·exact hdg x hx
   ·rw[List.mem_singleton]at hx;subst hx;exact hA
  ·have hA':=hA;unfold je at hA';obtain⟨y,s1,hy⟩:∃y:Nat,bD .sub (.i .u8 (l'[i].toNat:Int)) (.i .u8 48)=some (.i .u8 (y:Int))∧9<y:=by
    by_cases h1048:48≤l'[i].toNat
    ·exact⟨l'[i].toNat-48,by rw[eF,bS];congr 2;omega,by omega⟩
    ·exact⟨l'[i].toNat+208,by rw[eF,bS];congr 2;omega,by omega⟩
   have e1004:decide ((9:Int)<(y:Int))=true:=ae (by omega);simp only[WX,B87,d1,ia1,ld1,s1,e1004,fh];refine⟨_,_,_,0,_,rfl,rfl,rfl,.inr (.inr rfl),gX,⟨by decide,by decide⟩,fun hall=>absurd (hall l'[i] (List.getElem_mem hlt)) hA⟩
 ·have d1:decide ((i:Int)<(l'.length:Int))=false:=ag (by omega);obtain rfl:i=l'.length:=by omega
  rw[List.take_length]at hdg⊢;have hv:=AQ l'.length l' rfl hdg;have hv2:kQ l'<10^18:=Nat.lt_of_lt_of_le hv (Nat.pow_le_pow_right (by decide) (by omega));simp only[Nat.reducePow]at hv2;have hix:rP (sV l) (.i .i64 0)=some (.i .u8 (l[0].toNat:Int)):=oC l .i64 0 (by omega);by_cases h104:l[0].toNat=45
  ·have e1005:decide ((l[0].toNat:Int)=45)=true:=ae (by omega);have wn:IntKind.i64.wrap (0-(kQ l':Int))= -(kQ l':Int):=by rw[fA (by omega) (by omega)];omega
   simp only[WX,reduceCtorEq,B87,d1,hix,e1005,AM,wn];exact⟨_,_,_,_,_,rfl,rfl,rfl,.inl rfl,gX,⟨by omega,by omega⟩,fun _=>⟨rfl,by rw[ac h104]⟩⟩
  ·have e1005:decide ((l[0].toNat:Int)=45)=false:=ag (by omega);simp only[WX,reduceCtorEq,B87,d1,hix,e1005];exact⟨_,_,_,_,_,rfl,rfl,rfl,.inl rfl,gX,⟨by omega,by omega⟩,fun _=>⟨rfl,by rw[ab h104]⟩⟩
theorem r87(Φ:Nat→Option CF)(h:Φ 87=some c87)(h123:Φ 123=some Ez)(h120:Φ 120=some xR)(h149:Φ 149=some (.orc (bg h149))){F:RO}{M:Mem}{c:Nat}(ok:d9 F M c)(l:List UInt8)(hl:l.length≤1000000):
 Calls Φ F 87 [sV l] M c fun r M' c'=>∃(z:Int) (e:V),r= .t [.i .i64 z,e]∧xH e∧Gr c M c' M'∧cJ z∧(∀m,-10000000<m→m<10000000→l=bI m→z=m∧e= .a0):=by
 refine az h ?_
 by_cases hs:1≤l.length∧l.length<19
 ·obtain⟨hs1,hs2⟩:=hs;have d1:decide ((0:Int)<(l.length:Int))=true:=ae (by omega);have d2:decide ((l.length:Int)<19)=true:=ae (by omega);have hix:rP (sV l) (.i .i64 0)=some (.i .u8 (l[0].toNat:Int)):=oC l .i64 0 (by omega);have hd:=tl l .i64 1 hs1;rw[show((1:Nat):Int)=1 from rfl]at hd;have conv:∀x:UInt8,x.toNat=45→x=45:=fun x hx=>UInt8.toNat_inj.1 (by rw[hx];rfl)
  have shp:∀m,-10000000<m→m<10000000→l=bI m→(l[0].toNat=45∧l.drop 1≠[]∧(∀x∈l.drop 1,je x)∧m= -(kQ (l.drop 1):Int))∨(l[0].toNat≠45∧l[0].toNat≠43∧(∀x∈l,je x)∧m=(kQ l:Int)):=by
   intro m m1 m2 e;obtain⟨_,h1|h1⟩:=lP m1 m2
   ·right;obtain⟨h2,h1003,h1004⟩:=h1;rw[←e]at h1003 h1004;have:=h1003 l[0] (List.getElem_mem _);unfold je at this;exact⟨by omega,by omega,h1003,h1004.symm⟩
   ·left;obtain⟨h2,r,h1003,h1004,h1005,h1006⟩:=h1;have hlr:l=45::r:=by rw[e,h1003]
    subst hlr;exact⟨rfl,h1004,h1005,by rw[List.drop_one,List.tail_cons];omega⟩
  by_cases h104:l[0].toNat=45
  ·have d45:decide ((l[0].toNat:Int)=45)=true:=ae (by omega);by_cases hlen1:(l.drop 1).length<1
   ·have dl:decide (((l.drop 1).length:Int)<1)=true:=ae (by omega);simp only[WX,e87,tz,tA,tB,zA,zB,Di,Dj,a04,Dk,sD,sE,nI,nJ,d1,d2,hix,d45,hd,dl,fh];refine⟨_,_,rfl,.inr (.inr rfl),Gr.refl ok,⟨by decide,by decide⟩,fun m m1 m2 e=>?_⟩;rcases shp m m1 m2 e with⟨_,h2,_⟩|⟨h2,_⟩
    ·exact absurd (List.length_eq_zero_iff.1 (by omega)) h2
    ·exact absurd h104 h2
   ·have dl:decide (((l.drop 1).length:Int)<1)=false:=ag (by omega);simp only[WX,e87,tz,tA,tB,zA,zB,Di,Dj,Dk,sD,Bt,sE,nI,nJ,d1,d2,hix,d45,hd,dl];refine(FT ok l (l.drop 1) hs1 (by rw[bP];omega) (G1 (X4 (G2 (aM (bO (bE (X8 [])))))))).mono ?_;rintro e s ⟨rfl,t,M',c',z,er,rfl,g1,g2,he,hg,hrg,hval⟩;simp only[WX,g1,g2];refine⟨z,er,rfl,he,hg,hrg,fun m m1 m2 e=>?_⟩;rcases shp m m1 m2 e with⟨_,_,h1003,h1004⟩|⟨h2,_⟩
    ·obtain⟨a1,a2⟩:=hval h1003;rw[ac h104]at a2;exact⟨a2.trans h1004.symm,a1⟩
    ·exact absurd h104 h2
  ·have d45:decide ((l[0].toNat:Int)=45)=false:=ag (by omega);by_cases h103:l[0].toNat=43
   ·have d43:decide ((l[0].toNat:Int)=43)=true:=ae (by omega);by_cases hlen1:(l.drop 1).length<1
    ·have dl:decide (((l.drop 1).length:Int)<1)=true:=ae (by omega);simp only[WX,e87,tz,tA,tB,zA,zB,Di,Dj,a04,Dk,sD,sE,nI,nJ,d1,d2,hix,d45,d43,hd,dl,fh];refine⟨_,_,rfl,.inr (.inr rfl),Gr.refl ok,⟨by decide,by decide⟩,fun m m1 m2 e=>?_⟩;rcases shp m m1 m2 e with⟨h2,_⟩|⟨_,h2,_⟩
     ·exact absurd h2 h104
     ·exact absurd h103 h2
    ·have dl:decide (((l.drop 1).length:Int)<1)=false:=ag (by omega);simp only[WX,e87,tz,tA,tB,zA,zB,Di,Dj,Dk,sD,Bt,sE,nI,nJ,d1,d2,hix,d45,d43,hd,dl];refine(FT ok l (l.drop 1) hs1 (by rw[bP];omega) (G1 (X4 (G2 (aM (bO (bE (X8 [])))))))).mono ?_;rintro e s ⟨rfl,t,M',c',z,er,rfl,g1,g2,he,hg,hrg,hval⟩;simp only[WX,g1,g2];refine⟨z,er,rfl,he,hg,hrg,fun m m1 m2 e=>?_⟩;rcases shp m m1 m2 e with⟨h2,_⟩|⟨_,h2,_⟩
     ·exact absurd h2 h104
     ·exact absurd h103 h2
   ·have d43:decide ((l[0].toNat:Int)=43)=false:=ag (by omega);simp only[WX,e87,tz,tA,tB,zA,zB,sD,Bt,sE,nI,nJ,d1,d2,hix,d45,d43];refine(FT ok l l hs1 (by omega) (G1 (X4 (G2 (aM (bO (bE (X8 [])))))))).mono ?_;rintro e s ⟨rfl,t,M',c',z,er,rfl,g1,g2,he,hg,hrg,hval⟩;simp only[WX,g1,g2];refine⟨z,er,rfl,he,hg,hrg,fun m m1 m2 e=>?_⟩;rcases shp m m1 m2 e with⟨h2,_⟩|⟨_,_,h1003,h1004⟩
    ·exact absurd h2 h104
    ·obtain⟨a1,a2⟩:=hval h1003;rw[ab h104]at a2;exact⟨a2.trans h1004.symm,a1⟩
 ·have hno:∀m,-10000000<m→m<10000000→l≠bI m:=by
   intro m m1 m2 e;obtain⟨⟨h1,h2⟩,_⟩:=lP m1 m2;rw[←e]at h1 h2;omega
  have fin:∀{z:Int} {e:V} {M1:Mem} {c1:Nat},xH e→Gr c M c1 M1→cJ z→ ∃(z':Int) (e':V),V.t [.i .i64 z,e]= .t [.i .i64 z',e']∧xH e'∧Gr c M c1 M1∧cJ z'∧(∀m,-10000000<m→m<10000000→l=bI m→z'=m∧e'= .a0):=fun he hg hrg=>⟨_,_,rfl,he,hg,hrg,fun m m1 m2 e=>absurd e (hno m m1 m2)⟩;cases d1:decide ((0:Int)<(l.length:Int))with
  |true=>
   have d2:decide ((l.length:Int)<19)=false:=ag (by rw[decide_eq_true_eq]at d1;omega);simp only[WX,e87,tz,tA,tB,nI,Gx,nJ,d1,d2];refine av ((cd5 Φ h123 h120 h149 ok l hl).mono ?_);rintro r M1 c1 ⟨z,e,rfl,he,hg,hrg⟩;simp only[WX,B87];exact fin he hg hrg
  |false=>
   simp only[WX,e87,tz,tA,tB,nI,Gx,nJ,d1];refine av ((cd5 Φ h123 h120 h149 ok l hl).mono ?_);rintro r M1 c1 ⟨z,e,rfl,he,hg,hrg⟩;simp only[WX,B87];exact fin he hg hrg
def TO:CC:=(.reg [(qq a4 (.mv z0)),(qq a5 (.ln .str z4)),(qq a6 (.bi .eql z5 (x6 0)))])
def TP:CC:=(.seq (.reg [(qq a2 (.mv (.c (.s 0 0))))]) .ret)
def TQ:CC:=(.reg [(qq a7 (.mv z0)),(qq a8 (.ln .str z7)),(aa a9 (.mks 5 1 1 [(.i .u8 0)] z8 z8)),(qq a3 (.mv z9))])
def TR:CC:=(.reg [(qq cg (.mv z3)),(qq cF (.mv z0)),(ee de (.cpy 1 cm cI))])
def TS:CC:=(.reg [(qq cO (.mv z3)),(qq dm (.iaS 1 cK (x6 0))),(qq dC (.mv z3)),(qq dJ (.ln .slice dy)),(ee dX (.us 5 dB ec)),(qq a2 (.mv dL))])
def TT:CC:=(.seq (.seq TO (.cond z6 TP .skip)) (.seq TQ (.seq TR (.seq TS .ret))))
def TU:CC:=(.seq (.reg [(qq a2 (.mv (.c (.s 0 0))))]) TT)
def af1:CF:= .mk 5 [.t a2] TU
theorem cz1(v0:V):bh 5 [v0]=(.n oE (some v0) oE):=rfl
def bA5:=ai @cz1 (ai (wu TO.eq_1) (ai (wu TP.eq_1) (ai (wu TQ.eq_1) (ai (wu TR.eq_1) (ai (wu TS.eq_1) (ai (wu TT.eq_1) (wu TU.eq_1)))))))
def Sk:CC:=(.dreg 7 [(0,0,(qq a5 (.mv z0))),(1,0,(qq a6 (.mv z1))),(3,0,(qq a8 (.ld1 (.c (.p 0 0))))),(2,2,(ee a7 (.call 156 [z6]))),(4,15,(qq a9 (.bld [(.s 0 0),(.s 0 0),.a0] [(0,1,z5),(1,1,z7),(2,1,z8)]))),(5,31,(aa cg (.bx 212 3 z9))),(6,63,(qq a4 (.mv cm)))])
def Sl:CC:=(.seq (.reg [(qq a4 (.mv (.c .p0)))]) (.seq Sk .ret))
def C7:CF:= .mk 4 [.t a4] Sl
theorem cy3(v0 v1:V):bh 4 [v0,v1]=(.n (.n mL (some v1) mL) (some v0) iC):=rfl
def cv0:=ai @cy3 (ai (wu Sk.eq_1) (wu Sl.eq_1))
def Sm:CC:=(.dreg 7 [(0,0,(qq a5 (.mv z0))),(1,0,(qq a6 (.mv z1))),(3,0,(qq a8 (.ld1 (.c (.p 1 0))))),(2,2,(ee a7 (.call 156 [z6]))),(4,15,(qq a9 (.bld [(.s 0 0),(.s 0 0),.a0] [(0,1,z5),(1,1,z7),(2,1,z8)]))),(5,31,(aa cg (.bx 212 3 z9))),(6,63,(qq a4 (.mv cm)))])
def Sn:CC:=(.seq (.reg [(qq a4 (.mv (.c .p0)))]) (.seq Sm .ret))
def C8:CF:= .mk 4 [.t a4] Sn
theorem cy4(v0 v1:V):bh 4 [v0,v1]=(.n (.n mL (some v1) mL) (some v0) iC):=rfl
def cv1:=ai @cy4 (ai (wu Sm.eq_1) (wu Sn.eq_1))
def aV9:CC:=(.reg [(qq cg (.mv (.c .a0)))])
def aW0:CC:=(.reg [(qq cF (.mv z4))])
def aW1:CC:=(.reg [(qq cO (.mki 177 (x6 2))),(qq dm (.eq false (.ifs [2,3,5,6,12,21,22,29,121,136,142,157,160,177,197,226,263,264,266,267]) false cI cK)),(qq de (.mv dB))])
def aW2:CC:=(.reg [(qq dC (.mv z0)),(qq dJ (.mv z1)),(ee dX (.call 124 [dy,ec])),(qq dS (.mki 180 dL)),(qq cg (.mv eA))])
def aW3:CC:=(.reg [(qq fi (.mki 177 (x6 1))),(qq eL (.eq false (.ifs [2,3,5,6,12,21,22,29,121,136,142,157,160,177,197,226,263,264,266,267]) false cI fl)),(qq dN (.mv fT))])
def aW4:CC:=(.reg [(qq eM (.mv z0)),(qq ew (.mv z1)),(ee dG (.call 125 [fm,fW])),(qq eE (.mki 180 fX)),(qq cg (.mv fY))])
def aW5:CC:=(.reg [(qq fC (.mki 177 (x6 3))),(qq fU (.eq false (.ifs [2,3,5,6,12,21,22,29,121,136,142,157,160,177,197,226,263,264,266,267]) false cI gi)),(qq eU (.mv ic))])
def aW6:CC:=(.reg [(qq fp (.mv z0)),(qq fD (.mv z1)),(qq iF (.mv z2)),(ee gu (.call 126 [ij,il,iE])),(qq gH (.mki 180 jh)),(qq cg (.mv ji))])
def aW7:CC:=(.reg [(qq iG (.mki 177 (x6 4))),(qq jb (.eq false (.ifs [2,3,5,6,12,21,22,29,121,136,142,157,160,177,197,226,263,264,266,267]) false cI jj)),(qq ga (.mv k5))])
def X9:CC:=(.reg [(qq iP (.mv z0)),(qq ia (.mv z1)),(qq j0 (.mv z3)),(ee ie (.call 127 [jk,j1,k8])),(qq jB (.mki 180 kg)),(qq cg (.mv kh))])
def Xa:CC:=(.cond jz (.seq X9 .ret) .skip)
def Xb:CC:=(.cond ib (.seq aW6 .ret) (.seq aW7 Xa))
def Xc:CC:=(.cond fk (.seq aW4 .ret) (.seq aW5 Xb))
def Xd:CC:=(.cond cT (.seq aW2 .ret) (.seq aW3 Xc))
def Xe:CC:=(.reg [(qq jc (.mv z4)),(qq cg (.mv kK))])
def Xf:CC:=(.seq (.seq aW0 (.block 0 (.seq aW1 Xd))) (.seq Xe .ret))
def c88:CF:= .mk 6 [.t cg] (.seq aV9 Xf)
theorem e88(v0 v1 v2 v3 v4:V):bh 6 [v0,v1,v2,v3,v4]=(.n (.n (.n iC (some v3) iC) (some v1) oE) (some v0) (.n (.n iC (some v4) iC) (some v2) oE)):=rfl
def B88:=ai @e88 (ai (wu aV9.eq_1) (ai (wu aW0.eq_1) (ai (wu aW1.eq_1) (ai (wu aW2.eq_1) (ai (wu aW3.eq_1) (ai (wu aW4.eq_1) (ai (wu aW5.eq_1) (ai (wu aW6.eq_1) (ai (wu aW7.eq_1) (ai (wu X9.eq_1) (ai (wu Xa.eq_1) (ai (wu Xb.eq_1) (ai (wu Xc.eq_1) (ai (wu Xd.eq_1) (ai (wu Xe.eq_1) (wu Xf.eq_1))))))))))))))))
def aK3:CC:=(.reg [(qq a2 (.mv (x6 0))),(qq a3 (.mv (.c .a0)))])
def aK4:CC:=(.reg [(qq a7 (.mv z0)),(ee a8 (.call 87 [z7])),(qq a6 (.mv z8)),(qq a9 (.ex 0 z6)),(qq cg (.ex 1 z6)),(qq a4 (.mv z9)),(qq a5 (.mv cm))])
def aK5:CC:=(.reg [(qq cF (.mv z5)),(qq de (.eq true .iface true cI (.c .a0)))])
def aK6:CC:=(.reg [(qq cO (.mv z4)),(qq dm (.mv z0)),(qq dC (.mv z5)),(ee dJ (.call 88 [(.c (.s 4 1768911937)),dB,(x6 0),(x6 0),dy])),(qq a2 (.mv cK)),(qq a3 (.mv ec))])
def aK7:CC:=(.seq aK5 (.cond cT (.seq aK6 .ret) .skip))
def aK8:CC:=(.reg [(qq dX (.mv z4)),(qq a2 (.mv dL)),(qq a3 (.mv (.c .a0)))])
def c40:CF:= .mk 5 [.t a2,.t a3] (.seq aK3 (.seq aK4 (.seq aK7 (.seq aK8 .ret))))
theorem e40(v0:V):bh 5 [v0]=(.n oE (some v0) oE):=rfl
def B40:=ai @e40 (ai (wu aK3.eq_1) (ai (wu aK4.eq_1) (ai (wu aK5.eq_1) (ai (wu aK6.eq_1) (ai (wu aK7.eq_1) (wu aK8.eq_1))))))
theorem ar2{F:RO}{M:Mem}{b n:Nat}{ex:Bool}{d:List V}{t:T}(c:Nat){l:List UInt8}(hM:M.get b=some (.cells 5 n ex 0 false d t))(hld:loadN F M b 0 l.length=some (l.map bV))(hl:l≠[])(hl2:l.length≤1099511627776):
 ∃y,usE F M c 5 (.p b 0) (.i .i64 (l.length:Int))= .k (sV l) (M.set b y) c:=by
 have h0:l.length≠0:=fun e=>hl (List.length_eq_zero_iff.1 e)
 refine⟨.cells 5 n ex (if 0≤0+l.length then 0+l.length else 0) false d t,?_⟩
 show yA F M c 5 b 0 l.length=_
 unfold yA
 rw[bp,ag h0,cond_false]
 have ht:FX M b 5=true:=by unfold FX;rw[hM];rfl
 rw[ht,bL,ae hl2]
 show(match loadN F M b 0 l.length with|some vs=>yB M c b 0 (gm vs)|none=>RC.f)=_
 rw[hld]
 show yB M c b 0 (gm (l.map bV))=_
 rw[qh]
 have hf:jp M b 0 l.length=some (M.set b (.cells 5 n ex (if 0≤0+l.length then 0+l.length else 0) false d t)):=by
  unfold jp;rw[hM];show(bif false then none else fN (bif Nat.ble 0 (Nat.add 0 l.length)then Nat.add 0 l.length else 0) fun fz=>some (M.set b (.cells 5 n ex fz false d t)))=_;rw[cond_false,aN,bL];by_cases h:0≤0+l.length
  ·rw[ae (show 0≤Nat.add 0 l.length from h),ac h];rfl
  ·exact absurd (aF _) h
 show(match jp M b 0 l.length with|some M=>fN l.length fun n=>fN (bH l) fun s=>RC.k (.s n s) M c|none=> .f)=_
 rw[hf]
 show(fN l.length fun n=>fN (bH l) fun s=>RC.k (.s n s) _ c)=_
 rw[aN,aN];rfl
theorem ba5{F:RO}{M:Mem}{b:Nat}{ex:Bool}{d:List V}{t:T}(c:Nat){l:List UInt8}(hM:M.get b=some (.cells 5 l.length ex 0 false d t))(hl:l≠[]):
 ba3 F M c 1 (.l b 0 l.length l.length) (sV l)= .k (.i .i64 (l.length:Int)) (M.set b (.cells 5 l.length ex 0 false d (aW (l.map bV) 0 t))) c:=by
 have h0:l.length≠0:=fun e=>hl (List.length_eq_zero_iff.1 e)
 show fN (bif Nat.ble l.length l.length then l.length else l.length) (fun n=>bif Nat.beq n 0 then RC.k (.i .i64 0) M c else ba6 M c n (.l b 0 l.length l.length) (pm F M 1 n (sV l)))=_
 rw[aN,bL,ae (ah _),cond_true,bp,ag h0,cond_false]
 have hs:pm F M 1 l.length (sV l)=some (l.map bV):=by
  show(bif Nat.beq 1 1 then some (bM l.length (bH l%256^l.length))else none)=_;rw[Nat.mod_eq_of_lt (uv l),kr];rfl
 rw[hs]
 show(match cC M b 0 (l.map bV)with|some M=>RC.k (.i .i64 (.ofNat l.length)) M c|none=> .f)=_
 rw[sm hM (by rw[List.length_map];omega) (aF _) (gJ l)];rfl
theorem cK2(Φ:Nat→Option CF)(h:Φ 156=some af1)(l:List UInt8)(hl:l.length≤1000000)(ct:Nat):To Φ 156 [sV l] ct (sV l):=by
 refine fg h ?_
 by_cases h0:l=[]
 ·subst h0;have e0:((([]:List UInt8).length:Nat):Int)=0:=rfl;simp only[WX,bA5,Int.ofNat_zero];rfl
 ·have hn0:l.length≠0:=fun e=>h0 (List.length_eq_zero_iff.1 e);have d0:decide ((l.length:Int)=0)=false:=ag (by omega);have hmk:=bf5 5 1 1 [.i .u8 0] .i64 .i64 l.length l.length ct (ah _) (by omega);rw[Nat.mul_one]at hmk;have hcp:=ba5 (F:=[]) (M:=(Tr.e:Mem).set ct (.cells 5 l.length true 0 false [.i .u8 0] .e)) (ct+1) (l:=l) (au _ _ _) h0;rw[AE]at hcp;have hia:=iV 1 ct 0 l.length l.length 0 .i64 (by omega);rw[show((0:Nat):Int)=0 from rfl]at hia;have hld:loadN [] ((Tr.e:Mem).set ct (.cells 5 l.length true 0 false [.i .u8 0] (aW (l.map bV) 0 .e))) ct 0 l.length=some (l.map bV):=by
   have hc:cZ [] ((Tr.e:Mem).set ct (.cells 5 l.length true 0 false [.i .u8 0] (aW (l.map bV) 0 .e))) ct 0 (l.map bV):=by
    have hg:((Tr.e:Mem).set ct (.cells 5 l.length true 0 false [.i .u8 0] (aW (l.map bV) 0 .e))).get ct=some (dx [.i .u8 0] 5 (l.map bV)):=by
     rw[au];unfold dx;rw[List.length_map];rfl
    exact(MB hg).cells
   have:=hc.load (by intro e;rw[List.map_eq_nil_iff]at e;exact h0 e)
   rwa [List.length_map]at this
  obtain⟨y,hy⟩:=ar2 (F:=[]) (M:=(Tr.e:Mem).set ct (.cells 5 l.length true 0 false [.i .u8 0] (aW (l.map bV) 0 .e))) (ct+1) (l:=l) (au _ _ _) hld h0 (by omega);simp only[WX,bA5,d0,hmk,Dp,hcp,hia,uy,hy]
def h156:List V→Option V
 |[v]=>(DF v).bind fun l=>if l.length≤1000000 then some (sV l)else none
 |_=>none
theorem Lj(l:List UInt8)(hl:l.length≤1000000):h156 [sV l]=some (sV l):=by
 show(DF (sV l)).bind (fun l=>if l.length≤1000000 then some (sV l)else none)=_
 rw[yo,Option.bind_some];exact ac hl
theorem EP{F:RO}(zero:List V)(ps:List (Nat×Nat×X))(M:Mem)(t:T):oB (.bld zero ps) F M t=oV ((t7 zero (evP t ps)).map .g):=by
 refine(gO ?_).trans (congrArg oV (b26 (F:=F) zero ps M t))
 intro F' M'
 refine lc ?_
 show(qg (fillParts t zero ps)= .f∨ ∃y,qg (fillParts t zero ps)= .v y)
 cases fillParts t zero ps with
 |none=>exact .inl rfl
 |some x=>exact .inr ⟨_,rfl⟩
theorem cI0(Φ:Nat→Option CF)(h:Φ 124=some C7)(h156:Φ 156=some (.orc (bg h156))){F:RO}{M:Mem}{c:Nat}(ok:d9 F M c)(hE:cW F 0)(hg:M.get 0=none)(f l:List UInt8)(hl:l.length≤1000000):
 Calls Φ F 124 [sV f,sV l] M c fun r M' c'=>(∃b,r= .p b 0)∧Gr c M c' M':=by
 refine az h ?_
 obtain⟨t,b,o,hld⟩:=hE
 have ld:=hld M hg
 have hlk:(look F M (c+5)).isNone=true:=by rw[ok.look (show c≤c+5 by omega)];rfl
 have hn1:1≠c+5:=by have:=ok.ge;omega
 simp only[WX,cv0,ld]
 refine Nn _ _ _ _ _ _ _ _ _ _ _ h156 ok.free ?_
 simp only[WX,reduceCtorEq,Nat.reduceAdd,Nat.reduceLeDiff,Lj l hl,EP,Dl,th,hlk,dQ,bY,ne_eq,not_false_eq_true,show∀l,cY (sV l)=true from fun _=>rfl,show∀l,flatten (sV l)=[sV l]from fun _=>rfl,LA,yI,iK]
 exact⟨⟨_,rfl⟩,(Gr.refl ok).set (c+5) _ (by omega) (show c+5<c+7 by omega) (by omega)⟩
theorem cI1(Φ:Nat→Option CF)(h:Φ 125=some C8)(h156:Φ 156=some (.orc (bg h156))){F:RO}{M:Mem}{c:Nat}(ok:d9 F M c)(hE:cW F 1)(hg:M.get 1=none)(f l:List UInt8)(hl:l.length≤1000000):
 Calls Φ F 125 [sV f,sV l] M c fun r M' c'=>(∃b,r= .p b 0)∧Gr c M c' M':=by
 refine az h ?_
 obtain⟨t,b,o,hld⟩:=hE
 have ld:=hld M hg
 have hlk:(look F M (c+5)).isNone=true:=by rw[ok.look (show c≤c+5 by omega)];rfl
 have hn1:2≠c+5:=by have:=ok.ge;omega
 simp only[WX,cv1,ld]
 refine Nn _ _ _ _ _ _ _ _ _ _ _ h156 ok.free ?_
 simp only[WX,Nat.reduceEqDiff,Nat.reduceAdd,Nat.reduceLeDiff,Lj l hl,EP,Dl,th,hlk,dQ,bY,ne_eq,not_false_eq_true,show∀l,cY (sV l)=true from fun _=>rfl,show∀l,flatten (sV l)=[sV l]from fun _=>rfl,LA,yI,iK]
 exact⟨⟨_,rfl⟩,(Gr.refl ok).set (c+5) _ (by omega) (show c+5<c+7 by omega) (by omega)⟩
theorem r88(Φ:Nat→Option CF)(h:Φ 88=some c88)(h124:Φ 124=some C7)(h125:Φ 125=some C8)(h156:Φ 156=some (.orc (bg h156))){F:RO}{M:Mem}{c:Nat}(ok:d9 F M c)(hE1:cW F 0)(hg1:M.get 0=none)(hE2:cW F 1)(hg2:M.get 1=none)(f l:List UInt8)(hl:l.length≤1000000)(e:V)(he:e= .a 177 (.i .i64 1)∨e= .a 177 (.i .i64 2))(x y:V):
 Calls Φ F 88 [sV f,sV l,x,y,e] M c fun r M' c'=>(∃b,r= .a 180 (.p b 0))∧Gr c M c' M':=by
 refine az h ?_
 have hm1:rT 177 [2,3,5,6,12,21,22,29,121,136,142,157,160,177,197,226,263,264,266,267]=true:=rfl
 rcases he with rfl|rfl
 ·simp only[WX,Int.reduceEq,B88,fh,kA,hm1];refine av ((cI1 Φ h125 h156 ok hE2 hg2 f l hl).mono ?_);rintro r M1 c1 ⟨⟨b,rfl⟩,hg⟩;simp only[WX,fh];exact⟨⟨_,rfl⟩,hg⟩
 ·simp only[WX,B88,fh,kA,hm1];refine av ((cI0 Φ h124 h156 ok hE1 hg1 f l hl).mono ?_);rintro r M1 c1 ⟨⟨b,rfl⟩,hg⟩;simp only[WX,fh];exact⟨⟨_,rfl⟩,hg⟩
def ZOf(l:List UInt8)(z:Int):Prop:=cJ z∧ ∀m,-10000000<m→m<10000000→l=bI m→z=m
theorem r40(Φ:Nat→Option CF)(h:Φ 40=some c40)(h87:Φ 87=some c87)(h88:Φ 88=some c88)(h124:Φ 124=some C7)(h125:Φ 125=some C8)(h123:Φ 123=some Ez)(h120:Φ 120=some xR)(h156:Φ 156=some (.orc (bg h156)))(h149:Φ 149=some (.orc (bg h149)))
 {F:RO} {M:Mem} {c:Nat} (ok:d9 F M c) (hE1:cW F 0) (hE2:cW F 1) (hlow:∀g,g<1000→M.get g=none) (l:List UInt8) (hl:l.length≤1000000):
 Calls Φ F 40 [sV l] M c fun r M' c'=>∃(z:Int) (e:V),r= .t [.i .i64 z,e]∧ZOf l z∧Gr c M c' M':=by
 refine az h ?_
 simp only[WX,B40]
 refine av ((r87 Φ h87 h123 h120 h149 ok l hl).mono ?_)
 rintro r M1 c1 ⟨z,e,rfl,he,hg,hrg,hz⟩
 have hge:=ok.ge
 rcases he with rfl|he
 ·simp only[WX,B40,qp];exact⟨z,_,rfl,⟨hrg,fun m m1 m2 e=>(hz m m1 m2 e).1⟩,hg⟩
 ·have hne:xB F M1 .iface true e .a0=some false:=by rcases he with rfl|rfl<;>exact kz _ _ _ _
  have cD:=hg.ok ok;simp only[WX,B40,hne];refine av ((r88 (f:=[65,116,111,105]) Φ h88 h124 h125 h156 cD hE1 (by rw[hg.old 0 (by omega)];exact hlow 0 (by omega)) hE2 (by rw[hg.old 1 (by omega)];exact hlow 1 (by omega)) l hl e he _ _).mono ?_);rintro r M2 c2 ⟨⟨b,rfl⟩,hg2⟩;simp only[WX];exact⟨z,_,rfl,⟨hrg,fun m m1 m2 e=>(hz m m1 m2 e).1⟩,hg.trans hg2⟩
def aF8:CC:=(.reg [(qq a2 (.mv (.c .l0))),(qq a3 (.mv xF))])
def aF9:CC:=(.reg [(qq a8 (.mv z0)),(qq a5 (.mv z8))])
def aG0:CC:=(.reg [(qq a9 (.mv z5)),(qq cg (.ln .str z9)),(qq cF (.bi .gtr cm (x6 1)))])
def aG1:CC:=(.reg [(qq dC (.mv z5)),(qq dJ (.slS dy none (some (x6 2)))),(ee dX (.call 85 [ec,(x6 16),(x6 8)])),(qq dm (.mv dL)),(qq dS (.ex 0 dB)),(qq dN (.ex 1 dB)),(qq a6 (.mv eA)),(qq a7 (.mv fk))])
def aG2:CC:=(.reg [(qq fi (.mv z4)),(qq eL (.mv z6)),(qq eM (.ci .u8 fT)),(aa ew (.bsl 5 1 1 [(.i .u8 0)] [(0,fm)])),(ee dG (.app 5 1 1 fl fW)),(qq a4 (.mv fX))])
def aG3:CC:=(.reg [(qq de (.mv z5)),(qq cO (.slS cT (some (x6 2)) none)),(qq a5 (.mv cK))])
def aG4:CC:=(.seq (.seq aG0 (.cond cI .skip (.exit 0))) (.seq (.block 1 (.seq aG1 aG2)) aG3))
def aG5:CC:=(.reg [(qq eE (.mv z4)),(qq eU (.mv z4)),(ee fC (.call 51 [ib])),(qq fU (.mv z0)),(qq fp (.bi .eql gi ic)),(qq a2 (.mv fY)),(qq a3 (.mv ij))])
def aG6:CC:=(.seq (.seq aF9 (.block 0 (.loop aG4))) (.seq aG5 .ret))
def Vg:CC:=(.seq (.reg [(qq a4 (.mv (.c .l0)))]) aG6)
def c37:CF:= .mk 5 [.t a2,.t a3] (.seq aF8 Vg)
theorem e37(v0:V):bh 5 [v0]=(.n oE (some v0) oE):=rfl
def B37:=ai @e37 (ai (wu aF8.eq_1) (ai (wu aF9.eq_1) (ai (wu aG0.eq_1) (ai (wu aG1.eq_1) (ai (wu aG2.eq_1) (ai (wu aG3.eq_1) (ai (wu aG4.eq_1) (ai (wu aG5.eq_1) (ai (wu aG6.eq_1) (wu Vg.eq_1))))))))))
def aU4:CC:=(.reg [(qq a6 (.mv (.c (.i .u64 0)))),(qq a7 (.mv (.c .a0)))])
def aU5:CC:=(.reg [(qq cF (.mv z0)),(qq de (.mv z1)),(qq cO (.mv z2)),(ee dm (.call 120 [cI,cT,cK])),(qq cg (.mv dB)),(qq dC (.ex 0 cm)),(qq dJ (.ex 1 cm)),(qq a8 (.mv dy)),(qq a9 (.mv ec))])
def aU6:CC:=(.reg [(qq dX (.mv z9)),(qq dS (.eq true .iface true dL (.c .a0)))])
def aU7:CC:=(.reg [(qq dN (.mv z8)),(qq fi (.mv z0)),(qq eL (.mv z1)),(qq eM (.mv z2)),(qq ew (.mv z9)),(ee dG (.call 88 [(.c (.s 9 2147778296661251613008)),fl,fT,fm,fW])),(qq a6 (.mv fk)),(qq a7 (.mv fX))])
def aU8:CC:=(.seq aU6 (.cond eA (.seq aU7 .ret) .skip))
def aU9:CC:=(.reg [(qq eE (.mv z8)),(qq a6 (.mv fY)),(qq a7 (.mv (.c .a0)))])
def c85:CF:= .mk 5 [.t a6,.t a7] (.seq aU4 (.seq aU5 (.seq aU8 (.seq aU9 .ret))))
theorem e85(v0 v1 v2:V):bh 5 [v0,v1,v2]=(.n (.n iC (some v1) iC) (some v0) (.n iC (some v2) iC)):=rfl
def B85:=ai @e85 (ai (wu aU4.eq_1) (ai (wu aU5.eq_1) (ai (wu aU6.eq_1) (ai (wu aU7.eq_1) (ai (wu aU8.eq_1) (wu aU9.eq_1))))))
def hv(b:UInt8):Option Nat:=if 48≤b.toNat∧b.toNat≤57 then some (b.toNat-48)else if 97≤(b|||32).toNat∧(b|||32).toNat≤102 then some ((b|||32).toNat-87)else none
theorem bR9{b:UInt8}{d:Nat}(h:hv b=some d):d<16:=by
 unfold hv at h
 split at h
 ·injection h with h;omega
 ·split at h
  ·injection h with h;omega
  ·cases h
def OW:List UInt8→Nat→Option Nat
 |[],n=>some n
 |x::r,n=>(hv x).bind fun d=>OW r (n*16+d)
def pu(l:List UInt8):Nat:=(OW l 0).getD 0
theorem YM:∀(l:List UInt8) (n k m:Nat),n<16^k→OW l n=some m→m<16^(k+l.length)
 |[],n,k,m,hn,h=>by injection h with h;rw[←h];exact hn
 |x::r,n,k,m,hn,h=>by
  obtain⟨d,hd,h⟩:=aR.1 h;have:=bR9 hd;have:=YM r (n*16+d) (k+1) m (by rw[Nat.pow_succ];omega) h
  rwa [show k+1+r.length=k+(x::r).length by rw[aX];omega]at this
theorem cc1(l:List UInt8)(hl:l.length≤2):pu l<256:=by
 unfold pu
 cases h:OW l 0 with
 |none=>decide
 |some m=>
  have h1:=YM l 0 0 m (by decide) h;have h2:16^(0+l.length)≤16^2:=Nat.pow_le_pow_right (by decide) (by omega);show m<256;omega
theorem cd4(Φ:Nat→Option CF)(h:Φ 120=some xR)(h149:Φ 149=some (.orc (bg h149))){F:RO}{M:Mem}{c:Nat}(ok:d9 F M c)(l:List UInt8)(hl:l.length≤2)(hne:l≠[]):
 Calls Φ F 120 [sV l,.i .i64 16,.i .i64 8] M c fun r M' c'=>∃e:V,r= .t [.i .u64 (pu l:Int),e]∧(e= .a0∨e= .a 177 (.i .i64 2))∧Gr c M c' M':=by
 refine az h ?_
 have e0:bD .eql (sV l) (.s 0 0)=some (.b false):=by
  have:=gk l [];rw[ag hne]at this;exact this
 have w1:IntKind.u64.wrap 8=8:=rfl
 have w2:bD .shl (.i .u64 1) (.i .u64 8)=some (.i .u64 256):=by have:=Eo .u64 .u64 1 8;exact this.trans rfl
 have w1003:bD .sub (.i .u64 256) (.i .u64 1)=some (.i .u64 255):=by rw[eF];rfl
 simp only[WX,Int.reduceEq,Int.reduceLT,Int.reduceLE,pX,e0,w1,w2,w1003,DZ,Z7]
 have gX:Gr c M (c+1) (M.set c (nA 5 l)):=(Gr.refl ok).set c _ (ah _) (aL _) (aP _)
 have hsl:ov F (M.set c (nA 5 l)) (c+1) (.u c 0 l.length 0 l.length) l:=FP (au _ _ _) (aL _)
 generalize M.set c (nA 5 l)=X at gX hsl⊢
 obtain⟨I1,hI1⟩:∃I:Nat→St→Prop,∀n s',I n s'↔(∃(i n0:Nat) (u:List (Option V)),n=l.length-i∧i≤l.length∧n0<16^i∧OW l 0=OW (l.drop i) n0∧s'= .mk ((b18 u (sV l) (.i .i64 16) (.b false) (sV l) (.i .u64 1152921504606846976) (.i .u64 255) (.b false) (.i .u64 (n0:Int)) (.u c 0 l.length 0 l.length) (.i .i64 (l.length:Int)) (.i .i64 (i:Int)))) [] X (c+1)):=⟨fun n s'=>_,fun _ _=>Iff.rfl⟩
 refine bG I1 ?_ l.length _ ((hI1 _ _).2 ⟨0,0,(G2 (X4 (X2 (G4 (G2 (aM (bE (X4 (X1 (G2 (G1 (aM (aM (bE (X8 (X1 [])))))))))))))))),rfl,aF _,by decide,rfl,rfl⟩)
 intro n s' hIs
 obtain⟨i,n0,u,rfl,hi,hn0,hpu,rfl⟩:=(hI1 _ _).1 hIs
 clear hIs
 have hn1:n0<256:=Nat.lt_of_lt_of_le hn0 (bn (Nat.pow_le_pow_right (by decide) (show i≤2 by omega)) (by decide))
 by_cases hlt:i<l.length
 ·have d1:decide ((i:Int)<(l.length:Int))=true:=ae (by omega);have hn2:n0<16:=Nat.lt_of_lt_of_le hn0 (bn (Nat.pow_le_pow_right (by decide) (show i≤1 by omega)) (by decide));obtain⟨b1,o1,_,ia1,ld1⟩:=hsl.get i hlt;have hdr:=eN hlt;have hx:l[i].toNat<256:=UInt8.toNat_lt l[i];have hlow:Ev.h149 [.i .u8 (l[i].toNat:Int)]=some (.i .u8 ((l[i]|||32).toNat:Int)):=Li l[i];have hvd:hv l[i]=if 48≤l[i].toNat∧l[i].toNat≤57 then some (l[i].toNat-48)else if 97≤(l[i]|||32).toNat∧(l[i]|||32).toNat≤102 then some ((l[i]|||32).toNat-87)else none:=rfl
  rw[hdr]at hpu;have hnone:hv l[i]=none→pu l=0:=fun hh=>by unfold pu;rw[hpu,OW,hh];rfl
  have hsome:∀d,hv l[i]=some d→OW l 0=OW (l.drop (i+1)) (n0*16+d):=fun d hh=>by rw[hpu,OW,hh];rfl
  clear hpu hdr;generalize hv l[i]=hb at hvd hnone hsome;generalize(l[i]|||32).toNat=y at hlow hvd;generalize l[i].toNat=x at ld1 hx hlow hvd;have q8:bD .add (.i .i64 (i:Int)) (.i .i64 1)=some (.i .i64 ((i+1:Nat):Int)):=by rw[aO _ _ (by omega) (by omega)];simp
  have w1008:IntKind.u8.wrap 16=16:=rfl;have wx:IntKind.u64.wrap 16=16:=rfl;have m1:bD .mul (.i .u64 (n0:Int)) (.i .u64 16)=some (.i .u64 ((n0*16:Nat):Int)):=by rw[rG,eS];congr 2;omega
  have e1005:decide ((1152921504606846976:Int)≤(n0:Int))=false:=ag (by omega);have a1:∀d,d<16→bD .add (.i .u64 ((n0*16:Nat):Int)) (.i .u64 (d:Nat))=some (.i .u64 ((n0*16+d:Nat):Int)):=fun d hd=>by rw[gL,eS];exact congrArg (fun z=>some (V.i .u64 z)) (by omega)
  have e1006:∀d:Nat,decide (((n0*16+d:Nat):Int)<((n0*16:Nat):Int))=false:=fun d=>ag (by omega);have e1007:∀d:Nat,d<16→decide ((255:Int)<((n0*16+d:Nat):Int))=false:=fun d hd=>ag (by omega);have hpw:∀d:Nat,d<16→n0*16+d<16^(i+1):=fun d hd=>by rw[Nat.pow_succ];omega
  by_cases hA:48≤x∧x≤57
  ·rw[ac hA]at hvd;have hd:x-48<16:=by omega
   have e1:decide ((x:Int)=95)=false:=ag (by omega);have e2:decide ((48:Int)≤(x:Int))=true:=ae (by omega);have e1003:decide ((x:Int)≤57)=true:=ae (by omega);have s1:bD .sub (.i .u8 (x:Int)) (.i .u8 48)=some (.i .u8 ((x-48:Nat):Int)):=by rw[eF,bS];congr 2;omega
   have e1004:decide ((16:Int)≤((x-48:Nat):Int))=false:=ag (by omega);have wd:IntKind.u64.wrap ((x-48:Nat):Int)=((x-48:Nat):Int):=by rw[eS];omega
   have a2:=a1 _ hd;have e31:=e1006 (x-48);have e1007:=e1007 _ hd;simp only[WX,pX,d1,ia1,ld1,e1,e2,e1003,s1,w1008,e1004,e1005,wx,m1,wd,a2,e31,e1007,q8];exact⟨l.length-(i+1),by omega,(hI1 _ _).2 ⟨i+1,n0*16+(x-48),(G2 (X4 (X2 (G4 (G2 (aM (bE (X4 (X1 (G2 (G1 (aM (aM (bE (X8 (X1 [])))))))))))))))),rfl,by omega,hpw _ hd,hsome _ hvd,rfl⟩⟩
  ·rw[ab hA]at hvd;have hfin:hb=none→ ∃e:V,V.t [V.i IntKind.u64 0,V.a 177 (V.i IntKind.i64 2)]= .t [.i .u64 (pu l:Int),e]∧(e= .a0∨e= .a 177 (.i .i64 2))∧Gr c M (c+1) X:=fun hh=>⟨_,by rw[hnone hh];rfl,.inr rfl,gX⟩;have key:(decide ((48:Int)≤(x:Int))&&decide ((x:Int)≤57))=false:=by
    rw[Bool.and_eq_false_iff,decide_eq_false_iff_not,decide_eq_false_iff_not];omega
   by_cases hB:97≤y∧y≤102
   ·rw[ac hB]at hvd;have hd:y-97+10<16:=by omega
    have hy1:decide ((97:Int)≤(y:Int))=true:=ae (by omega);have hy2:decide ((y:Int)≤122)=true:=ae (by omega);have s1:bD .sub (.i .u8 (y:Int)) (.i .u8 97)=some (.i .u8 ((y-97:Nat):Int)):=by rw[eF,bS];congr 2;omega
    have a3:bD .add (.i .u8 ((y-97:Nat):Int)) (.i .u8 10)=some (.i .u8 ((y-97+10:Nat):Int)):=by rw[gL,bS];congr 2;omega
    have e1004:decide ((16:Int)≤((y-97+10:Nat):Int))=false:=ag (by omega);have wd:IntKind.u64.wrap ((y-97+10:Nat):Int)=((y-97+10:Nat):Int):=by rw[eS];omega
    have a2:=a1 _ hd;have e31:=e1006 (y-97+10);have e1007:=e1007 _ hd;have hvd':hb=some (y-97+10):=by rw[hvd];congr 1;omega
    cases hp:decide ((x:Int)=95)<;>cases hq:decide ((48:Int)≤(x:Int))<;>cases hr:decide ((x:Int)≤57)
    all_goals first
     |(exfalso;rw[hq,hr]at key;cases key;done)
     |(simp only[WX,pX,d1,ia1,ld1,hp,hq,hr,h149,hlow,hy1,hy2,s1,a3,w1008,e1004,e1005,wx,m1,wd,a2,e31,e1007,q8]
       exact⟨l.length-(i+1),by omega,(hI1 _ _).2 ⟨i+1,n0*16+(y-97+10),(G2 (X4 (X2 (G4 (G2 (aM (bE (X4 (X1 (G2 (G1 (aM (aM (bE (X8 (X1 [])))))))))))))))),rfl,by omega,hpw _ hd,hsome _ hvd',rfl⟩⟩)
   ·rw[ab hB]at hvd;have hfin:=hfin hvd;by_cases hC:97≤y∧y≤122
    ·have hy1:decide ((97:Int)≤(y:Int))=true:=ae (by omega);have hy2:decide ((y:Int)≤122)=true:=ae (by omega);have s1:bD .sub (.i .u8 (y:Int)) (.i .u8 97)=some (.i .u8 ((y-97:Nat):Int)):=by rw[eF,bS];congr 2;omega
     have a3:bD .add (.i .u8 ((y-97:Nat):Int)) (.i .u8 10)=some (.i .u8 ((y-97+10:Nat):Int)):=by rw[gL,bS];congr 2;omega
     have e1004:decide ((16:Int)≤((y-97+10:Nat):Int))=true:=ae (by omega);cases hp:decide ((x:Int)=95)<;>cases hq:decide ((48:Int)≤(x:Int))<;>cases hr:decide ((x:Int)≤57)
     all_goals first
      |(exfalso;rw[hq,hr]at key;cases key;done)
      |(simp only[WX,pX,d1,ia1,ld1,hp,hq,hr,h149,hlow,hy1,hy2,s1,a3,w1008,e1004,fh];exact hfin)
    ·have keyc:(decide ((97:Int)≤(y:Int))&&decide ((y:Int)≤122))=false:=by
      rw[Bool.and_eq_false_iff,decide_eq_false_iff_not,decide_eq_false_iff_not];omega
     cases hp:decide ((x:Int)=95)<;>cases hq:decide ((48:Int)≤(x:Int))<;>cases hr:decide ((x:Int)≤57)<;>cases hy1:decide ((97:Int)≤(y:Int))<;>cases hy2:decide ((y:Int)≤122)
     all_goals first
      |(exfalso;rw[hq,hr]at key;cases key;done)
      |(exfalso;rw[hy1,hy2]at keyc;cases keyc;done)
      |(simp only[WX,pX,d1,ia1,ld1,hp,hq,hr,h149,hlow,hy1,hy2,fh];exact hfin)
 ·obtain rfl:i=l.length:=by omega
  have d1:decide ((l.length:Int)<(l.length:Int))=false:=ag (by omega);rw[uM]at hpu;have hp:pu l=n0:=by unfold pu;rw[hpu];rfl
  simp only[WX,pX,d1];exact⟨_,by rw[hp],.inl rfl,gX⟩
abbrev cg2(u:List (Option V))(x0 x4 x5:V):T:=(.n (.n (am u 15 7 23 3 19 11 27) (uO u 1) (.n (hU u 17 9 25) (some x5) (hU u 21 13 29))) (some x0) (.n (.n (hU u 16 8 24) (some x4) (hU u 20 12 28)) (uO u 2) (am u 18 10 26 6 22 14 30)))
theorem zR{F:RO}{M:Mem}{c0 c b ty sz bytes:Nat}{v y:V}{es ns:List (List V)}(h:aQ M c0 c b ty sz v es)(ok:d9 F M c)(h0:c0≤c)(hsz:0<sz)(hy:cj F M c sz y ns)(h1:bv ns.flatten=true)(hr:kP (es.length+ns.length) bytes=true):
 ou (tM F M c ty sz bytes v y) fun v' M' c'=>∃b',aQ M' c0 c' b' ty sz v' (es++ns)∧d9 F M' c'∧c≤c'∧(∀x,x<c0→M'.get x=M.get x):=by
 obtain⟨b1,hA1,hb1⟩:∃b1,aQ M c0 c b1 ty sz v es∧((c0≤b1∧b1<c∧ ∃x,M.get b1=some x)∨c≤b1):=by
  rcases h with⟨a0,⟨a1,a2⟩|⟨a1,a2,a3,a4⟩⟩
  ·exact⟨c,⟨a0,.inl ⟨a1,a2⟩⟩,.inr (ah _)⟩
  ·exact⟨b,⟨a0,.inr ⟨a1,a2,a3,a4⟩⟩,.inl ⟨a1,a2,_,a4⟩⟩
 refine(iI (bytes:=bytes) hA1 ⟨h0,fun _ _=>rfl,ok.hiM⟩ hsz hy h1 hr).mono ?_
 rintro v' M' c' ⟨b',hA',g',hle,hf,hb'⟩
 have gx:GX (fun x=>x=b1) c M c' M':=⟨hle,fun x a b=>hf x a b,g'.new⟩
 refine⟨b',hA',gx.ok ok fun x a e=>?_,hle,fun x hx=>g'.old x hx⟩
 rcases hb1 with⟨_,_,hm⟩|a2
 ·rw[e];exact hm
 ·omega
theorem aQ.keep{M M':Mem}{c0 c c' b ty sz:Nat}{v:V}{es:List (List V)}(h:aQ M c0 c b ty sz v es)(hc:c≤c')(hM:∀x,c0≤x→x<c→M'.get x=M.get x):aQ M' c0 c' b ty sz v es:=by
 rcases h with⟨h0,h|⟨h1,h2,rfl,h1003⟩⟩
 ·exact⟨h0,.inl h⟩
 ·exact⟨h0,.inr ⟨h1,by omega,rfl,by rw[hM b h1 h2];exact h1003⟩⟩
theorem cJ2(Φ:Nat→Option CF)(h:Φ 85=some c85)(h120:Φ 120=some xR)(h88:Φ 88=some c88)(h124:Φ 124=some C7)(h125:Φ 125=some C8)(h156:Φ 156=some (.orc (bg h156)))(h149:Φ 149=some (.orc (bg h149))){F:RO}{M:Mem}{c:Nat}(ok:d9 F M c)(hE1:cW F 0)(hE2:cW F 1)(hlow:∀g,g<1000→M.get g=none)(l:List UInt8)(hl:l.length≤2)(hne:l≠[]):
 Calls Φ F 85 [sV l,.i .i64 16,.i .i64 8] M c fun r M' c'=>∃e:V,r= .t [.i .u64 (pu l:Int),e]∧Gr c M c' M':=by
 refine az h ?_
 simp only[WX,B85]
 refine av ((cd4 Φ h120 h149 ok l hl hne).mono ?_)
 rintro r M1 c1 ⟨e,rfl,he,hg⟩
 have hge:=ok.ge
 rcases he with rfl|rfl
 ·simp only[WX,B85,qp];exact⟨_,rfl,hg⟩
 ·have cD:=hg.ok ok;simp only[WX,B85,kz];refine av ((r88 (f:=[80,97,114,115,101,85,105,110,116]) Φ h88 h124 h125 h156 cD hE1 (by rw[hg.old 0 (by omega)];exact hlow 0 (by omega)) hE2 (by rw[hg.old 1 (by omega)];exact hlow 1 (by omega)) l (by omega) _ (.inr rfl) _ _).mono ?_);rintro r M2 c2 ⟨⟨b,rfl⟩,hg2⟩;simp only[WX];exact⟨_,rfl,hg.trans hg2⟩
def ke:List UInt8→List UInt8
 |x::y::r=>UInt8.ofNat (pu [x,y])::ke r
 |_=>[]
theorem bh1(b:UInt8):pu [dA (b.toNat/16),dA (b.toNat%16)]=b.toNat:=by
 have key:∀n,n<16→hv (dA n)=some n:=by decide
 have hb:=UInt8.toNat_lt b
 unfold pu
 rw[OW,key _ (by omega),Option.bind_some,OW,key _ (by omega),Option.bind_some,OW,Option.getD_some]
 omega
theorem wP:∀l:List UInt8,ke (ix l)=l
 |[]=>rfl
 |b::r=>by
  unfold ix;rw[List.flatMap_cons];show UInt8.ofNat (pu [dA (b.toNat/16),dA (b.toNat%16)])::ke (ix r)=_;rw[bh1,wP r,UInt8.ofNat_toNat]
theorem Zz(l:List UInt8):ke (iU l)=l:=by
 unfold iU
 split
 ·rename_i h;rw[h];rfl
 ·exact wP l
theorem Ei(a b:List UInt8):(a++b).map (fun x=>[bV x])=a.map (fun x=>[bV x])++b.map (fun x=>[bV x]):=List.map_append ..
theorem rg:∀(n:Nat) (l:List UInt8),l.length≤n→(ke l).length≤n
 |0,l,h=>by
  obtain rfl:l=[]:=List.length_eq_zero_iff.1 (by omega);exact aF _
 |n+1,[],_=>aF _
 |n+1,[_],_=>aF _
 |n+1,x::y::r,h=>by
  rw[ke,aX];have:=rg n r (by simp at h;omega);omega
theorem cI8(Φ:Nat→Option CF)(h:Φ 37=some c37)(h85:Φ 85=some c85)(h120:Φ 120=some xR)(h88:Φ 88=some c88)(h124:Φ 124=some C7)(h125:Φ 125=some C8)(h156:Φ 156=some (.orc (bg h156)))(h149:Φ 149=some (.orc (bg h149)))(h51:Φ 51=some c51)(h48:Φ 48=some c48)(h53:Φ 53=some c53)(h91:Φ 91=some PD){F:RO}{M:Mem}{c:Nat}(ok:d9 F M c)(hE1:cW F 0)(hE2:cW F 1)(hlow:∀g,g<1000→M.get g=none)(s:List UInt8)(hs:s.length≤400000):
 Calls Φ F 37 [sV s] M c fun r M' c'=>∃v b,r= .t [v,.b b]∧(∃bb,aQ M' c c' bb 5 1 v ((ke s).map fun x=>[bV x]))∧Gr c M c' M':=by
 refine az h ?_
 have hge:=ok.ge
 simp only[WX,B37]
 obtain⟨I,hI⟩:∃I:Nat→St→Prop,∀n s',I n s'↔(∃(k c1 b1:Nat) (v:V) (M1:Mem) (done rest:List UInt8) (u:List (Option V)),n=rest.length∧s'= .mk ((cg2 u (sV s) v (sV rest))) [] M1 c1∧ke s=done++ke rest∧done.length+rest.length≤s.length∧d9 F M1 c1∧c≤c1∧(∀x,x<c→M1.get x=M.get x)∧aQ M1 c c1 b1 5 1 v (done.map fun x=>[bV x])):=⟨fun n s'=>_,fun _ _=>Iff.rfl⟩
 refine bG I ?_ s.length _ ((hI _ _).2 ⟨0,c,0,.l0,M,[],s,(G1 (X2 (X1 (G2 (bE (X8 (X1 []))))))),rfl,rfl,rfl,by simp,ok,ah _,fun _ _=>rfl,aQ.nil⟩)
 intro n s' hIs
 obtain⟨k,c1,b1,v,M1,done,rest,u,rfl,rfl,hu,hlen,cD,hle,hold,hA⟩:=(hI _ _).1 hIs
 clear hIs
 match rest,hu,hlen with
 |x::y::r,hu,hlen=>
  have d1:decide ((1:Int)<((x::y::r).length:Int))=true:=ae (by rw[aX,aX];omega);have s1:=D5 (x::y::r) .i64 2 (by simp);have s2:=tl (x::y::r) .i64 2 (by simp);rw[show((2:Nat):Int)=2 from rfl,show(x::y::r).take 2=[x,y]from rfl]at s1;rw[show((2:Nat):Int)=2 from rfl,show(x::y::r).drop 2=r from rfl]at s2;have hrl:(x::y::r).length=r.length+2:=rfl;rw[ke]at hu;rw[hrl]at hlen d1;have hlnS:∀M,lnV .str F M (sV (x::y::r))=some (.i .i64 ((r.length+2:Nat):Int)):=fun M=>bf1 _ M;generalize hz:x::y::r=z at s1 s2 hlnS;simp only[WX,B37,hlnS,d1,s1];refine av ((cJ2 Φ h85 h120 h88 h124 h125 h156 h149 cD hE1 hE2 (fun g hg=>(hold g (by omega)).trans (hlow g hg)) [x,y] (by simp) (by simp)).mono ?_);rintro q M2 c2 ⟨e,rfl,g2⟩;have hpu:=cc1 [x,y] (by simp);have wr:V.i .u8 (IntKind.u8.wrap (pu [x,y]:Int))=bV (UInt8.ofNat (pu [x,y])):=by rw[qf _ hpu,bS,Int.emod_eq_of_lt (by omega) (by omega)]
  generalize pu [x,y]=p at hpu wr hu;have ok2:=g2.ok cD;have g2l:=g2.le;simp only[WX,B37,wr,Ye,jM];have g3:=(Gr.refl ok2).set c2 (dx [.i .u8 0] 5 [bV (UInt8.ofNat p)]) (ah _) (aL _) (aP _);have hy:cj F (M2.set c2 (dx [.i .u8 0] 5 [bV (UInt8.ofNat p)])) (c2+1) 1 (.l c2 0 1 1) [[bV (UInt8.ofNat p)]]:=zo (d:=[.i .u8 0]) (ty:=5) (au _ _ _) (by omega) (fun e he=>by rw[List.mem_singleton]at he;subst he;rfl) rfl;have hA3:=hA.keep (M':=M2.set c2 (dx [.i .u8 0] 5 [bV (UInt8.ofNat p)])) (c':=c2+1) (by omega) fun x x1 x2=>(g3.old x (by omega)).trans (g2.old x x2);have hdl:(done.map fun x=>[bV x]).length=done.length:=List.length_map _;refine av ((zR (c0:=c) (bytes:=1) hA3 (g3.ok ok2) (by omega) (by decide) hy rfl (eI (by rw[hdl,List.length_singleton];omega) (by rw[hdl,List.length_singleton];omega))).mono ?_);rintro v' M4 c8 ⟨b8,hA4,ok4,hle4,hold4⟩;simp only[WX,B37,s2];refine⟨r.length,by rw[←hz,hrl];omega,(hI _ _).2 ⟨0,c8,b8,v',M4,done++[UInt8.ofNat p],r,(G1 (X2 (X1 (G2 (bE (X8 (X1 []))))))),rfl,rfl,?_,?_,ok4,by omega,fun x hx=>?_,?_⟩⟩
  ·rw[hu];simp
  ·rw[bw,List.length_singleton];omega
  ·rw[hold4 x hx,g3.old x (by omega),g2.old x (by omega),hold x hx]
  ·rw[Ei];exact hA4
 |[],hu,hlen=>
  have d1:decide ((1:Int)<((0:Nat):Int))=false:=rfl;rw[show ke []=[]from rfl,cL]at hu;have hdl:ke s=done:=hu;simp only[WX,B37,d1];refine av ((r51 Φ h51 h48 h53 h91 cD (hA.sl (F:=F)) (by rw[bU]at hlen;omega)).mono ?_);rintro q M2 c2 ⟨rfl,g2⟩;simp only[WX];exact⟨_,_,rfl,⟨b1,by rw[hdl];exact hA.gr g2⟩,⟨by have:=g2.le;omega,fun x hx=>(g2.old x (by omega)).trans (hold x hx),g2.new⟩⟩
 |[x],hu,hlen=>
  have d1:decide ((1:Int)<((1:Nat):Int))=false:=rfl;rw[show ke [x]=[]from rfl,cL]at hu;have hdl:ke s=done:=hu;simp only[WX,B37,d1];refine av ((r51 Φ h51 h48 h53 h91 cD (hA.sl (F:=F)) (by rw[List.length_singleton]at hlen;omega)).mono ?_);rintro q M2 c2 ⟨rfl,g2⟩;simp only[WX];exact⟨_,_,rfl,⟨b1,by rw[hdl];exact hA.gr g2⟩,⟨by have:=g2.le;omega,fun x hx=>(g2.old x (by omega)).trans (hold x hx),g2.new⟩⟩
abbrev cg3(u:List (Option V))(x0 x3 x4:V):T:=(.n (.n (.n (hU u 15 7 23) (some x3) (hU u 19 11 27)) (uO u 1) (am u 17 9 25 5 21 13 29)) (some x0) (.n (.n (hU u 16 8 24) (some x4) (hU u 20 12 28)) (uO u 2) (am u 18 10 26 6 22 14 30)))
def aW8:CC:=(.reg [(qq a4 (.mv (.c (.i .u8 0))))])
def aW9:CC:=(.reg [(qq a5 (.mv z0)),(qq a6 (.bi .geq z5 (.c (.i .u8 48)))),(qq a7 (.mv z6)),(ak a8 (.mv z0) a7),(ak a9 (.bi .leq z8 (.c (.i .u8 57))) a7),(qq cg (.pk z7 z9 xF))])
def aX0:CC:=(.reg [(qq cF (.mv z0)),(qq de (.bi .sub cI (.c (.i .u8 48)))),(qq a4 (.mv cT))])
def aX1:CC:=(.seq aW9 (.cond cm (.seq aX0 .ret) .skip))
def aX2:CC:=(.reg [(qq cO (.mv z0)),(qq dm (.mv z1)),(qq dC (.bi .geq cK dB)),(qq dJ (.mv dy)),(ak dX (.mv z0) dJ),(ak dS (.mv z1) dJ),(ak dN (.bi .add eA (.c (.i .u8 6))) dJ),(ak fi (.bi .lss dL fk) dJ),(qq eL (.pk ec fl xF))])
def aX3:CC:=(.reg [(qq eM (.mv z0)),(qq ew (.mv z1)),(qq dG (.bi .sub fm fW)),(qq eE (.bi .add fX (.c (.i .u8 10)))),(qq a4 (.mv fY))])
def aX4:CC:=(.seq aX2 (.cond fT (.seq aX3 .ret) .skip))
def aX5:CC:=(.reg [(qq a4 (.mv (.c (.i .u8 16))))])
def c89:CF:= .mk 5 [.t a4] (.seq aW8 (.seq aX1 (.seq aX4 (.seq aX5 .ret))))
theorem e89(v0 v1:V):bh 5 [v0,v1]=(.n (.n iC (some v1) iC) (some v0) oE):=rfl
def B89:=ai @e89 (ai (wu aW8.eq_1) (ai (wu aW9.eq_1) (ai (wu aX0.eq_1) (ai (wu aX1.eq_1) (ai (wu aX2.eq_1) (ai (wu aX3.eq_1) (ai (wu aX4.eq_1) (wu aX5.eq_1))))))))
def aN8:CC:=(.reg [(qq a5 (.mv z0)),(qq a6 (.ln .slice z5)),(qq a7 (.bi .eql z6 (x6 0)))])
def aN9:CC:=(.seq (.reg [(qq a2 (.mv (.c (.s 1 46))))]) .ret)
def aO0:CC:=(.reg [(qq a4 (.mv (x6 0)))])
def aO1:CC:=(.reg [(qq a8 (.mv z4)),(qq a9 (.mv z0)),(qq cg (.ln .slice z9)),(qq cF (.bi .lss z8 cm))])
def aO2:CC:=(.dreg 16 [(0,0,(qq dm (.mv z3))),(1,0,(qq dC (.mv z0))),(2,0,(qq dJ (.mv z4))),(3,6,(qq dX (.iaS 1 dy ec))),(4,14,(qq dS (.ld1 dL))),(5,30,(qq dN (.bi .shr eA (.c (.i .u64 4))))),(6,62,(qq fi (.ixS (.c (.s 16 136107713667768957684761770045455085872)) fk))),(7,0,(qq eL (.mv z0))),(8,0,(qq eM (.mv z4))),(9,384,(qq ew (.iaS 1 fT fm))),(10,896,(qq dG (.ld1 fW))),(11,1920,(qq eE (.bi .and fX (.c (.i .u8 15))))),(12,3968,(qq eU (.ixS (.c (.s 16 136107713667768957684761770045455085872)) fY))),(13,8190,(aa fC (.bsl 5 2 1 [(.i .u8 0)] [(0,fl),(1,ib)]))),(14,16383,(ee fU (.app 5 1 1 dB gi))),(15,32767,(qq a3 (.mv ic)))])
def aO3:CC:=(.reg [(qq de (.mv z4)),(qq cO (.bi .add cT (x6 1))),(qq a4 (.mv cK))])
def aO4:CC:=(.seq (.seq aO1 (.cond cI .skip (.exit 0))) (.seq (.block 1 aO2) aO3))
def aO5:CC:=(.reg [(qq fp (.mv z3)),(qq fD (.bs ij)),(qq a2 (.mv il))])
def aO6:CC:=(.seq (.seq aO0 (.block 0 (.loop aO4))) (.seq aO5 .ret))
def VP:CC:=(.seq (.reg [(qq a3 (.mv (.c .l0)))]) aO6)
def VQ:CC:=(.seq (.seq aN8 (.cond z7 aN9 .skip)) VP)
def VS:CC:=(.seq (.reg [(qq a2 (.mv (.c (.s 0 0))))]) VQ)
def c45:CF:= .mk 5 [.t a2] VS
theorem e45(v0:V):bh 5 [v0]=(.n oE (some v0) oE):=rfl
def B45:=ai @e45 (ai (wu aN8.eq_1) (ai (wu aN9.eq_1) (ai (wu aO0.eq_1) (ai (wu aO1.eq_1) (ai (wu aO2.eq_1) (ai (wu aO3.eq_1) (ai (wu aO4.eq_1) (ai (wu aO5.eq_1) (ai (wu aO6.eq_1) (ai (wu VP.eq_1) (ai (wu VQ.eq_1) (wu VS.eq_1))))))))))))
def b72:CC:=(.reg [(qq a4 (.mv (.c (.s 0 0)))),(qq a5 (.mv xF))])
def b73:CC:=(.reg [(qq a6 (.mv z0)),(qq a7 (.mv z1)),(ee a8 (.call 135 [z6,z7])),(qq a9 (.un .not z8))])
def b74:CC:=(.reg [(qq cg (.mv z0)),(qq a4 (.mv cm)),(qq a5 (.mv xF))])
def b75:CC:=(.seq b73 (.cond z9 (.seq b74 .ret) .skip))
def b76:CC:=(.reg [(qq cF (.mv z0)),(qq de (.mv z1)),(qq cO (.ln .str cT)),(qq dm (.slS cI (some cK) none)),(qq a4 (.mv dB)),(qq a5 (.mv xT))])
def bI1:CF:= .mk 4 [.t a4,.t a5] (.seq b72 (.seq b75 (.seq b76 .ret)))
def bG8:CC:=(.reg [(qq a4 (.mv (.c (.s 0 0)))),(qq a5 (.mv xF))])
def bG9:CC:=(.reg [(qq a6 (.mv z0)),(qq a7 (.mv z1)),(ee a8 (.call 101 [z6,z7])),(qq a9 (.ex 0 z8)),(qq cg (.ex 1 z8)),(qq a4 (.mv z9)),(qq a5 (.mv cm))])
def c72:CF:= .mk 4 [.t a4,.t a5] (.seq bG8 (.seq bG9 .ret))
def fH(b:UInt8):Nat:=if 48≤b.toNat∧b.toNat≤57 then b.toNat-48 else if 97≤b.toNat∧b.toNat<103 then b.toNat-87 else 16
theorem YA(b:UInt8):fH b≤16:=by
 unfold fH;split
 ·omega
 ·split<;>omega
theorem LT(n:Nat)(h:n<16):fH (dA n)=n:=by
 have:∀n,n<16→fH (dA n)=n:=by decide
 exact this n h
def ek(b:UInt8):Nat:=if 48≤b.toNat∧b.toNat≤57 then b.toNat-48 else if 65≤b.toNat∧b.toNat<71 then b.toNat-55 else 16
theorem LQ(b:UInt8):ek b≤16:=by
 unfold ek;split
 ·omega
 ·split<;>omega
theorem t89(Φ:Nat→Option CF)(h:Φ 89=some c89)(b:UInt8)(ct:Nat):To Φ 89 [bV b,.i .u8 97] ct (.i .u8 (fH b:Int)):=by
 refine fg h ?_
 have hb:=UInt8.toNat_lt b
 rw[bV]
 unfold fH
 generalize b.toNat=x at hb⊢
 by_cases hA:48≤x∧x≤57
 ·have e2:decide ((48:Int)≤(x:Int))=true:=ae (by omega);have e1003:decide ((x:Int)≤57)=true:=ae (by omega);have s1:bD .sub (.i .u8 (x:Int)) (.i .u8 48)=some (.i .u8 ((x-48:Nat):Int)):=by rw[eF,bS];congr 2;omega
  rw[ac hA];simp only[WX,B89,e2,e1003,s1]
 ·have a3:bD .add (.i .u8 97) (.i .u8 6)=some (.i .u8 103):=by rw[gL,bS];rfl
  rw[ab hA];by_cases h1:x<48
  ·have e2:decide ((48:Int)≤(x:Int))=false:=ag (by omega);have e8:decide ((97:Int)≤(x:Int))=false:=ag (by omega);rw[ab (by omega)];simp only[WX,B89,e2,e8];rfl
  ·have e2:decide ((48:Int)≤(x:Int))=true:=ae (by omega);have e1003:decide ((x:Int)≤57)=false:=ag (by omega);by_cases h2:x<97
   ·have e8:decide ((97:Int)≤(x:Int))=false:=ag (by omega);rw[ab (by omega)];simp only[WX,B89,e2,e1003,e8];rfl
   ·have e8:decide ((97:Int)≤(x:Int))=true:=ae (by omega);by_cases h1003:x<103
    ·have e32:decide ((x:Int)<103)=true:=ae (by omega);have s1:bD .sub (.i .u8 (x:Int)) (.i .u8 97)=some (.i .u8 ((x-97:Nat):Int)):=by rw[eF,bS];congr 2;omega
     have s2:bD .add (.i .u8 ((x-97:Nat):Int)) (.i .u8 10)=some (.i .u8 ((x-87:Nat):Int)):=by rw[gL,bS];congr 2;omega
     rw[ac (by omega)];simp only[WX,B89,e2,e1003,e8,e32,a3,s1,s2]
    ·have e32:decide ((x:Int)<103)=false:=ag (by omega);rw[ab (by omega)];simp only[WX,B89,e2,e1003,e8,e32,a3];rfl
theorem cK8(Φ:Nat→Option CF)(h:Φ 89=some c89)(b:UInt8)(ct:Nat):To Φ 89 [bV b,.i .u8 65] ct (.i .u8 (ek b:Int)):=by
 refine fg h ?_
 have hb:=UInt8.toNat_lt b
 rw[bV]
 unfold ek
 generalize b.toNat=x at hb⊢
 by_cases hA:48≤x∧x≤57
 ·have e2:decide ((48:Int)≤(x:Int))=true:=ae (by omega);have e1003:decide ((x:Int)≤57)=true:=ae (by omega);have s1:bD .sub (.i .u8 (x:Int)) (.i .u8 48)=some (.i .u8 ((x-48:Nat):Int)):=by rw[eF,bS];congr 2;omega
  rw[ac hA];simp only[WX,B89,e2,e1003,s1]
 ·have a3:bD .add (.i .u8 65) (.i .u8 6)=some (.i .u8 71):=by rw[gL,bS];rfl
  rw[ab hA];by_cases h1:x<48
  ·have e2:decide ((48:Int)≤(x:Int))=false:=ag (by omega);have e8:decide ((65:Int)≤(x:Int))=false:=ag (by omega);rw[ab (by omega)];simp only[WX,B89,e2,e8];rfl
  ·have e2:decide ((48:Int)≤(x:Int))=true:=ae (by omega);have e1003:decide ((x:Int)≤57)=false:=ag (by omega);by_cases h2:x<65
   ·have e8:decide ((65:Int)≤(x:Int))=false:=ag (by omega);rw[ab (by omega)];simp only[WX,B89,e2,e1003,e8];rfl
   ·have e8:decide ((65:Int)≤(x:Int))=true:=ae (by omega);by_cases h1003:x<71
    ·have e32:decide ((x:Int)<71)=true:=ae (by omega);have s1:bD .sub (.i .u8 (x:Int)) (.i .u8 65)=some (.i .u8 ((x-65:Nat):Int)):=by rw[eF,bS];congr 2;omega
     have s2:bD .add (.i .u8 ((x-65:Nat):Int)) (.i .u8 10)=some (.i .u8 ((x-55:Nat):Int)):=by rw[gL,bS];congr 2;omega
     rw[ac (by omega)];simp only[WX,B89,e2,e1003,e8,e32,a3,s1,s2]
    ·have e32:decide ((x:Int)<71)=false:=ag (by omega);rw[ab (by omega)];simp only[WX,B89,e2,e1003,e8,e32,a3];rfl
def h89:List V→Option V
 |[v,.i .u8 a]=>(Qq v).bind fun b=>if a=97 then some (.i .u8 (fH b:Int))else if a=65 then some (.i .u8 (ek b:Int))else none
 |_=>none
theorem Y8(b:UInt8):h89 [bV b,.i .u8 97]=some (.i .u8 (fH b:Int)):=by
 show(Qq (bV b)).bind (fun b=>if(97:Int)=97 then some (V.i .u8 (fH b:Int))else _)=_
 rw[Hf];rfl
theorem Y9(b:UInt8):h89 [bV b,.i .u8 65]=some (.i .u8 (ek b:Int)):=by
 show(Qq (bV b)).bind (fun b=>if(65:Int)=97 then some (V.i .u8 (fH b:Int))else if(65:Int)=65 then some (V.i .u8 (ek b:Int))else none)=_
 rw[Hf];rfl
theorem Lr(n:Nat)(h:n<16):rP (.s 16 136107713667768957684761770045455085872) (.i .u8 (n:Int))=some (bV (dA n)):=by
 have e78:V.s 16 136107713667768957684761770045455085872=sV vJ:=rfl
 have hlen:vJ.length=16:=rfl
 rw[e78,oC vJ .u8 n (by omega)]
 have:∀n,n<16→vJ[n]?=some (dA n):=by decide
 have h2:=this n h
 rw[List.getElem?_eq_getElem (by omega)]at h2
 rw[af h2]
theorem r45(Φ:Nat→Option CF)(h:Φ 45=some c45){F:RO}{M:Mem}{c:Nat}{v:V}{l:List UInt8}(ok:d9 F M c)(hs:ov F M c v l)(hl:l.length≤100000):
 Calls Φ F 45 [v] M c fun r M' c'=>r=sV (iU l)∧Gr c M c' M':=by
 refine az h ?_
 have hln:=hs.len
 by_cases h0:l=[]
 ·subst h0;rw[bU]at hln;simp only[WX,B45,hln,Int.ofNat_zero];exact⟨rfl,Gr.refl ok⟩
 ·have hpos:l.length≠0:=fun e=>h0 (List.length_eq_zero_iff.1 e);have d0:decide ((l.length:Int)=0)=false:=ag (by omega);simp only[WX,B45,hln,d0];obtain⟨I,hI⟩:∃I:Nat→St→Prop,∀n s',I n s'↔(∃(i c1 b1:Nat) (acc:V) (M1:Mem) (u:List (Option V)),n=l.length-i∧i≤l.length∧s'= .mk ((cg3 u v acc (.i .i64 (i:Int)))) [] M1 c1∧Gr c M c1 M1∧aQ M1 c c1 b1 5 1 acc ((ix (l.take i)).map fun x=>[bV x])):=⟨fun n s'=>_,fun _ _=>Iff.rfl⟩
  refine bG I ?_ l.length _ ((hI _ _).2 ⟨0,c,0,.l0,M,(G1 (X2 (G2 (bE (X8 (X2 [])))))),rfl,aF _,rfl,Gr.refl ok,aQ.nil⟩);intro n s' hIs;obtain⟨i,c1,b1,acc,M1,u,rfl,hi,rfl,g1,hA⟩:=(hI _ _).1 hIs;clear hIs;have cD:=g1.ok ok;have g1l:=g1.le;by_cases hlt:i<l.length
  ·have d1:decide ((i:Int)<(l.length:Int))=true:=ae (by omega);have q8:bD .add (.i .i64 (i:Int)) (.i .i64 1)=some (.i .i64 ((i+1:Nat):Int)):=by rw[aO _ _ (by omega) (by omega)];simp
   obtain⟨pb,po,hpb,hia,hld⟩:=hs.get i hlt;have hia:=hia .i64;have hld1:=(g1.load1 (F:=F) hpb po).trans hld;have htk:=fQ hlt;have hlen:(l.take i).length=i:=by rw[List.length_take];omega
   generalize l[i]=x at hld hld1 htk;have hx:=UInt8.toNat_lt x;have a1:=AL x;have a2:=wO x;have x1:=Lr (x.toNat/16) (by omega);have x2:=Lr (x.toNat%16) (by omega);have lk:(look F M1 (c1+13)).isNone=true:=by rw[cD.look (by omega)];rfl
   have fb:∀x,flatten (bV x)=[bV x]:=fun _=>rfl;have ob:∀x,cY (bV x)=true:=fun _=>rfl;have rf:cV (c1+13) [(10,pb),(4,pb)]=true:=by rw[bY _ _ _ _ (by omega),bY _ _ _ _ (by omega),dQ]
   simp only[WX,Nat.reducePow,Nat.reduceDiv,Nat.reduceMod,Nat.reduceBEq,Nat.reduceAdd,B45,hln,d1,hia,hld1,a1,a2,x1,x2,lk,rf,Dl,th,Nm,fb,ob];have grY:=(g1.up (c2:=c1+16) (by omega)).set (c2:=c1+16) (c1+13) (dx [V.i .u8 0] 5 [bV (dA (x.toNat/16)),bV (dA (x.toNat%16))]) (by omega) (by omega) (ah _);have hy:cj F (M1.set (c1+13) (dx [V.i .u8 0] 5 [bV (dA (x.toNat/16)),bV (dA (x.toNat%16))])) (c1+16) 1 (.l (c1+13) 0 2 2) ([dA (x.toNat/16),dA (x.toNat%16)].map fun x=>[bV x]):=zo (d:=[V.i .u8 0]) (ty:=5) (by rw[au];rfl) (by omega) (fun e he=>by obtain⟨x,_,rfl⟩:=List.mem_map.1 he;rfl) rfl;refine lb ((iI (bytes:=1) (hA.up (show c1≤c1+16 by omega) (fun hx=>aK _ _ (by omega))) grY Nat.one_pos hy rfl (eI (by rw[List.length_map,List.length_map,jO,hlen];simp only[aX,bU];omega) (by rw[List.length_map,List.length_map,jO,hlen];simp only[aX,bU];omega))).mono ?_);rintro v' M2 c2 ⟨b2,hA2,gr2,hle2,_,_⟩;refine⟨(gr2.ok ok).free,?_⟩;simp only[WX,B45,q8];refine⟨l.length-(i+1),by omega,(hI _ _).2 ⟨i+1,c2,b2,v',M2,(G1 (X2 (G2 (bE (X8 (X2 [])))))),rfl,by omega,rfl,gr2,?_⟩⟩;rw[htk];have:ix (l.take i++[x])=ix (l.take i)++[dA (x.toNat/16),dA (x.toNat%16)]:=by unfold ix;rw[List.flatMap_append];rfl
   rw[this,List.map_append];exact hA2
  ·obtain rfl:i=l.length:=by omega
   have d1:decide ((l.length:Int)<(l.length:Int))=false:=ag (by omega);rw[List.take_length]at hA;have hbs:=yq (F:=F) (show ov F M1 c1 acc (ix l)from hA.sl);simp only[WX,B45,hln,d1,hbs];exact⟨by unfold iU;rw[ab h0],g1⟩
abbrev b21(u:List (Option V))(x0 x3 x9 x10 x11:V):T:=(.n (.n (.n (am u 31 15 47 7 39 23 55) (some x3) (.n (hU u 35 19 51) (some x11) (hU u 43 27 59))) (uO u 1) (.n (.n (hU u 33 17 49) (some x9) (hU u 41 25 57)) (uO u 5) (am u 37 21 53 13 45 29 61))) (some x0) (.n (.n (am u 32 16 48 8 40 24 56) (uO u 4) (am u 36 20 52 12 44 28 60)) (uO u 2) (.n (.n (hU u 34 18 50) (some x10) (hU u 42 26 58)) (uO u 6) (am u 38 22 54 14 46 30 62))))
abbrev cg7(u:List (Option V))(x0 x3 x5 x9 x10 x11:V):T:=(.n (.n (.n (am u 31 15 47 7 39 23 55) (some x3) (.n (hU u 35 19 51) (some x11) (hU u 43 27 59))) (uO u 1) (.n (.n (hU u 33 17 49) (some x9) (hU u 41 25 57)) (some x5) (am u 37 21 53 13 45 29 61))) (some x0) (.n (.n (am u 32 16 48 8 40 24 56) (uO u 4) (am u 36 20 52 12 44 28 60)) (uO u 2) (.n (.n (hU u 34 18 50) (some x10) (hU u 42 26 58)) (uO u 6) (am u 38 22 54 14 46 30 62))))
def aS6:CC:=(.reg [(qq a6 (.mv z0)),(qq a7 (.ln .slice z6)),(qq a8 (.bi .eql z7 (x6 0)))])
def cp5:=wu aS6.eq_1
def aS7:CC:=(.seq (.reg [(qq a2 (.mv (.c (.s 1 37))))]) .ret)
def cp6:=wu aS7.eq_1
def aS8:CC:=(.reg [(aa a3 (.al 96 [.p0,.l0]))])
def cp7:=wu aS8.eq_1
def aS9:CC:=(.reg [(qq a9 (.mv z0)),(qq cg (.ln .slice z9)),(qq cF (.mv (x6 0)))])
def cp8:=wu aS9.eq_1
def aT0:CC:=(.reg [(qq de (.bi .lss cI cm))])
def Nj:=wu aT0.eq_1
def aT1:CC:=(.reg [(qq cO (.iaS 1 z9 cI)),(qq dm (.ld1 cK)),(qq a5 (.mv dB))])
def Nk:=wu aT1.eq_1
def aT2:CC:=(.reg [(qq dC (.mv z5)),(qq dJ (.bi .gtr dy (.c (.i .u8 32)))),(qq dX (.mv ec)),(ak dS (.mv z5) dX),(ak dN (.bi .lss eA (.c (.i .u8 127))) dX),(qq fi (.pk dL fk xF)),(qq eL (.mv fl)),(ak eM (.mv z5) eL),(ak ew (.bi .neq fm (.c (.i .u8 37))) eL),(qq dG (.pk fT fW xF))])
def Nl:=wu aT2.eq_1
def aT3:CC:=(.reg [(qq eE (.mv z5)),(ee eU (.call 49 [z3,fY]))])
def cp9:=wu aT3.eq_1
def WF:CC:=(.reg [(qq fC (.mv z5)),(aa fU (.bsl 5 1 1 [(.i .u8 0)] [(0,gi)])),(ee fp (.call 51 [ic])),(ee fD (.call 118 [ij])),(qq iF (.bi .add (.c (.s 1 37)) il)),(ee gu (.call 48 [z3,iE]))])
def cq0:=wu WF.eq_1
def WA:CC:=(.seq aT2 (.cond fX aT3 WF))
def Br:=wu WA.eq_1
def Ef:CC:=(.reg [(qq gH (.bi .add cI (x6 1))),(qq cF (.mv ji))])
def bv2:=wu Ef.eq_1
def WB:CC:=(.seq (.cond cT .skip (.exit 0)) (.seq (.block 1 (.seq aT1 WA)) Ef))
def Bs:=wu WB.eq_1
def Eg:CC:=(.reg [(ee ga (.call 53 [z3])),(qq a2 (.mv jz))])
def bv3:=wu Eg.eq_1
def WC:CC:=(.seq (.seq aS9 (.block 0 (.loop (.seq aT0 WB)))) (.seq Eg .ret))
def bv4:=wu WC.eq_1
def WD:CC:=(.seq (.seq aS6 (.cond z8 aS7 .skip)) (.seq aS8 WC))
def bv5:=wu WD.eq_1
def WE:CC:=(.seq (.reg [(qq a2 (.mv (.c (.s 0 0))))]) WD)
def bv6:=wu WE.eq_1
def c80:CF:= .mk 6 [.t a2] WE
theorem e80(v0:V):bh 6 [v0]=(.n zn (some v0) zn):=rfl
def B80:=ai @e80 (ai @cp5 (ai @cp6 (ai @cp7 (ai @cp8 (ai @Nj (ai @Nk (ai @Nl (ai @cp9 (ai @cq0 (ai @Br (ai @bv2 (ai @Bs (ai @bv3 (ai @bv4 (ai @bv5 (@bv6))))))))))))))))
def eO(n:Nat):UInt8:=if n<10 then UInt8.ofNat (48+n)else UInt8.ofNat (55+n)
def fu(b:UInt8):List UInt8:=if 33≤b.toNat∧b.toNat≤126∧b.toNat≠37 then[b]else[37,eO (b.toNat/16),eO (b.toNat%16)]
def dK(l:List UInt8):List UInt8:=if l=[]then[37]else l.flatMap fu
theorem ZA(n:Nat)(h:n<16):uw (dA n)=eO n:=by
 have:∀n,n<16→uw (dA n)=eO n:=by decide
 exact this n h
theorem Lv(n:Nat)(h:n<16):(dA n).toNat<128:=by
 have:∀n,n<16→(dA n).toNat<128:=by decide
 exact this n h
theorem uk(b:UInt8):(fu b).length≤3:=by unfold fu;split<;>simp
theorem qx(l:List UInt8):(l.flatMap fu).length≤3*l.length:=by
 induction l with
 |nil=>simp
 |cons b l ih=>rw[List.flatMap_cons,bw,aX];have:=uk b;omega
theorem r80(Φ:Nat→Option CF)(h:Φ 80=some c80)(h118:Φ 118=some Xs)(h115:Φ 115=some Ew)(h91:Φ 91=some PD)(h48:Φ 48=some c48)(h49:Φ 49=some c49)(h53:Φ 53=some c53)(h145:Φ 145=some C9)(h51:Φ 51=some c51){F:RO}{M:Mem}{c:Nat}{v:V}{l:List UInt8}(ok:d9 F M c)(hs:ov F M c v l)(hl:l.length≤400000):
 Calls Φ F 80 [v] M c fun r M' c'=>r=sV (dK l)∧Gr c M c' M':=by
 refine az h ?_
 have hln:=hs.len
 by_cases h0:l=[]
 ·subst h0;rw[bU]at hln;simp only[WX,B80,hln,Int.ofNat_zero];exact⟨rfl,Gr.refl ok⟩
 ·have hpos:l.length≠0:=fun e=>h0 (List.length_eq_zero_iff.1 e);have d0:decide ((l.length:Int)=0)=false:=ag (by omega);simp only[WX,B80,hln,d0];have g0:=(Gr.refl ok).set c (ax 96 [.p0,.l0]) (ah _) (aL _) (aP _);obtain⟨I,hI⟩:∃I:Nat→St→Prop,∀n s',I n s'↔(∃(i c1 bb:Nat) (M1:Mem) (u:List (Option V)),n=l.length-i∧i≤l.length∧s'= .mk ((b21 u v (.p c 0) v (.i .i64 (l.length:Int)) (.i .i64 (i:Int)))) [] M1 c1∧Gr c M c1 M1∧j9 M1 c c1 c bb ((l.take i).flatMap fu)):=⟨fun n s'=>_,fun _ _=>Iff.rfl⟩
  refine bG I ?_ l.length _ ((hI _ _).2 ⟨0,c+1,c+1,_,(G1 (X2 (G1 (X4 (X1 (G2 (G1 (bO (bE (X2 (X1 []))))))))))),rfl,aF _,rfl,g0,⟨ah _,aL _,by omega,.p0,.l0,au _ _ _,.inl rfl,.inl ⟨by rw[List.take_zero];rfl,rfl⟩⟩⟩);intro n s' hIs;obtain⟨i,c1,bb,M1,u,rfl,hi,rfl,g1,hb⟩:=(hI _ _).1 hIs;clear hIs;have cD:=g1.ok ok;have q8:bD .add (.i .i64 (i:Int)) (.i .i64 1)=some (.i .i64 ((i+1:Nat):Int)):=by rw[aO _ _ (by omega) (by omega)];simp
  by_cases hlt:i<l.length
  ·have d1:decide ((i:Int)<(l.length:Int))=true:=ae (by omega);obtain⟨pb,po,hpb,hia,hld⟩:=hs.get i hlt;have hia:=hia .i64;have hld1:=(g1.load1 (F:=F) hpb po).trans hld;have htk:=fQ hlt;have htl:(l.take i).length=i:=by rw[List.length_take];omega
   have hel:=qx (l.take i);rw[htl]at hel;generalize l[i]=x at hld hld1 htk;have hfm:(l.take (i+1)).flatMap fu=(l.take i).flatMap fu++fu x:=by rw[htk,List.flatMap_append];simp
   have hx:=UInt8.toNat_lt x;have next:∀(u:List (Option V)) M2 c2 b2,Gr c M c2 M2→j9 M2 c c2 c b2 ((l.take i).flatMap fu++fu x)→ ∃m<l.length-i,I m (.mk ((b21 u v (.p c 0) v (.i .i64 (l.length:Int)) (.i .i64 ((i+1:Nat):Int)))) [] M2 c2):=fun u M2 c2 b2 g2 hb2=>⟨l.length-(i+1),by omega,(hI _ _).2 ⟨i+1,c2,b2,M2,u,rfl,hlt,rfl,g2,by rw[hfm];exact hb2⟩⟩
   by_cases hp:33≤x.toNat∧x.toNat≤126∧x.toNat≠37
   ·have e1:decide ((32:Int)<(x.toNat:Int))=true:=ae (by omega);have e2:decide ((x.toNat:Int)<127)=true:=ae (by omega);have e3:decide ((x.toNat:Int)≠37)=true:=ae (by omega);simp only[WX,B80,d1,hia,hld1,e1,e2,e3];refine av ((r49 Φ h49 h91 cD g1 hb x (jt (by omega))).mono ?_);rintro r M2 c2 ⟨b2,hb2,g2,_,_,_⟩;simp only[WX,B80,q8];exact next (G1 (X2 (G1 (X4 (X1 (G2 (G1 (bO (bE (X2 (X1 []))))))))))) M2 c2 b2 g2 (by rw[show fu x=[x]from ac hp];exact hb2)
   ·have he:fu x=[37,eO (x.toNat/16),eO (x.toNat%16)]:=ab hp
    have FIN:∀u,Wp WF (K Φ none 80 F) (.mk ((cg7 u v (.p c 0) (.i .u8 (x.toNat:Int)) v (.i .i64 (l.length:Int)) (.i .i64 (i:Int)))) [] M1 c1) (fV 1 (lg Ef (K Φ none 80 F) (nw I (l.length-i) (fV 0 (lg (Eg.seq .ret) (K Φ none 80 F) (cX F [.t (.r .h)] fun r M' c'=>r=sV (dK l)∧Gr c M c' M')))))):=by
     intro u;have fb:∀z,flatten (V.i .u8 z)=[V.i .u8 z]:=fun _=>rfl;have ob:∀z,cY (V.i .u8 z)=true:=fun _=>rfl;simp only[WX,B80,fb,ob];have gX:=(Gr.refl cD).set c1 (dx [.i .u8 0] 5 [.i .u8 (x.toNat:Int)]) (ah _) (aL _) (aP _);have hy:ov F (M1.set c1 (dx [.i .u8 0] 5 [.i .u8 (x.toNat:Int)])) (c1+1) (.l c1 0 1 1) [x]:=zo (d:=[.i .u8 0]) (ty:=5) (au _ _ _) (by omega) (fun e he=>by obtain⟨x,_,rfl⟩:=List.mem_map.1 he;rfl) rfl;refine av ((r51 Φ h51 h48 h53 h91 (gX.ok cD) hy (by simp)).mono ?_);rintro r M2 c2 ⟨rfl,g2⟩;have hht:iU [x]=[dA (x.toNat/16),dA (x.toNat%16)]:=rfl;rw[hht];have ok2:=g2.ok (gX.ok cD);simp only[WX]
     refine av ((cH7 Φ h118 h115 h91 h48 h49 h53 h145 ok2 [dA (x.toNat/16),dA (x.toNat%16)] (by simp) (fun y hy=>by
      simp only[bj,List.mem_nil_iff,or_false]at hy;rcases hy with rfl|rfl
      ·exact Lv _ (by omega)
      ·exact Lv _ (by omega))).mono ?_)
     rintro r M3 c3 ⟨rfl,g3⟩;have hup:[dA (x.toNat/16),dA (x.toNat%16)].map uw=[eO (x.toNat/16),eO (x.toNat%16)]:=by
      rw[List.map_cons,List.map_cons,List.map_nil,ZA _ (by omega),ZA _ (by omega)]
     rw[hup];have hcat:bD .add (.s 1 37) (sV [eO (x.toNat/16),eO (x.toNat%16)])=some (sV (fu x)):=by
      rw[he];exact nR [37] [eO (x.toNat/16),eO (x.toNat%16)] (by simp)
     have g13:=(gX.trans g2).trans g3;simp only[WX,hcat];refine av ((r48 Φ h48 h91 (g3.ok ok2) (g1.trans g13) (hb.up g13.le fun y hy=>g13.old y hy) (fu x) (jt (by have:=uk x;omega))).mono ?_);rintro r M4 c4 ⟨b4,hb4,g4,_,_,_⟩;simp only[WX,B80,q8];exact next (G1 (X2 (G1 (X4 (X1 (G2 (G1 (bO (bE (X2 (X1 []))))))))))) M4 c4 b4 g4 hb4
    have hld1:load1 F M1 pb po=some (.i .u8 (x.toNat:Int)):=hld1;by_cases q1:33≤x.toNat
    ·have e1:decide ((32:Int)<(x.toNat:Int))=true:=ae (by omega);by_cases q2:x.toNat≤126
     ·have e2:decide ((x.toNat:Int)<127)=true:=ae (by omega);have e3:decide ((x.toNat:Int)≠37)=false:=ag (by omega);simp only[WX,Nj,Nk,Nl,Br,Bs,d1,hia,hld1,e1,e2,e3];exact FIN (G1 (X2 (G1 (X1 (G1 (X2 (X1 (G2 (G1 (bO (bE (X2 (X1 [])))))))))))))
     ·have e2:decide ((x.toNat:Int)<127)=false:=ag (by omega);simp only[WX,Nj,Nk,Nl,Br,Bs,d1,hia,hld1,e1,e2];exact FIN (G1 (X2 (G1 (X1 (G1 (X2 (X1 (G2 (G1 (bO (bE (X2 (X1 [])))))))))))))
    ·have e1:decide ((32:Int)<(x.toNat:Int))=false:=ag (by omega);simp only[WX,Nj,Nk,Nl,Br,Bs,d1,hia,hld1,e1];exact FIN (G1 (X2 (G1 (X1 (G1 (X2 (X1 (G2 (G1 (bO (bE (X2 (X1 [])))))))))))))
  ·obtain rfl:i=l.length:=by omega
   have d1:decide ((l.length:Int)<(l.length:Int))=false:=ag (by omega);have hel:=qx l;rw[List.take_length]at hb;simp only[WX,B80,d1];refine av ((r53 Φ h53 cD g1 hb (by omega)).mono ?_);rintro r M2 c2 ⟨rfl,g2,_,_⟩;simp only[WX];exact⟨by unfold dK;rw[ab h0],g2⟩
abbrev b19(u:List (Option V))(x0 x4 x5:V):T:=(.n (.n (.n (am u 31 15 47 7 39 23 55) (uO u 3) (am u 35 19 51 11 43 27 59)) (uO u 1) (.n (am u 33 17 49 9 41 25 57) (some x5) (am u 37 21 53 13 45 29 61))) (some x0) (.n (.n (am u 32 16 48 8 40 24 56) (some x4) (am u 36 20 52 12 44 28 60)) (uO u 2) (.n (am u 34 18 50 10 42 26 58) (uO u 6) (am u 38 22 54 14 46 30 62))))
def aK9:CC:=(.reg [(qq a2 (.mv (.c .l0))),(qq a3 (.mv xF))])
def aL0:CC:=(.reg [(qq a8 (.mv z0)),(qq a9 (.bi .eql z8 (.c (.s 1 46))))])
def aL1:CC:=(.reg [(qq a2 (.mv (.c .l0))),(qq a3 (.mv xT))])
def aL2:CC:=(.seq aL0 (.cond z9 (.seq aL1 .ret) .skip))
def aL3:CC:=(.reg [(qq a5 (.mv (x6 0)))])
def aL4:CC:=(.reg [(qq cg (.mv z5)),(qq cF (.bi .add cm (x6 1))),(qq de (.mv z0)),(qq cO (.ln .str cT)),(qq dm (.bi .lss cI cK))])
def aL5:CC:=(.dreg 11 [(0,0,(qq dX (.mv z0))),(1,0,(qq dS (.mv z5))),(2,3,(qq dN (.ixS dL eA))),(4,0,(qq eL (.mv z0))),(5,0,(qq eM (.mv z5))),(6,32,(qq ew (.bi .add fm (x6 1)))),(7,112,(qq dG (.ixS fT fW))),(3,7,(ee fi (.call 89 [fk,(.c (.i .u8 97))]))),(8,255,(ee eE (.call 89 [fX,(.c (.i .u8 97))]))),(9,511,(qq a6 (.mv fl))),(10,1023,(qq a7 (.mv fY)))])
def aL6:CC:=(.reg [(qq eU (.mv z6)),(qq fC (.bi .gtr ib (.c (.i .u8 15)))),(qq fU (.mv gi)),(aU fp (.mv z7) fU),(aU fD (.bi .gtr ij (.c (.i .u8 15))) fU),(qq iF (.pk ic xT il))])
def aL7:CC:=(.reg [(qq a2 (.mv (.c .l0))),(qq a3 (.mv xF))])
def Vp:CC:=(.cond iE (.seq aL7 .ret) .skip)
def Vq:CC:=(.reg [(qq gu (.mv z4)),(qq gH (.mv z6)),(qq ga (.bi .mul ji (.c (.i .u8 16)))),(qq iG (.mv z7)),(qq jb (.bi .add jz jj)),(aa iP (.bsl 5 1 1 [(.i .u8 0)] [(0,k5)])),(ee ia (.app 5 1 1 jh jk)),(qq a4 (.mv j1))])
def Vr:CC:=(.reg [(qq dC (.mv z5)),(qq dJ (.bi .add dy (x6 2))),(qq a5 (.mv ec))])
def Vs:CC:=(.seq (.block 1 (.seq aL5 (.seq (.seq aL6 Vp) Vq))) Vr)
def Vt:CC:=(.seq (.seq aL4 (.cond dB .skip (.exit 0))) Vs)
def Vu:CC:=(.reg [(qq j0 (.mv z4)),(qq ie (.mv z0)),(qq jB (.ln .str kg)),(qq jc (.bi .gtr kh (x6 0))),(qq jd (.mv kK)),(ak jm (.mv z0) jd),(ak k6 (.ln .str lm) jd),(ak kS (.bi .rem lr (x6 2)) jd),(ak kT (.bi .eql mJ (x6 0)) jd),(qq jv (.pk ll lq xF)),(qq a2 (.mv k8)),(qq a3 (.mv mw))])
def Vv:CC:=(.seq (.seq aL3 (.block 0 (.loop Vt))) (.seq Vu .ret))
def Vw:CC:=(.seq (.reg [(qq a4 (.mv (.c .l0)))]) Vv)
def c41:CF:= .mk 6 [.t a2,.t a3] (.seq aK9 (.seq aL2 Vw))
theorem e41(v0:V):bh 6 [v0]=(.n zn (some v0) zn):=rfl
def B41:=ai @e41 (ai (wu aK9.eq_1) (ai (wu aL0.eq_1) (ai (wu aL1.eq_1) (ai (wu aL2.eq_1) (ai (wu aL3.eq_1) (ai (wu aL4.eq_1) (ai (wu aL5.eq_1) (ai (wu aL6.eq_1) (ai (wu aL7.eq_1) (ai (wu Vp.eq_1) (ai (wu Vq.eq_1) (ai (wu Vr.eq_1) (ai (wu Vs.eq_1) (ai (wu Vt.eq_1) (ai (wu Vu.eq_1) (ai (wu Vv.eq_1) (wu Vw.eq_1)))))))))))))))))
theorem Yb(a b:Nat)(hb:0<b)(ha:a<9223372036854775808):bD .rem (.i .i64 (a:Int)) (.i .i64 (b:Int))=some (.i .i64 ((a%b:Nat):Int)):=by
 show(mm .i64 (a:Int) (b:Int)).val=_
 unfold mm
 rw[cB,ag (show¬((b:Int)=0) by omega),cond_false,dW,←Int.ofNat_tmod];rfl
theorem vK{x y:UInt8}{r:List UInt8}{l:List UInt8}(h:ix l=x::y::r):∃b l',l=b::l'∧ix l'=r∧fH x<16∧fH y<16∧b=UInt8.ofNat (fH x*16+fH y):=by
 cases l with
 |nil=>cases h
 |cons b l'=>
  have hb:=UInt8.toNat_lt b;unfold ix at h;rw[List.flatMap_cons]at h;injection h with h1 h
  injection h with h2 h
  refine⟨b,l',rfl,h,?_⟩;rw[←h1,←h2,LT _ (by omega),LT _ (by omega)];refine⟨by omega,by omega,?_⟩;rw[show b.toNat/16*16+b.toNat%16=b.toNat by omega,UInt8.ofNat_toNat]
theorem cI9(Φ:Nat→Option CF)(h:Φ 41=some c41)(h89:Φ 89=some (.orc (bg h89))){F:RO}{M:Mem}{c:Nat}(ok:d9 F M c)(s:List UInt8)(hl:s.length≤100000):
 Calls Φ F 41 [sV s] M c fun r M' c'=>Gr c M c' M'∧ ∃v b l,r= .t [v,.b b]∧(∃bb,aQ M' c c' bb 5 1 v (l.map fun x=>[bV x]))∧2*l.length≤s.length∧ ∀l',s=iU l'→b=true∧l'=l:=by
 refine az h ?_
 have e0:=gk s [46]
 rw[show sV [46]= .s 1 46 from rfl]at e0
 by_cases h0:s=[46]
 ·rw[ae h0]at e0;simp only[WX,B41,e0];refine⟨Gr.refl ok,_,_,[],rfl,⟨0,aQ.nil⟩,aF _,fun l' hl'=>⟨rfl,?_⟩⟩;rw[h0]at hl';exact Cv _ _ (hl'.symm.trans rfl)
 ·rw[ag h0]at e0
  have hne:∀l',s=iU l'→s=ix l'∧l'≠[]:=fun l' hl'=>by
   unfold iU at hl';split at hl'
   ·exact absurd hl' h0
   ·exact⟨hl',by assumption⟩
  simp only[WX,B41,e0];obtain⟨I,hI⟩:∃I:Nat→St→Prop,∀n s',I n s'↔(∃(i c1 b1:Nat) (acc:V) (M1:Mem) (d:List UInt8) (u:List (Option V)),n=s.length-i∧i≤s.length∧i=2*d.length∧s'= .mk ((b19 u (sV s) acc (.i .i64 (i:Int)))) [] M1 c1∧Gr c M c1 M1∧aQ M1 c c1 b1 5 1 acc (d.map fun x=>[bV x])∧ ∀l',s=ix l'→ ∃l2,l'=d++l2∧ix l2=s.drop i):=⟨fun n s'=>_,fun _ _=>Iff.rfl⟩
  refine bG I ?_ s.length _ ((hI _ _).2 ⟨0,c,0,.l0,M,[],(G1 (X2 (X1 (G2 (bO (bE (X8 (X1 [])))))))),rfl,aF _,rfl,rfl,Gr.refl ok,aQ.nil,fun l' hl'=>⟨l',rfl,hl'.symm⟩⟩);intro n s' hIs;obtain⟨i,c1,b1,acc,M1,d,u,rfl,hi,hid,rfl,g1,hA,hL⟩:=(hI _ _).1 hIs;clear hIs;have cD:=g1.ok ok;have g1l:=g1.le;have q8:bD .add (.i .i64 (i:Int)) (.i .i64 1)=some (.i .i64 ((i+1:Nat):Int)):=by rw[aO _ _ (by omega) (by omega)];simp
  have q9:bD .add (.i .i64 (i:Int)) (.i .i64 2)=some (.i .i64 ((i+2:Nat):Int)):=by rw[aO _ _ (by omega) (by omega)];simp
  by_cases hlt:i+1<s.length
  ·have d1:decide (((i+1:Nat):Int)<(s.length:Int))=true:=ae (by omega);have x1:=oC s .i64 i (by omega);have x2:=oC s .i64 (i+1) hlt;have hdr:s.drop i=s[i]::s[i+1]::s.drop (i+2):=by rw[eN (show i<s.length by omega),eN hlt]
   rw[hdr]at hL;generalize s[i]=x at x1 hL;generalize s[i+1]=y at x2 hL;have n1:=Y8 x;have n2:=Y8 y;have k1:=YA x;have k2:=YA y;by_cases hxy:fH x<16∧fH y<16
   ·have e1:decide ((15:Int)<(fH x:Int))=false:=ag (by omega);have e2:decide ((15:Int)<(fH y:Int))=false:=ag (by omega);have m1:bD .mul (.i .u8 (fH x:Int)) (.i .u8 16)=some (.i .u8 ((fH x*16:Nat):Int)):=by rw[rG,bS];congr 2;omega
    have m2:bD .add (.i .u8 ((fH x*16:Nat):Int)) (.i .u8 (fH y:Int))=some (bV (UInt8.ofNat (fH x*16+fH y))):=by rw[gL,bS,C4,show(fH x*16+fH y)%256=fH x*16+fH y by omega];congr 2;omega
    have fb:∀x,flatten (bV x)=[bV x]:=fun _=>rfl;have ob:∀x,cY (bV x)=true:=fun _=>rfl;have hfr:=cD.free;simp only[WX,Nat.reduceAdd,kJ,B41,q8,d1,x1,x2,h89,n1,n2,e1,e2,m1,m2,fb,ob,hfr];generalize hz:fH x*16+fH y=z;have grY:=(g1.up (c2:=c1+12) (by omega)).set (c2:=c1+12) (c1+11) (dx [V.i .u8 0] 5 [bV (UInt8.ofNat z)]) (by omega) (by omega) (ah _);have hy:cj F (M1.set (c1+11) (dx [V.i .u8 0] 5 [bV (UInt8.ofNat z)])) (c1+12) 1 (.l (c1+11) 0 1 1) ([UInt8.ofNat z].map fun x=>[bV x]):=zo (d:=[V.i .u8 0]) (ty:=5) (by rw[au];rfl) (by omega) (fun e he=>by obtain⟨x,_,rfl⟩:=List.mem_map.1 he;rfl) rfl;refine av ((iI (bytes:=1) (hA.up (show c1≤c1+12 by omega) (fun hx=>aK _ _ (by omega))) grY Nat.one_pos hy rfl (eI (by rw[List.length_map,List.length_map];simp only[aX,bU];omega) (by rw[List.length_map,List.length_map];simp only[aX,bU];omega))).mono ?_);rintro v' M2 c2 ⟨b2,hA2,gr2,hle2,_,_⟩;simp only[WX,B41,q9];refine⟨s.length-(i+2),by omega,(hI _ _).2 ⟨i+2,c2,b2,v',M2,d++[UInt8.ofNat z],(G1 (X2 (X1 (G2 (bO (bE (X8 (X1 [])))))))),rfl,by omega,by rw[bw,List.length_singleton];omega,rfl,gr2,?_,fun l' hl'=>?_⟩⟩
    ·rw[List.map_append];exact hA2
    ·obtain⟨l2,h1,h2⟩:=hL l' hl';obtain⟨b,l1003,r1,r2,r1003,r8,r32⟩:=vK h2;exact⟨l1003,by rw[h1,r1,r32,hz,gf];rfl,r2⟩
   ·have bad:∀l',s=iU l'→(false=true∧l'=[]):=fun l' hl'=>by
     obtain⟨h1,_⟩:=hne l' hl';obtain⟨l2,_,h2⟩:=hL l' h1;obtain⟨b,l1003,r1,r2,r1003,r8,r32⟩:=vK h2;exact absurd ⟨r1003,r8⟩ hxy
    have hfr:=cD.free;by_cases hx:fH x<16
    ·have e1:decide ((15:Int)<(fH x:Int))=false:=ag (by omega);have e2:decide ((15:Int)<(fH y:Int))=true:=ae (by omega);simp only[WX,kJ,B41,q8,d1,x1,x2,h89,n1,n2,e1,e2,hfr];exact⟨g1.up (by omega),_,_,[],rfl,⟨0,aQ.nil⟩,aF _,bad⟩
    ·have e1:decide ((15:Int)<(fH x:Int))=true:=ae (by omega);simp only[WX,kJ,B41,q8,d1,x1,x2,h89,n1,n2,e1,hfr];exact⟨g1.up (by omega),_,_,[],rfl,⟨0,aQ.nil⟩,aF _,bad⟩
  ·have d1:decide (((i+1:Nat):Int)<(s.length:Int))=false:=ag (by omega)
   have fin:∀b:Bool,((0<s.length∧s.length%2=0)→b=true)→ ∃v0 b0 l,V.t [acc,.b b]= .t [v0,.b b0]∧(∃bb,aQ M1 c c1 bb 5 1 v0 (l.map fun x=>[bV x]))∧2*l.length≤s.length∧ ∀l',s=iU l'→b0=true∧l'=l:=fun b hb=>by
    refine⟨acc,b,d,rfl,⟨b1,hA⟩,by omega,fun l' hl'=>?_⟩;obtain⟨h1,hn⟩:=hne l' hl';obtain⟨l2,h1003,h2⟩:=hL l' h1;have hh:=congrArg List.length h1;rw[jO]at hh;have hp:0<l'.length:=List.length_pos_iff.2 hn;have hh2:=congrArg List.length h2;rw[jO,bP]at hh2;have:l2=[]:=List.length_eq_zero_iff.1 (by omega);rw[this,cL]at h1003;exact⟨hb ⟨by omega,by omega⟩,h1003⟩
   have q2:bD .rem (.i .i64 (s.length:Int)) (.i .i64 2)=some (.i .i64 ((s.length%2:Nat):Int)):=by
    exact Yb _ 2 (by decide) (by omega)
   by_cases hp:0<s.length
   ·have e1:decide ((0:Int)<(s.length:Int))=true:=ae (by omega);simp only[WX,B41,q8,d1,e1,q2];exact⟨g1,fin _ fun h=>ae (by omega)⟩
   ·have e1:decide ((0:Int)<(s.length:Int))=false:=ag (by omega);simp only[WX,B41,q8,d1,e1];exact⟨g1,fin _ fun h=>absurd h.1 hp⟩
def aG7:CC:=(.reg [(qq a2 (.mv (.c .l0))),(qq a3 (.mv xF))])
def aG8:CC:=(.reg [(qq a5 (.mv (x6 0)))])
def aG9:CC:=(.reg [(qq a8 (.mv z5)),(qq a9 (.mv z0)),(qq cg (.ln .str z9)),(qq cF (.bi .lss z8 cm))])
def aH0:CC:=(.reg [(qq dm (.mv z0)),(qq dC (.mv z5)),(qq dJ (.ixS dB dy)),(qq dX (.bi .neq ec (.c (.i .u8 37))))])
def aH1:CC:=(.reg [(qq dS (.mv z4)),(qq dN (.mv z0)),(qq fi (.mv z5)),(qq eL (.ixS fk fl)),(aa eM (.bsl 5 1 1 [(.i .u8 0)] [(0,fT)])),(ee ew (.app 5 1 1 eA fm)),(qq a4 (.mv fW))])
def aH2:CC:=(.cond dL (.seq aH1 (.exit 1)) .skip)
def aH3:CC:=(.reg [(qq eE (.mv z0)),(qq eU (.mv z5)),(qq fC (.bi .add ib (x6 1))),(qq fU (.mv z5)),(qq fp (.bi .add ic (x6 3))),(qq fD (.mv z0)),(qq iF (.ln .str il)),(qq gu (.mn false ij [iE])),(qq gH (.slS fY (some gi) (some jh))),(ee ga (.call 86 [ji])),(ee iG (.call 37 [jz])),(qq dG (.mv jj)),(qq jb (.ex 0 fX)),(qq iP (.ex 1 fX)),(qq a6 (.mv k5)),(qq a7 (.mv jk))])
def aH4:CC:=(.reg [(qq ia (.mv z4)),(qq j0 (.mv z6)),(ee ie (.app 5 1 1 j1 k8)),(qq a4 (.mv kg))])
def aH5:CC:=(.reg [(qq jB (.mv z5)),(qq jc (.bi .add kh (x6 2))),(qq a5 (.mv kK))])
def Vh:CC:=(.block 1 (.seq (.seq aH0 aH2) (.seq aH3 (.seq aH4 aH5))))
def Vi:CC:=(.reg [(qq de (.mv z5)),(qq cO (.bi .add cT (x6 1))),(qq a5 (.mv cK))])
def Vj:CC:=(.seq (.seq aG9 (.cond cI .skip (.exit 0))) (.seq Vh Vi))
def Vk:CC:=(.reg [(qq jd (.mv z4)),(qq jm (.mv z4)),(ee k6 (.call 80 [lm])),(qq kS (.mv z0)),(qq kT (.bi .eql lr mJ)),(qq a2 (.mv ll)),(qq a3 (.mv lq))])
def Vl:CC:=(.seq (.seq aG8 (.block 0 (.loop Vj))) (.seq Vk .ret))
def Vm:CC:=(.seq (.reg [(qq a4 (.mv (.c .l0)))]) Vl)
def c38:CF:= .mk 6 [.t a2,.t a3] (.seq aG7 Vm)
theorem e38(v0:V):bh 6 [v0]=(.n zn (some v0) zn):=rfl
def B38:=ai @e38 (ai (wu aG7.eq_1) (ai (wu aG8.eq_1) (ai (wu aG9.eq_1) (ai (wu aH0.eq_1) (ai (wu aH1.eq_1) (ai (wu aH2.eq_1) (ai (wu aH3.eq_1) (ai (wu aH4.eq_1) (ai (wu aH5.eq_1) (ai (wu Vh.eq_1) (ai (wu Vi.eq_1) (ai (wu Vj.eq_1) (ai (wu Vk.eq_1) (ai (wu Vl.eq_1) (wu Vm.eq_1)))))))))))))))
def Al(l:List UInt8):List UInt8:=Go.Lib.toLowerD l
theorem ai4(r:Int):(Go.Lib.encodeRune r).length≤4:=by
 unfold Go.Lib.encodeRune Go.Lib.encodeRuneZ
 rw[List.length_map]
 repeat' split
 all_goals simp
theorem yV(f:Int→Int):∀(n:Nat) (l:List UInt8),(Go.Lib.mapGoD f n l).length≤4*n
 |0,_=>ah _
 |n+1,l=>by
  unfold Go.Lib.mapGoD;split
  ·simp
  ·rw[bw];have h1:=yV f n (l.drop (Go.Lib.decodeL l).2);split
   ·have h2:=ai4 (f ((Go.Lib.decodeL l).1:Int));omega
   ·rw[bU];omega
theorem LH(l:List UInt8):(Al l).length≤4*l.length:=yV _ _ _
theorem al4(a b:Nat)(ha:a<16)(hb:b<16):Al [eO a,eO b]=[dA a,dA b]:=by
 have hlt:∀n,n<16→(eO n).toNat<128:=by decide
 have hlo:∀n,n<16→Go.Lib.lowerB (eO n)=dA n:=by decide
 unfold Al
 rw[Go.Lib.toLowerD_ascii _ (fun x hx=>by
  simp only[bj,List.mem_nil_iff,or_false]at hx;rcases hx with rfl|rfl
  ·exact hlt a ha
  ·exact hlt b hb)]
 unfold Go.Lib.toLowerA
 rw[List.map_cons,List.map_cons,List.map_nil,hlo a ha,hlo b hb]
def AN:Nat→List UInt8→List UInt8
 |0,_=>[]
 |_+1,[]=>[]
 |n+1,b::r=>if b.toNat≠37 then b::AN n r else ke (Al (r.take 2))++AN n (r.drop 2)
def su(s:List UInt8):List UInt8:=AN s.length s
theorem Dg(n:Nat):AN n []=[]:=by cases n<;>rfl
theorem AP:∀(n m:Nat) (s:List UInt8),s.length≤n→s.length≤m→AN n s=AN m s
 |n,m,[],_,_=>by rw[Dg,Dg]
 |0,_,_::_,h,_=>by simp at h
 |_,0,_::_,_,h=>by simp at h
 |n+1,m+1,b::r,h1,h2=>by
  rw[aX]at h1 h2;rw[AN,AN,AP n m r (by omega) (by omega),AP n m (r.drop 2) (by rw[bP];omega) (by rw[bP];omega)]
theorem lj(b:UInt8)(r:List UInt8):su (b::r)=if b.toNat≠37 then b::su r else ke (Al (r.take 2))++su (r.drop 2):=by
 unfold su
 rw[aX,AN,AP r.length (r.drop 2).length (r.drop 2) (by rw[bP];omega) (ah _)]
theorem ri:∀(n:Nat) (s:List UInt8),s.length≤n→(su s).length≤4*s.length
 |_,[],_=>ah _
 |0,_::_,h=>by simp at h
 |n+1,b::r,h=>by
  rw[aX]at h;rw[lj,aX];split
  ·have:=ri n r (by omega);rw[aX];omega
  ·have h1:=ri n (r.drop 2) (by rw[bP];omega);have h2:=rg _ (Al (r.take 2)) (ah _);have h3:=LH (r.take 2);rw[bw];rw[List.length_take]at h3;rw[bP]at h1;omega
theorem rj(l:List UInt8):su (dK l)=l:=by
 unfold dK
 split
 ·rename_i h;rw[h];rw[lj];rfl
 ·rename_i h;clear h
  induction l with
  |nil=>rfl
  |cons b l ih=>
   rw[List.flatMap_cons];by_cases hp:33≤b.toNat∧b.toNat≤126∧b.toNat≠37
   ·rw[show fu b=[b]from ac hp,List.singleton_append,lj,ac hp.2.2,ih]
   ·have hb:=UInt8.toNat_lt b;rw[show fu b=[37,eO (b.toNat/16),eO (b.toNat%16)]from ab hp];show su (37::eO (b.toNat/16)::eO (b.toNat%16)::l.flatMap fu)=_;rw[lj,ab (by decide)];show ke (Al [eO (b.toNat/16),eO (b.toNat%16)])++su (l.flatMap fu)=_;rw[ih,al4 _ _ (by omega) (by omega)];have:=wP [b];rw[show ix [b]=[dA (b.toNat/16),dA (b.toNat%16)]from rfl]at this;rw[this];rfl
theorem wZ(l:List UInt8):(dK l).length≤3*l.length+1:=by
 unfold dK
 split
 ·simp
 ·have:=qx l;omega
structure DP(Φ:Nat→Option CF):Prop where
 h37:Φ 37=some c37
 h85:Φ 85=some c85
 h120:Φ 120=some xR
 h88:Φ 88=some c88
 h124:Φ 124=some C7
 h125:Φ 125=some C8
 h156:Φ 156=some (.orc (bg h156))
 h149:Φ 149=some (.orc (bg h149))
 h51:Φ 51=some c51
 h48:Φ 48=some c48
 h53:Φ 53=some c53
 h91:Φ 91=some PD
structure WoP(Φ:Nat→Option CF):Prop extends DP Φ where
 h80:Φ 80=some c80
 h118:Φ 118=some Xs
 h115:Φ 115=some Ew
 h49:Φ 49=some c49
 h145:Φ 145=some C9
theorem cd8{Φ:Nat→Option CF}(p:WoP Φ){F:RO}{M:Mem}{c:Nat}{v:V}{l:List UInt8}(ok:d9 F M c)(hs:ov F M c v l)(hl:l.length≤400000):
 Calls Φ F 80 [v] M c fun r M' c'=>r=sV (dK l)∧Gr c M c' M':=r80 Φ p.h80 p.h118 p.h115 p.h91 p.h48 p.h49 p.h53 p.h145 p.h51 ok hs hl
theorem cd7{Φ:Nat→Option CF}(p:DP Φ){F:RO}{M:Mem}{c:Nat}(ok:d9 F M c)(hE1:cW F 0)(hE2:cW F 1)(hlow:∀g,g<1000→M.get g=none)(s:List UInt8)(hs:s.length≤400000):
 Calls Φ F 37 [sV s] M c fun r M' c'=>∃v b,r= .t [v,.b b]∧(∃bb,aQ M' c c' bb 5 1 v ((ke s).map fun x=>[bV x]))∧Gr c M c' M':=cI8 Φ p.h37 p.h85 p.h120 p.h88 p.h124 p.h125 p.h156 p.h149 p.h51 p.h48 p.h53 p.h91 ok hE1 hE2 hlow s hs
def al5(mx:Bool)(v w:V):Option V:=match Fk mx v w with|some v=>some v|none=>none
theorem b28{F:RO}(mx:Bool)(x y:X)(M:Mem)(t:T):(cS (.mn mx x [y]) F M t).val=al5 mx (x.ev t) (y.ev t):=by
 show(qr (minAll mx t (x.ev t) [y])).val=_
 show(qr (match Fk mx (x.ev t) (y.ev t)with|some v=>some v|none=>none)).val=_
 unfold al5
 cases Fk mx (x.ev t) (y.ev t)<;>rfl
theorem um(a b:Nat):al5 false (.i .i64 (a:Int)) (.i .i64 (b:Int))=some (.i .i64 ((min a b:Nat):Int)):=by
 unfold al5
 have:Fk false (.i .i64 (a:Int)) (.i .i64 (b:Int))=some (.i .i64 ((min a b:Nat):Int)):=by
  show(fI (bif OH (b:Int) (a:Int)then(b:Int)else(a:Int)) fun n=>some (V.i .i64 n))=_;rw[show OH (b:Int) (a:Int)=decide (b<a) by show Nat.blt b a=_;rw[dY]];by_cases h:b<a
  ·rw[ae h,cond_true,Le,Nat.min_eq_right (by omega)]
  ·rw[ag h,cond_false,Le,Nat.min_eq_left (by omega)]
 rw[this]
theorem r38{Φ:Nat→Option CF}(h:Φ 38=some c38)(p:WoP Φ){P:Program}{g13 g3 g4:Nat}(h86:Φ 86=some (.orc (Fj P g13 g3 g4))){F:RO}(hL:BJ P g13 g3 g4 F){M:Mem}{c:Nat}(ok:d9 F M c)(hE1:cW F 0)(hE2:cW F 1)(hlow:∀g,g<1000→M.get g=none)(s:List UInt8)(hs:s.length≤60000):
 Calls Φ F 38 [sV s] M c fun r M' c'=>∃v b,r= .t [v,.b b]∧(∃bb,aQ M' c c' bb 5 1 v ((su s).map fun x=>[bV x]))∧Gr c M c' M':=by
 refine az h ?_
 have hge:=ok.ge
 have hwl:=ri s.length s (ah _)
 simp only[WX,B38]
 obtain⟨I,hI⟩:∃I:Nat→St→Prop,∀n s',I n s'↔(∃(i c1 b1:Nat) (v:V) (M1:Mem) (done:List UInt8) (u:List (Option V)),n=s.length-i∧i≤s.length+2∧s'= .mk ((b19 u (sV s) v (.i .i64 (i:Int)))) [] M1 c1∧su s=done++su (s.drop i)∧d9 F M1 c1∧c≤c1∧(∀x,x<c→M1.get x=M.get x)∧aQ M1 c c1 b1 5 1 v (done.map fun x=>[bV x])):=⟨fun n s'=>_,fun _ _=>Iff.rfl⟩
 refine bG I ?_ s.length _ ((hI _ _).2 ⟨0,c,0,.l0,M,[],(G1 (X2 (X1 (G2 (bO (bE (X8 (X1 [])))))))),rfl,aF _,rfl,rfl,ok,ah _,fun _ _=>rfl,aQ.nil⟩)
 intro n s' hIs
 obtain⟨i,c1,b1,v,M1,done,u,rfl,hi,rfl,hu,cD,hle,hold,hA⟩:=(hI _ _).1 hIs
 clear hIs
 have hdl:done.length≤4*s.length:=by
  have:=congrArg List.length hu;rw[bw]at this;omega
 have hdm:(done.map fun x=>[bV x]).length=done.length:=List.length_map _
 by_cases hlt:i<s.length
 ·have d1:decide ((i:Int)<(s.length:Int))=true:=ae (by omega);have x1:=oC s .i64 i hlt;rw[bV]at x1;rw[eN hlt,lj]at hu;by_cases h37:s[i].toNat≠37
  ·have d2:decide ((s[i].toNat:Int)≠37)=true:=ae (by omega);have q8:bD .add (.i .i64 (i:Int)) (.i .i64 1)=some (.i .i64 ((i+1:Nat):Int)):=by rw[aO _ _ (by omega) (by omega)];simp
   rw[ac h37]at hu;have fb:∀z,flatten (V.i .u8 z)=[V.i .u8 z]:=fun _=>rfl;have ob:∀z,cY (V.i .u8 z)=true:=fun _=>rfl;generalize s[i]=x at x1 hu d2;simp only[WX,B38,d1,x1,d2,fb,ob];have g3:=(Gr.refl cD).set c1 (dx [.i .u8 0] 5 [.i .u8 (x.toNat:Int)]) (ah _) (aL _) (aP _);have hy:cj F (M1.set c1 (dx [.i .u8 0] 5 [.i .u8 (x.toNat:Int)])) (c1+1) 1 (.l c1 0 1 1) ([x].map fun x=>[bV x]):=zo (d:=[.i .u8 0]) (ty:=5) (au _ _ _) (by omega) (fun e he=>by obtain⟨x,_,rfl⟩:=List.mem_map.1 he;rfl) rfl;have hA3:=hA.keep (M':=M1.set c1 (dx [.i .u8 0] 5 [.i .u8 (x.toNat:Int)])) (c':=c1+1) (by omega) fun x x1 x2=>g3.old x x2;refine av ((zR (c0:=c) (bytes:=1) hA3 (g3.ok cD) (by omega) (by decide) hy rfl (eI (by rw[hdm,List.length_map,List.length_singleton];omega) (by rw[hdm,List.length_map,List.length_singleton];omega))).mono ?_);rintro v' M4 c8 ⟨b8,hA4,ok4,hle4,hold4⟩;simp only[WX,reduceCtorEq,B38,q8];exact⟨s.length-(i+1),by omega,(hI _ _).2 ⟨i+1,c8,b8,v',M4,done++[x],(G1 (X2 (X1 (G2 (bO (bE (X8 (X1 [])))))))),rfl,by omega,rfl,by rw[hu];simp,ok4,by omega,fun x hx=>by rw[hold4 x hx,g3.old x (by omega),hold x hx],by rw[Ei];exact hA4⟩⟩
  ·have d2:decide ((s[i].toNat:Int)≠37)=false:=ag (by omega);rw[ab h37]at hu;have q1:bD .add (.i .i64 (i:Int)) (.i .i64 1)=some (.i .i64 ((i+1:Nat):Int)):=by rw[aO _ _ (by omega) (by omega)];simp
   have q2:bD .add (.i .i64 (i:Int)) (.i .i64 2)=some (.i .i64 ((i+2:Nat):Int)):=by rw[aO _ _ (by omega) (by omega)];simp
   have q3:bD .add (.i .i64 (i:Int)) (.i .i64 3)=some (.i .i64 ((i+3:Nat):Int)):=by rw[aO _ _ (by omega) (by omega)];simp
   have q4:bD .add (.i .i64 ((i+2:Nat):Int)) (.i .i64 1)=some (.i .i64 ((i+3:Nat):Int)):=by rw[aO _ _ (by omega) (by omega)];simp;omega
   have hmn:=um (i+3) s.length;have sl:=b15 s .i64 .i64 (i+1) (min (i+3) s.length) (by omega) (by omega);have ht:(s.take (min (i+3) s.length)).drop (i+1)=(s.drop (i+1)).take 2:=by
    rw[List.drop_take];by_cases hc:i+3≤s.length
    ·rw[Nat.min_eq_left hc];congr 1;omega
    ·rw[Nat.min_eq_right (by omega),List.take_of_length_le (by rw[bP];omega),List.take_of_length_le (by rw[bP];omega)]
   rw[ht]at sl;have hll:=LH ((s.drop (i+1)).take 2);rw[List.length_take]at hll;rw[List.drop_drop]at hu;have ho:=al3 (M:=M1) (ct:=c1) (s:=(s.drop (i+1)).take 2) (by rw[List.length_take];omega) hL;rw[show Go.Lib.toLowerD ((s.drop (i+1)).take 2)=Al ((s.drop (i+1)).take 2)from rfl]at ho;generalize Al ((s.drop (i+1)).take 2)=z at ho hll hu;simp only[WX,B38,d1,x1,d2,q1,q3,b28,hmn,sl,h86,ho];refine av ((cd7 p.toDP cD hE1 hE2 (fun g hg=>(hold g (by omega)).trans (hlow g hg)) z (by omega)).mono ?_);rintro q M2 c2 ⟨y,b,rfl,⟨bb,hy⟩,g2⟩;have ok2:=g2.ok cD;have hz:=rg _ z (ah _);have hzm:((ke z).map fun x=>[bV x]).length=(ke z).length:=List.length_map _;have hA3:=hA.keep (M':=M2) (c':=c2) g2.le fun x x1 x2=>g2.old x x2;simp only[WX,B38];refine av ((zR (c0:=c) (bytes:=1) hA3 ok2 (by have:=g2.le;omega) (by decide) (hy.sl (F:=F)) (NQ _) (eI (by rw[hdm,hzm];omega) (by rw[hdm,hzm];omega))).mono ?_);rintro v' M4 c8 ⟨b8,hA4,ok4,hle4,hold4⟩;simp only[WX,B38,q2,q4];exact⟨s.length-(i+3),by omega,(hI _ _).2 ⟨i+3,c8,b8,v',M4,done++ke z,(G1 (X2 (X1 (G2 (bO (bE (X8 (X1 [])))))))),rfl,by omega,rfl,by rw[hu,gf,show i+1+2=i+3 from rfl],ok4,by have:=g2.le;omega,fun x hx=>by rw[hold4 x hx,g2.old x (by omega),hold x hx],by rw[Ei];exact hA4⟩⟩
 ·have d1:decide ((i:Int)<(s.length:Int))=false:=ag (by omega);rw[List.drop_eq_nil_of_le (by omega)]at hu;have hu:su s=done:=by rw[hu];exact cL _
  simp only[WX,B38,d1];refine av ((cd8 p cD (hA.sl (F:=F)) (by omega)).mono ?_);rintro q M2 c2 ⟨rfl,g2⟩;simp only[WX];exact⟨_,_,rfl,⟨b1,by rw[hu];exact hA.gr g2⟩,⟨by have:=g2.le;omega,fun x hx=>(g2.old x (by omega)).trans (hold x hx),g2.new⟩⟩
end
end Go.Proofs.YtdnddpmjnlagfaaGreatDoor.Ev
