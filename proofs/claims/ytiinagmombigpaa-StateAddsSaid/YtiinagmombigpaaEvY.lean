/- What is asked of this seat's types and policy. (Printed by a program.) -/
import Derived.Test.YtiinagmombigpaaEvS
import Derived.Test.YtiinagmombigpaaEvO
set_option linter.unnecessarySimpa false
set_option linter.unusedSimpArgs false
set_option linter.unusedVariables false
namespace Go.Abs.Tab
@[go_sem] theorem ld1:ldT cx.T 1=some (false,1):=nk
@[go_sem] theorem ld2:ldT cx.T 2=some (false,1):=nk
@[go_sem] theorem ze2:zeroT cx.T 2=some (1,.lit (.int .i64 0)):=nk
@[go_sem] theorem cv2:cvT cx.T 2=some .i64:=nk
@[go_sem] theorem ld3:ldT cx.T 3=some (false,1):=nk
@[go_sem] theorem ze3:zeroT cx.T 3=some (1,.lit (.int .i64 0)):=nk
@[go_sem] theorem cv3:cvT cx.T 3=some .i64:=nk
@[go_sem] theorem ld4:ldT cx.T 4=some (false,1):=nk
@[go_sem] theorem ze4:zeroT cx.T 4=some (1,.lit (.bool false)):=nk
@[go_sem] theorem bo4:isBoolTy (cx.T 4)=true:=nk
@[go_sem] theorem ld8:ldT cx.T 8=some (true,4):=nk
@[go_sem] theorem ze8:zeroT cx.T 8=some (4,.agg ([.lit (.int .i64 0),.lit (.int .i64 0),.lit (.bool false),.lit (.int .u8 0)])):=nk
@[go_sem] theorem fo8_0:foT cx.T 8 0=some 0:=nk
@[go_sem] theorem fo8_1:foT cx.T 8 1=some 1:=nk
@[go_sem] theorem fo8_2:foT cx.T 8 2=some 2:=nk
@[go_sem] theorem fo8_3:foT cx.T 8 3=some 3:=nk
@[go_sem] theorem eq8:eqT cx.T 8=(some [false,false,true,false]):=nk
@[go_sem] theorem ld26:ldT cx.T 26=some (false,1):=nk
@[go_sem] theorem ze26:zeroT cx.T 26=some (1,.lit (.slice none 0 0)):=nk
@[go_sem] theorem sl26:slT cx.T 26=some (1,4,T4):=nk
@[go_sem] theorem mk26:mkT cx.T 26=some (1,4,1,.lit (.bool false)):=nk
@[go_sem] theorem ld27:ldT cx.T 27=some (false,1):=nk
@[go_sem] theorem ze27:zeroT cx.T 27=some (1,.lit (.int .i64 0)):=nk
@[go_sem] theorem cv27:cvT cx.T 27=some .i64:=nk
@[go_sem] theorem ld31:ldT cx.T 31=some (false,1):=nk
@[go_sem] theorem ze31:zeroT cx.T 31=some (1,.lit (.slice none 0 0)):=nk
@[go_sem] theorem sl31:slT cx.T 31=some (1,3,T3):=nk
@[go_sem] theorem mk31:mkT cx.T 31=some (1,3,8,.lit (.int .i64 0)):=nk
@[go_sem] theorem ld56:ldT cx.T 56=some (false,1):=nk
@[go_sem] theorem ze56:zeroT cx.T 56=some (1,.lit (.slice none 0 0)):=nk
@[go_sem] theorem sl56:slT cx.T 56=some (6,66,T66):=nk
@[go_sem] theorem mk56:mkT cx.T 56=some (6,66,64,.agg ([.lit (.int .i64 0),.lit (.int .i64 0),.lit (.bool false),.lit (.int .i64 0),.lit (.int .i64 0),.lit (.slice none 0 0)])):=nk
@[go_sem] theorem ld61:ldT cx.T 61=some (true,2):=nk
@[go_sem] theorem ze61:zeroT cx.T 61=some (2,.agg ([.lit (.int .i64 0),.lit (.int .i64 0)])):=nk
@[go_sem] theorem fo61_0:foT cx.T 61 0=some 0:=nk
@[go_sem] theorem fo61_1:foT cx.T 61 1=some 1:=nk
@[go_sem] theorem eq61:eqT cx.T 61=(some [false,false]):=nk
@[go_sem] theorem ld63:ldT cx.T 63=some (true,2):=nk
@[go_sem] theorem ze63:zeroT cx.T 63=some (2,.agg ([.lit (.int .i64 0),.lit (.int .i64 0)])):=nk
@[go_sem] theorem fo63_0:foT cx.T 63 0=some 0:=nk
@[go_sem] theorem fo63_1:foT cx.T 63 1=some 1:=nk
@[go_sem] theorem eq63:eqT cx.T 63=(some [false,false]):=nk
@[go_sem] theorem ld64:ldT cx.T 64=some (false,1):=nk
@[go_sem] theorem ze64:zeroT cx.T 64=some (1,.lit (.slice none 0 0)):=nk
@[go_sem] theorem sl64:slT cx.T 64=some (2,63,T63):=nk
@[go_sem] theorem mk64:mkT cx.T 64=some (2,63,16,.agg ([.lit (.int .i64 0),.lit (.int .i64 0)])):=nk
@[go_sem] theorem ld66:ldT cx.T 66=some (true,6):=nk
@[go_sem] theorem ze66:zeroT cx.T 66=some (6,.agg ([.lit (.int .i64 0),.lit (.int .i64 0),.lit (.bool false),.lit (.int .i64 0),.lit (.int .i64 0),.lit (.slice none 0 0)])):=nk
@[go_sem] theorem fo66_0:foT cx.T 66 0=some 0:=nk
@[go_sem] theorem fo66_1:foT cx.T 66 1=some 1:=nk
@[go_sem] theorem fo66_2:foT cx.T 66 2=some 2:=nk
@[go_sem] theorem fo66_3:foT cx.T 66 3=some 3:=nk
@[go_sem] theorem fo66_4:foT cx.T 66 4=some 5:=nk
@[go_sem] theorem ld84:ldT cx.T 84=some (false,1):=nk
@[go_sem] theorem ld93:ldT cx.T 93=some (false,1):=nk
@[go_sem] theorem ze93:zeroT cx.T 93=some (1,.lit (.slice none 0 0)):=nk
@[go_sem] theorem sl93:slT cx.T 93=some (6,111,T111):=nk
@[go_sem] theorem mk93:mkT cx.T 93=some (6,111,64,.agg ([.lit (.int .i64 0),.lit (.int .i64 0),.lit (.bool false),.lit (.int .i64 0),.lit (.int .i64 0),.lit (.slice none 0 0)])):=nk
@[go_sem] theorem ld95:ldT cx.T 95=some (true,3):=nk
@[go_sem] theorem ze95:zeroT cx.T 95=some (3,.agg ([.lit (.slice none 0 0),.lit (.slice none 0 0),.lit (.slice none 0 0)])):=nk
@[go_sem] theorem fo95_0:foT cx.T 95 0=some 0:=nk
@[go_sem] theorem fo95_1:foT cx.T 95 1=some 1:=nk
@[go_sem] theorem fo95_2:foT cx.T 95 2=some 2:=nk
@[go_sem] theorem ld108:ldT cx.T 108=some (true,2):=nk
@[go_sem] theorem ze108:zeroT cx.T 108=some (2,.agg ([.lit (.int .i64 0),.lit (.int .i64 0)])):=nk
@[go_sem] theorem fo108_0:foT cx.T 108 0=some 0:=nk
@[go_sem] theorem fo108_1:foT cx.T 108 1=some 1:=nk
@[go_sem] theorem eq108:eqT cx.T 108=(some [false,false]):=nk
@[go_sem] theorem ld109:ldT cx.T 109=some (false,1):=nk
@[go_sem] theorem ze109:zeroT cx.T 109=some (1,.lit (.slice none 0 0)):=nk
@[go_sem] theorem sl109:slT cx.T 109=some (2,108,T108):=nk
@[go_sem] theorem mk109:mkT cx.T 109=some (2,108,16,.agg ([.lit (.int .i64 0),.lit (.int .i64 0)])):=nk
@[go_sem] theorem ld111:ldT cx.T 111=some (true,6):=nk
@[go_sem] theorem ze111:zeroT cx.T 111=some (6,.agg ([.lit (.int .i64 0),.lit (.int .i64 0),.lit (.bool false),.lit (.int .i64 0),.lit (.int .i64 0),.lit (.slice none 0 0)])):=nk
@[go_sem] theorem fo111_0:foT cx.T 111 0=some 0:=nk
@[go_sem] theorem fo111_1:foT cx.T 111 1=some 1:=nk
@[go_sem] theorem fo111_2:foT cx.T 111 2=some 2:=nk
@[go_sem] theorem fo111_3:foT cx.T 111 3=some 3:=nk
@[go_sem] theorem fo111_4:foT cx.T 111 4=some 5:=nk
@[go_sem] theorem ld113:ldT cx.T 113=some (false,1):=nk
@[go_sem] theorem ze113:zeroT cx.T 113=some (1,.lit (.slice none 0 0)):=nk
@[go_sem] theorem sl113:slT cx.T 113=some (3,143,T143):=nk
@[go_sem] theorem mk113:mkT cx.T 113=some (3,143,72,.agg ([.lit (.slice none 0 0),.lit (.slice none 0 0),.lit (.slice none 0 0)])):=nk
@[go_sem] theorem ld114:ldT cx.T 114=some (false,1):=nk
@[go_sem] theorem ze114:zeroT cx.T 114=some (1,.lit (.slice none 0 0)):=nk
@[go_sem] theorem sl114:slT cx.T 114=some (2,61,T61):=nk
@[go_sem] theorem mk114:mkT cx.T 114=some (2,61,16,.agg ([.lit (.int .i64 0),.lit (.int .i64 0)])):=nk
@[go_sem] theorem ld117:ldT cx.T 117=some (true,8):=nk
@[go_sem] theorem ze117:zeroT cx.T 117=some (8,.agg ([.lit (.slice none 0 0),.lit (.slice none 0 0),.lit (.slice none 0 0),.lit (.slice none 0 0),.lit (.slice none 0 0),.lit (.slice none 0 0),.lit (.slice none 0 0),.lit (.slice none 0 0)])):=nk
@[go_sem] theorem fo117_0:foT cx.T 117 0=some 0:=nk
@[go_sem] theorem fo117_1:foT cx.T 117 1=some 1:=nk
@[go_sem] theorem fo117_2:foT cx.T 117 2=some 2:=nk
@[go_sem] theorem fo117_3:foT cx.T 117 3=some 3:=nk
@[go_sem] theorem fo117_4:foT cx.T 117 4=some 4:=nk
@[go_sem] theorem fo117_5:foT cx.T 117 5=some 5:=nk
@[go_sem] theorem fo117_6:foT cx.T 117 6=some 6:=nk
@[go_sem] theorem fo117_7:foT cx.T 117 7=some 7:=nk
@[go_sem] theorem ld119:ldT cx.T 119=some (true,3):=nk
@[go_sem] theorem ze119:zeroT cx.T 119=some (3,.agg ([.lit (.int .i64 0),.lit (.int .i64 0),.lit (.int .i64 0)])):=nk
@[go_sem] theorem fo119_0:foT cx.T 119 0=some 0:=nk
@[go_sem] theorem fo119_1:foT cx.T 119 1=some 1:=nk
@[go_sem] theorem fo119_2:foT cx.T 119 2=some 2:=nk
@[go_sem] theorem eq119:eqT cx.T 119=(some [false,false,false]):=nk
@[go_sem] theorem ld120:ldT cx.T 120=some (true,48):=nk
@[go_sem] theorem ar120:arT cx.T 120=some (16,3):=nk
@[go_sem] theorem ld122:ldT cx.T 122=some (true,50):=nk
@[go_sem] theorem fo122_0:foT cx.T 122 0=some 0:=nk
@[go_sem] theorem fo122_1:foT cx.T 122 1=some 1:=nk
@[go_sem] theorem fo122_2:foT cx.T 122 2=some 2:=nk
@[go_sem] theorem ld123:ldT cx.T 123=some (true,2):=nk
@[go_sem] theorem ze123:zeroT cx.T 123=some (2,.agg ([.lit (.int .i64 0),.lit (.int .i64 0)])):=nk
@[go_sem] theorem ar123:arT cx.T 123=some (2,1):=nk
@[go_sem] theorem eq123:eqT cx.T 123=(some [false,false]):=nk
@[go_sem] theorem ld124:ldT cx.T 124=some (false,1):=nk
@[go_sem] theorem ze124:zeroT cx.T 124=some (1,.lit (.slice none 0 0)):=nk
@[go_sem] theorem sl124:slT cx.T 124=some (1,167,T167):=nk
@[go_sem] theorem mk124:mkT cx.T 124=some (1,167,24,.lit (.slice none 0 0)):=nk
@[go_sem] theorem ld126:ldT cx.T 126=some (true,4):=nk
@[go_sem] theorem ze126:zeroT cx.T 126=some (4,.agg ([.lit (.slice none 0 0),.lit (.slice none 0 0),.lit (.slice none 0 0),.lit (.slice none 0 0)])):=nk
@[go_sem] theorem fo126_0:foT cx.T 126 0=some 0:=nk
@[go_sem] theorem fo126_1:foT cx.T 126 1=some 3:=nk
@[go_sem] theorem ld139:ldT cx.T 139=some (true,3):=nk
@[go_sem] theorem ze139:zeroT cx.T 139=some (3,.agg ([.lit (.bool false),.lit (.int .i64 0),.lit (.int .i64 0)])):=nk
@[go_sem] theorem fo139_0:foT cx.T 139 0=some 0:=nk
@[go_sem] theorem fo139_1:foT cx.T 139 1=some 1:=nk
@[go_sem] theorem eq139:eqT cx.T 139=(some [true,false,false]):=nk
@[go_sem] theorem ld140:ldT cx.T 140=some (false,1):=nk
@[go_sem] theorem ze140:zeroT cx.T 140=some (1,.lit (.slice none 0 0)):=nk
@[go_sem] theorem sl140:slT cx.T 140=some (3,139,T139):=nk
@[go_sem] theorem mk140:mkT cx.T 140=some (3,139,24,.agg ([.lit (.bool false),.lit (.int .i64 0),.lit (.int .i64 0)])):=nk
@[go_sem] theorem ld143:ldT cx.T 143=some (true,3):=nk
@[go_sem] theorem ze143:zeroT cx.T 143=some (3,.agg ([.lit (.slice none 0 0),.lit (.slice none 0 0),.lit (.slice none 0 0)])):=nk
@[go_sem] theorem fo143_0:foT cx.T 143 0=some 0:=nk
@[go_sem] theorem fo143_1:foT cx.T 143 1=some 1:=nk
@[go_sem] theorem fo143_2:foT cx.T 143 2=some 2:=nk
@[go_sem] theorem ld167:ldT cx.T 167=some (false,1):=nk
@[go_sem] theorem ze167:zeroT cx.T 167=some (1,.lit (.slice none 0 0)):=nk
@[go_sem] theorem sl167:slT cx.T 167=some (3,119,T119):=nk
@[go_sem] theorem mk167:mkT cx.T 167=some (3,119,24,.agg ([.lit (.int .i64 0),.lit (.int .i64 0),.lit (.int .i64 0)])):=nk
@[go_sem] theorem ld182:ldT cx.T 182=some (false,1):=nk
@[go_sem] theorem ld194:ldT cx.T 194=some (false,1):=nk
@[go_sem] theorem ld202:ldT cx.T 202=some (false,1):=nk
@[go_sem] theorem ld207:ldT cx.T 207=some (false,1):=nk
@[go_sem] theorem ld209:ldT cx.T 209=some (true,6):=nk
@[go_sem] theorem ze209:zeroT cx.T 209=some (6,.agg ([.lit (.int .i64 0),.lit (.int .i64 0),.lit (.int .i64 0),.lit (.int .i64 0),.lit (.int .i64 0),.lit (.int .i64 0)])):=nk
@[go_sem] theorem ar209:arT cx.T 209=some (6,1):=nk
@[go_sem] theorem eq209:eqT cx.T 209=(some [false,false,false,false,false,false]):=nk
@[go_sem] theorem ld212:ldT cx.T 212=some (false,1):=nk
@[go_sem] theorem ze212:zeroT cx.T 212=some (1,.lit (.slice none 0 0)):=nk
@[go_sem] theorem sl212:slT cx.T 212=some (6,66,T66):=nk
@[go_sem] theorem ld213:ldT cx.T 213=some (false,1):=nk
@[go_sem] theorem ze213:zeroT cx.T 213=some (1,.lit (.map none)):=nk
@[go_sem] theorem ld215:ldT cx.T 215=some (false,1):=nk
@[go_sem] theorem ld218:ldT cx.T 218=some (false,1):=nk
@[go_sem] theorem ze218:zeroT cx.T 218=some (1,.lit (.pointer none)):=nk
@[go_sem] theorem pt218:isPtrTy (cx.T 218)=true:=nk
@[go_sem] theorem ld220:ldT cx.T 220=some (true,3):=nk
@[go_sem] theorem ze220:zeroT cx.T 220=some (3,.agg ([.lit (.slice none 0 0),.lit (.slice none 0 0),.lit (.slice none 0 0)])):=nk
@[go_sem] theorem fo220_0:foT cx.T 220 0=some 0:=nk
@[go_sem] theorem fo220_1:foT cx.T 220 1=some 1:=nk
@[go_sem] theorem fo220_2:foT cx.T 220 2=some 2:=nk
@[go_sem] theorem ld223:ldT cx.T 223=some (false,1):=nk
@[go_sem] theorem ze223:zeroT cx.T 223=some (1,.lit (.slice none 0 0)):=nk
@[go_sem] theorem sl223:slT cx.T 223=some (1,26,T26):=nk
@[go_sem] theorem mk223:mkT cx.T 223=some (1,26,24,.lit (.slice none 0 0)):=nk
@[go_sem] theorem ld232:ldT cx.T 232=some (false,1):=nk
@[go_sem] theorem ze232:zeroT cx.T 232=some (1,.lit (.pointer none)):=nk
@[go_sem] theorem pt232:isPtrTy (cx.T 232)=true:=nk
@[go_sem] theorem ld248:ldT cx.T 248=some (true,4):=nk
@[go_sem] theorem ze248:zeroT cx.T 248=some (4,.agg ([.lit (.int .i64 0),.lit (.int .i64 0),.lit (.bool false),.lit (.bool false)])):=nk
@[go_sem] theorem fo248_0:foT cx.T 248 0=some 0:=nk
@[go_sem] theorem fo248_1:foT cx.T 248 1=some 1:=nk
@[go_sem] theorem fo248_2:foT cx.T 248 2=some 2:=nk
@[go_sem] theorem fo248_3:foT cx.T 248 3=some 3:=nk
@[go_sem] theorem eq248:eqT cx.T 248=(some [false,false,true,true]):=nk
@[go_sem] theorem ld249:ldT cx.T 249=some (true,24):=nk
@[go_sem] theorem ar249:arT cx.T 249=some (6,4):=nk
@[go_sem] theorem eq249:eqT cx.T 249=(some [false,false,true,true,false,false,true,true,false,false,true,true,false,false,true,true,false,false,true,true,false,false,true,true]):=nk
@[go_sem] theorem ld251:ldT cx.T 251=some (false,1):=nk
@[go_sem] theorem ld254:ldT cx.T 254=some (false,1):=nk
@[go_sem] theorem ld257:ldT cx.T 257=some (false,1):=nk
@[go_sem] theorem ld259:ldT cx.T 259=some (false,1):=nk
@[go_sem] theorem ze259:zeroT cx.T 259=some (1,.lit (.map none)):=nk
@[go_sem] theorem ld260:ldT cx.T 260=some (true,18):=nk
@[go_sem] theorem ze260:zeroT cx.T 260=some (18,.agg ([.lit (.int .i64 0),.lit (.int .i64 0),.lit (.int .i64 0),.lit (.int .i64 0),.lit (.int .i64 0),.lit (.int .i64 0),.lit (.int .i64 0),.lit (.int .i64 0),.lit (.int .i64 0),.lit (.int .i64 0),.lit (.int .i64 0),.lit (.int .i64 0),.lit (.int .i64 0),.lit (.int .i64 0),.lit (.int .i64 0),.lit (.int .i64 0),.lit (.int .i64 0),.lit (.int .i64 0)])):=nk
@[go_sem] theorem ar260:arT cx.T 260=some (9,2):=nk
@[go_sem] theorem eq260:eqT cx.T 260=(some [false,false,false,false,false,false,false,false,false,false,false,false,false,false,false,false,false,false]):=nk
@[go_sem] theorem ld262:ldT cx.T 262=some (true,21):=nk
@[go_sem] theorem ze262:zeroT cx.T 262=some (21,.agg ([.lit (.int .i64 0),.lit (.bool false),.lit (.int .i64 0),.lit (.int .i64 0),.lit (.int .i64 0),.lit (.int .i64 0),.lit (.int .i64 0),.lit (.int .i64 0),.lit (.int .i64 0),.lit (.int .i64 0),.lit (.int .i64 0),.lit (.int .i64 0),.lit (.int .i64 0),.lit (.int .i64 0),.lit (.int .i64 0),.lit (.int .i64 0),.lit (.int .i64 0),.lit (.int .i64 0),.lit (.int .i64 0),.lit (.int .i64 0),.lit (.int .i64 0)])):=nk
@[go_sem] theorem fo262_0:foT cx.T 262 0=some 0:=nk
@[go_sem] theorem fo262_1:foT cx.T 262 1=some 1:=nk
@[go_sem] theorem fo262_2:foT cx.T 262 2=some 2:=nk
@[go_sem] theorem fo262_3:foT cx.T 262 3=some 3:=nk
@[go_sem] theorem eq262:eqT cx.T 262=(some [false,true,false,false,false,false,false,false,false,false,false,false,false,false,false,false,false,false,false,false,false]):=nk
@[go_sem] theorem heap_eq(f d:Nat):cx.pol.heap f d=decide (f*1000+d∈([3027,13128,34010,39010,39012,55023,65044,73072,74036,74047,86026,130015,146024,20120,95002,95005,95011,95013,105015,105017,105021,105023,105025]:List Nat)):=by
 show ([3027,13128,34010,39010,39012,55023,65044,73072,74036,74047,86026,130015,146024,20120,95002,95005,95011,95013,105015,105017,105021,105023,105025]:List Nat).any (Nat.beq (f*1000+d))=_
 rw[Bool.eq_iff_iff]
 simp[List.any_eq_true]
@[go_sem] theorem frz_eq(f d:Nat):cx.pol.frz f d=decide (f*1000+d∈([130046,13151]:List Nat)):=by
 show ([130046,13151]:List Nat).any (Nat.beq (f*1000+d))=_
 rw[Bool.eq_iff_iff]
 simp[List.any_eq_true]
@[go_sem] theorem pu19:cx.pol.pure 19=true:=nk
@[go_sem] theorem qu19:cx.pol.quiet 19=false:=nk
@[go_sem] theorem pu21:cx.pol.pure 21=true:=nk
@[go_sem] theorem qu21:cx.pol.quiet 21=false:=nk
@[go_sem] theorem pu26:cx.pol.pure 26=true:=nk
@[go_sem] theorem qu26:cx.pol.quiet 26=false:=nk
@[go_sem] theorem pu48:cx.pol.pure 48=true:=nk
@[go_sem] theorem qu48:cx.pol.quiet 48=false:=nk
@[go_sem] theorem pu49:cx.pol.pure 49=true:=nk
@[go_sem] theorem qu49:cx.pol.quiet 49=false:=nk
@[go_sem] theorem pu51:cx.pol.pure 51=true:=nk
@[go_sem] theorem qu51:cx.pol.quiet 51=false:=nk
@[go_sem] theorem pu52:cx.pol.pure 52=true:=nk
@[go_sem] theorem qu52:cx.pol.quiet 52=false:=nk
@[go_sem] theorem pu54:cx.pol.pure 54=true:=nk
@[go_sem] theorem qu54:cx.pol.quiet 54=false:=nk
@[go_sem] theorem pu55:cx.pol.pure 55=true:=nk
@[go_sem] theorem qu55:cx.pol.quiet 55=false:=nk
@[go_sem] theorem pu63:cx.pol.pure 63=true:=nk
@[go_sem] theorem qu63:cx.pol.quiet 63=false:=nk
@[go_sem] theorem pu64:cx.pol.pure 64=true:=nk
@[go_sem] theorem qu64:cx.pol.quiet 64=false:=nk
@[go_sem] theorem pu66:cx.pol.pure 66=true:=nk
@[go_sem] theorem qu66:cx.pol.quiet 66=false:=nk
@[go_sem] theorem pu67:cx.pol.pure 67=true:=nk
@[go_sem] theorem qu67:cx.pol.quiet 67=false:=nk
@[go_sem] theorem pu68:cx.pol.pure 68=true:=nk
@[go_sem] theorem qu68:cx.pol.quiet 68=false:=nk
@[go_sem] theorem pu69:cx.pol.pure 69=true:=nk
@[go_sem] theorem qu69:cx.pol.quiet 69=false:=nk
@[go_sem] theorem pu70:cx.pol.pure 70=true:=nk
@[go_sem] theorem qu70:cx.pol.quiet 70=false:=nk
@[go_sem] theorem pu71:cx.pol.pure 71=true:=nk
@[go_sem] theorem qu71:cx.pol.quiet 71=false:=nk
@[go_sem] theorem pu72:cx.pol.pure 72=true:=nk
@[go_sem] theorem qu72:cx.pol.quiet 72=false:=nk
@[go_sem] theorem pu73:cx.pol.pure 73=true:=nk
@[go_sem] theorem qu73:cx.pol.quiet 73=false:=nk
@[go_sem] theorem pu74:cx.pol.pure 74=true:=nk
@[go_sem] theorem qu74:cx.pol.quiet 74=false:=nk
@[go_sem] theorem pu75:cx.pol.pure 75=true:=nk
@[go_sem] theorem qu75:cx.pol.quiet 75=false:=nk
@[go_sem] theorem pu76:cx.pol.pure 76=true:=nk
@[go_sem] theorem qu76:cx.pol.quiet 76=false:=nk
@[go_sem] theorem pu78:cx.pol.pure 78=true:=nk
@[go_sem] theorem qu78:cx.pol.quiet 78=false:=nk
@[go_sem] theorem pu79:cx.pol.pure 79=true:=nk
@[go_sem] theorem qu79:cx.pol.quiet 79=false:=nk
@[go_sem] theorem pu84:cx.pol.pure 84=true:=nk
@[go_sem] theorem qu84:cx.pol.quiet 84=false:=nk
@[go_sem] theorem pu85:cx.pol.pure 85=true:=nk
@[go_sem] theorem qu85:cx.pol.quiet 85=false:=nk
@[go_sem] theorem pu86:cx.pol.pure 86=true:=nk
@[go_sem] theorem qu86:cx.pol.quiet 86=false:=nk
@[go_sem] theorem pu87:cx.pol.pure 87=true:=nk
@[go_sem] theorem qu87:cx.pol.quiet 87=false:=nk
@[go_sem] theorem pu88:cx.pol.pure 88=true:=nk
@[go_sem] theorem qu88:cx.pol.quiet 88=false:=nk
@[go_sem] theorem pu89:cx.pol.pure 89=true:=nk
@[go_sem] theorem qu89:cx.pol.quiet 89=false:=nk
@[go_sem] theorem pu90:cx.pol.pure 90=true:=nk
@[go_sem] theorem qu90:cx.pol.quiet 90=false:=nk
@[go_sem] theorem pu91:cx.pol.pure 91=true:=nk
@[go_sem] theorem qu91:cx.pol.quiet 91=false:=nk
@[go_sem] theorem pu92:cx.pol.pure 92=true:=nk
@[go_sem] theorem qu92:cx.pol.quiet 92=false:=nk
@[go_sem] theorem pu93:cx.pol.pure 93=true:=nk
@[go_sem] theorem qu93:cx.pol.quiet 93=false:=nk
@[go_sem] theorem pu94:cx.pol.pure 94=true:=nk
@[go_sem] theorem qu94:cx.pol.quiet 94=false:=nk
@[go_sem] theorem pu95:cx.pol.pure 95=false:=nk
@[go_sem] theorem qu95:cx.pol.quiet 95=false:=nk
@[go_sem] theorem pu96:cx.pol.pure 96=true:=nk
@[go_sem] theorem qu96:cx.pol.quiet 96=false:=nk
@[go_sem] theorem pu116:cx.pol.pure 116=true:=nk
@[go_sem] theorem qu116:cx.pol.quiet 116=false:=nk
@[go_sem] theorem pu117:cx.pol.pure 117=true:=nk
@[go_sem] theorem qu117:cx.pol.quiet 117=false:=nk
@[go_sem] theorem pu118:cx.pol.pure 118=true:=nk
@[go_sem] theorem qu118:cx.pol.quiet 118=false:=nk
@[go_sem] theorem pu119:cx.pol.pure 119=false:=nk
@[go_sem] theorem qu119:cx.pol.quiet 119=false:=nk
@[go_sem] theorem pu120:cx.pol.pure 120=true:=nk
@[go_sem] theorem qu120:cx.pol.quiet 120=false:=nk
@[go_sem] theorem pu121:cx.pol.pure 121=true:=nk
@[go_sem] theorem qu121:cx.pol.quiet 121=false:=nk
@[go_sem] theorem pu122:cx.pol.pure 122=false:=nk
@[go_sem] theorem qu122:cx.pol.quiet 122=false:=nk
@[go_sem] theorem pu123:cx.pol.pure 123=false:=nk
@[go_sem] theorem qu123:cx.pol.quiet 123=true:=nk
@[go_sem] theorem pu124:cx.pol.pure 124=true:=nk
@[go_sem] theorem qu124:cx.pol.quiet 124=false:=nk
@[go_sem] theorem pu125:cx.pol.pure 125=true:=nk
@[go_sem] theorem qu125:cx.pol.quiet 125=false:=nk
@[go_sem] theorem pu126:cx.pol.pure 126=false:=nk
@[go_sem] theorem qu126:cx.pol.quiet 126=false:=nk
@[go_sem] theorem pu127:cx.pol.pure 127=false:=nk
@[go_sem] theorem qu127:cx.pol.quiet 127=false:=nk
@[go_sem] theorem pu128:cx.pol.pure 128=true:=nk
@[go_sem] theorem qu128:cx.pol.quiet 128=false:=nk
@[go_sem] theorem pu129:cx.pol.pure 129=false:=nk
@[go_sem] theorem qu129:cx.pol.quiet 129=false:=nk
@[go_sem] theorem pu130:cx.pol.pure 130=false:=nk
@[go_sem] theorem qu130:cx.pol.quiet 130=false:=nk
@[go_sem] theorem pu131:cx.pol.pure 131=false:=nk
@[go_sem] theorem qu131:cx.pol.quiet 131=true:=nk
@[go_sem] theorem pu132:cx.pol.pure 132=true:=nk
@[go_sem] theorem qu132:cx.pol.quiet 132=false:=nk
@[go_sem] theorem pu133:cx.pol.pure 133=true:=nk
@[go_sem] theorem qu133:cx.pol.quiet 133=false:=nk
@[go_sem] theorem pu134:cx.pol.pure 134=true:=nk
@[go_sem] theorem qu134:cx.pol.quiet 134=false:=nk
@[go_sem] theorem pu135:cx.pol.pure 135=true:=nk
@[go_sem] theorem qu135:cx.pol.quiet 135=false:=nk
@[go_sem] theorem pu136:cx.pol.pure 136=true:=nk
@[go_sem] theorem qu136:cx.pol.quiet 136=false:=nk
@[go_sem] theorem pu137:cx.pol.pure 137=true:=nk
@[go_sem] theorem qu137:cx.pol.quiet 137=false:=nk
@[go_sem] theorem pu140:cx.pol.pure 140=true:=nk
@[go_sem] theorem qu140:cx.pol.quiet 140=false:=nk
@[go_sem] theorem pu141:cx.pol.pure 141=false:=nk
@[go_sem] theorem qu141:cx.pol.quiet 141=false:=nk
@[go_sem] theorem pu152:cx.pol.pure 152=true:=nk
@[go_sem] theorem qu152:cx.pol.quiet 152=false:=nk
@[go_sem] theorem pu153:cx.pol.pure 153=false:=nk
@[go_sem] theorem qu153:cx.pol.quiet 153=false:=nk
@[go_sem] theorem pu154:cx.pol.pure 154=false:=nk
@[go_sem] theorem qu154:cx.pol.quiet 154=false:=nk
@[go_sem] theorem pu155:cx.pol.pure 155=true:=nk
@[go_sem] theorem qu155:cx.pol.quiet 155=false:=nk
@[go_sem] theorem pu156:cx.pol.pure 156=false:=nk
@[go_sem] theorem qu156:cx.pol.quiet 156=false:=nk
@[go_sem] theorem pu157:cx.pol.pure 157=true:=nk
@[go_sem] theorem qu157:cx.pol.quiet 157=false:=nk
@[go_sem] theorem pu158:cx.pol.pure 158=false:=nk
@[go_sem] theorem qu158:cx.pol.quiet 158=false:=nk
@[go_sem] theorem pu159:cx.pol.pure 159=true:=nk
@[go_sem] theorem qu159:cx.pol.quiet 159=false:=nk
@[go_sem] theorem pu160:cx.pol.pure 160=false:=nk
@[go_sem] theorem qu160:cx.pol.quiet 160=false:=nk
@[go_sem] theorem pu161:cx.pol.pure 161=false:=nk
@[go_sem] theorem qu161:cx.pol.quiet 161=true:=nk
@[go_sem] theorem pu162:cx.pol.pure 162=true:=nk
@[go_sem] theorem qu162:cx.pol.quiet 162=false:=nk
@[go_sem] theorem pu163:cx.pol.pure 163=false:=nk
@[go_sem] theorem qu163:cx.pol.quiet 163=false:=nk
@[go_sem] theorem pu175:cx.pol.pure 175=false:=nk
@[go_sem] theorem qu175:cx.pol.quiet 175=false:=nk
@[go_sem] theorem pu176:cx.pol.pure 176=false:=nk
@[go_sem] theorem qu176:cx.pol.quiet 176=true:=nk
end Go.Abs.Tab
