/- What is asked of this seat's types and policy. (Printed by a program.) -/
import Derived.Test.YtiinagmombigpaaEvS
import Derived.Test.YtiinagmombigpaaEvO
set_option linter.unnecessarySimpa false
set_option linter.unusedSimpArgs false
set_option linter.unusedVariables false
namespace Go.Abs.Tab
@[go_sem] theorem ld1:ldT cx.T 1=some (false,1):=nk
@[go_sem] theorem ld2:ldT cx.T 2=some (false,1):=nk
@[go_sem] theorem ze2:zeroT cx.T 2=some (1,.lit (.int .i64 0)):=nk
@[go_sem] theorem cv2:cvT cx.T 2=some .i64:=nk
@[go_sem] theorem ld3:ldT cx.T 3=some (false,1):=nk
@[go_sem] theorem ze3:zeroT cx.T 3=some (1,.lit (.int .i64 0)):=nk
@[go_sem] theorem cv3:cvT cx.T 3=some .i64:=nk
@[go_sem] theorem ld4:ldT cx.T 4=some (false,1):=nk
@[go_sem] theorem ze4:zeroT cx.T 4=some (1,.lit (.bool false)):=nk
@[go_sem] theorem bo4:isBoolTy (cx.T 4)=true:=nk
@[go_sem] theorem ld5:ldT cx.T 5=some (false,1):=nk
@[go_sem] theorem ze5:zeroT cx.T 5=some (1,.lit (.int .u8 0)):=nk
@[go_sem] theorem cv5:cvT cx.T 5=some .u8:=nk
@[go_sem] theorem ld22:ldT cx.T 22=some (false,1):=nk
@[go_sem] theorem ze22:zeroT cx.T 22=some (1,.lit (.slice none 0 0)):=nk
@[go_sem] theorem sl22:slT cx.T 22=some (1,5,T5):=nk
@[go_sem] theorem ld24:ldT cx.T 24=some (false,1):=nk
@[go_sem] theorem ze24:zeroT cx.T 24=some (1,.lit (.pointer none)):=nk
@[go_sem] theorem pt24:isPtrTy (cx.T 24)=true:=nk
@[go_sem] theorem ld27:ldT cx.T 27=some (false,1):=nk
@[go_sem] theorem ze27:zeroT cx.T 27=some (1,.lit (.int .i64 0)):=nk
@[go_sem] theorem cv27:cvT cx.T 27=some .i64:=nk
@[go_sem] theorem ld31:ldT cx.T 31=some (false,1):=nk
@[go_sem] theorem ze31:zeroT cx.T 31=some (1,.lit (.slice none 0 0)):=nk
@[go_sem] theorem sl31:slT cx.T 31=some (1,3,T3):=nk
@[go_sem] theorem mk31:mkT cx.T 31=some (1,3,8,.lit (.int .i64 0)):=nk
@[go_sem] theorem ld39:ldT cx.T 39=some (false,1):=nk
@[go_sem] theorem ze39:zeroT cx.T 39=some (1,.lit (.slice none 0 0)):=nk
@[go_sem] theorem sl39:slT cx.T 39=some (1,2,T2):=nk
@[go_sem] theorem mk39:mkT cx.T 39=some (1,2,8,.lit (.int .i64 0)):=nk
@[go_sem] theorem ld42:ldT cx.T 42=some (true,16):=nk
@[go_sem] theorem ze42:zeroT cx.T 42=some (16,.agg ([.lit (.int .i64 0),.lit (.int .i64 0),.lit (.int .i64 0),.lit (.int .i64 0),.lit (.int .i64 0),.lit (.int .i64 0),.lit (.int .i64 0),.lit (.int .i64 0),.lit (.int .i64 0),.lit (.int .i64 0),.lit (.int .i64 0),.lit (.int .i64 0),.lit (.int .i64 0),.lit (.int .i64 0),.lit (.int .i64 0),.lit (.int .i64 0)])):=nk
@[go_sem] theorem ar42:arT cx.T 42=some (16,1):=nk
@[go_sem] theorem eq42:eqT cx.T 42=(some [false,false,false,false,false,false,false,false,false,false,false,false,false,false,false,false]):=nk
@[go_sem] theorem ld44:ldT cx.T 44=some (true,19):=nk
@[go_sem] theorem ze44:zeroT cx.T 44=some (19,.agg ([.lit (.int .i64 0),.lit (.int .i64 0),.lit (.slice none 0 0),.lit (.int .i64 0),.lit (.int .i64 0),.lit (.int .i64 0),.lit (.int .i64 0),.lit (.int .i64 0),.lit (.int .i64 0),.lit (.int .i64 0),.lit (.int .i64 0),.lit (.int .i64 0),.lit (.int .i64 0),.lit (.int .i64 0),.lit (.int .i64 0),.lit (.int .i64 0),.lit (.int .i64 0),.lit (.int .i64 0),.lit (.int .i64 0)])):=nk
@[go_sem] theorem fo44_0:foT cx.T 44 0=some 0:=nk
@[go_sem] theorem fo44_1:foT cx.T 44 1=some 1:=nk
@[go_sem] theorem fo44_2:foT cx.T 44 2=some 2:=nk
@[go_sem] theorem fo44_3:foT cx.T 44 3=some 3:=nk
@[go_sem] theorem ld50:ldT cx.T 50=some (true,5):=nk
@[go_sem] theorem ze50:zeroT cx.T 50=some (5,.agg ([.lit (.slice none 0 0),.lit (.slice none 0 0),.lit (.slice none 0 0),.lit (.slice none 0 0),.lit (.slice none 0 0)])):=nk
@[go_sem] theorem ar50:arT cx.T 50=some (5,1):=nk
@[go_sem] theorem ld51:ldT cx.T 51=some (true,95):=nk
@[go_sem] theorem ar51:arT cx.T 51=some (5,19):=nk
@[go_sem] theorem ld178:ldT cx.T 178=some (false,1):=nk
@[go_sem] theorem ze178:zeroT cx.T 178=some (1,.lit (.slice none 0 0)):=nk
@[go_sem] theorem sl178:slT cx.T 178=some (20,185,T185):=nk
@[go_sem] theorem mk178:mkT cx.T 178=some (20,185,176,.agg ([.lit (.int .i64 0),.lit (.int .i64 0),.lit (.slice none 0 0),.lit (.int .i64 0),.lit (.int .i64 0),.lit (.int .i64 0),.lit (.int .i64 0),.lit (.int .i64 0),.lit (.int .i64 0),.lit (.int .i64 0),.lit (.int .i64 0),.lit (.int .i64 0),.lit (.int .i64 0),.lit (.int .i64 0),.lit (.int .i64 0),.lit (.int .i64 0),.lit (.int .i64 0),.lit (.int .i64 0),.lit (.int .i64 0),.lit (.bool false)])):=nk
@[go_sem] theorem ld180:ldT cx.T 180=some (true,1):=nk
@[go_sem] theorem ze180:zeroT cx.T 180=some (1,.agg ([.lit (.slice none 0 0)])):=nk
@[go_sem] theorem fo180_0:foT cx.T 180 0=some 0:=nk
@[go_sem] theorem ld182:ldT cx.T 182=some (false,1):=nk
@[go_sem] theorem ld185:ldT cx.T 185=some (true,20):=nk
@[go_sem] theorem ze185:zeroT cx.T 185=some (20,.agg ([.lit (.int .i64 0),.lit (.int .i64 0),.lit (.slice none 0 0),.lit (.int .i64 0),.lit (.int .i64 0),.lit (.int .i64 0),.lit (.int .i64 0),.lit (.int .i64 0),.lit (.int .i64 0),.lit (.int .i64 0),.lit (.int .i64 0),.lit (.int .i64 0),.lit (.int .i64 0),.lit (.int .i64 0),.lit (.int .i64 0),.lit (.int .i64 0),.lit (.int .i64 0),.lit (.int .i64 0),.lit (.int .i64 0),.lit (.bool false)])):=nk
@[go_sem] theorem fo185_0:foT cx.T 185 0=some 0:=nk
@[go_sem] theorem fo185_1:foT cx.T 185 1=some 19:=nk
@[go_sem] theorem ld186:ldT cx.T 186=some (false,1):=nk
@[go_sem] theorem ze186:zeroT cx.T 186=some (1,.lit (.pointer none)):=nk
@[go_sem] theorem pt186:isPtrTy (cx.T 186)=true:=nk
@[go_sem] theorem ld194:ldT cx.T 194=some (false,1):=nk
@[go_sem] theorem heap_eq(f d:Nat):cx.pol.heap f d=decide (f*1000+d∈([3027,5098,111008,13128,34010,39010,39012,55023,65044,73072,74036,74047,86026,130015,146024,20120,95002,95005,95011,95013,105015,105017,105021,105023,105025]:List Nat)):=by
 show ([3027,5098,111008,13128,34010,39010,39012,55023,65044,73072,74036,74047,86026,130015,146024,20120,95002,95005,95011,95013,105015,105017,105021,105023,105025]:List Nat).any (Nat.beq (f*1000+d))=_
 rw[Bool.eq_iff_iff]
 simp[List.any_eq_true]
@[go_sem] theorem frz_eq(f d:Nat):cx.pol.frz f d=decide (f*1000+d∈([130046,13151]:List Nat)):=by
 show ([130046,13151]:List Nat).any (Nat.beq (f*1000+d))=_
 rw[Bool.eq_iff_iff]
 simp[List.any_eq_true]
@[go_sem] theorem pu5:cx.pol.pure 5=true:=nk
@[go_sem] theorem qu5:cx.pol.quiet 5=false:=nk
@[go_sem] theorem pu33:cx.pol.pure 33=true:=nk
@[go_sem] theorem qu33:cx.pol.quiet 33=false:=nk
@[go_sem] theorem pu34:cx.pol.pure 34=false:=nk
@[go_sem] theorem qu34:cx.pol.quiet 34=false:=nk
@[go_sem] theorem pu35:cx.pol.pure 35=false:=nk
@[go_sem] theorem qu35:cx.pol.quiet 35=false:=nk
@[go_sem] theorem pu36:cx.pol.pure 36=false:=nk
@[go_sem] theorem qu36:cx.pol.quiet 36=false:=nk
@[go_sem] theorem pu37:cx.pol.pure 37=true:=nk
@[go_sem] theorem qu37:cx.pol.quiet 37=false:=nk
@[go_sem] theorem pu38:cx.pol.pure 38=false:=nk
@[go_sem] theorem qu38:cx.pol.quiet 38=false:=nk
@[go_sem] theorem pu41:cx.pol.pure 41=false:=nk
@[go_sem] theorem qu41:cx.pol.quiet 41=false:=nk
@[go_sem] theorem pu46:cx.pol.pure 46=false:=nk
@[go_sem] theorem qu46:cx.pol.quiet 46=false:=nk
@[go_sem] theorem pu47:cx.pol.pure 47=true:=nk
@[go_sem] theorem qu47:cx.pol.quiet 47=false:=nk
@[go_sem] theorem pu108:cx.pol.pure 108=false:=nk
@[go_sem] theorem qu108:cx.pol.quiet 108=false:=nk
@[go_sem] theorem pu109:cx.pol.pure 109=false:=nk
@[go_sem] theorem qu109:cx.pol.quiet 109=false:=nk
@[go_sem] theorem pu110:cx.pol.pure 110=false:=nk
@[go_sem] theorem qu110:cx.pol.quiet 110=false:=nk
@[go_sem] theorem pu111:cx.pol.pure 111=false:=nk
@[go_sem] theorem qu111:cx.pol.quiet 111=false:=nk
@[go_sem] theorem pu115:cx.pol.pure 115=true:=nk
@[go_sem] theorem qu115:cx.pol.quiet 115=false:=nk
@[go_sem] theorem pu150:cx.pol.pure 150=false:=nk
@[go_sem] theorem qu150:cx.pol.quiet 150=false:=nk
@[go_sem] theorem pu151:cx.pol.pure 151=false:=nk
@[go_sem] theorem qu151:cx.pol.quiet 151=false:=nk
end Go.Abs.Tab
