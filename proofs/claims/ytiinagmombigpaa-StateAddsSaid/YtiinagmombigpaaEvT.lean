/- The tables of this seat: its types, its functions. (Printed by a program.) -/
import Derived.Test.YtiinagmombigpaaEvA
import Derived.Test.YtiinagmombigpaaProg
set_option linter.unnecessarySimpa false
set_option linter.unusedSimpArgs false
set_option linter.unusedVariables false
namespace Go.Abs.Tab
def T1:TI:=⟨1,8,[.nilFunc],false,.other,none⟩
def T2:TI:=⟨1,8,[.int .i64 0],false,(.int .i64),none⟩
def T3:TI:=⟨1,8,[.int .i64 0],false,(.int .i64),none⟩
def T4:TI:=⟨1,1,[.bool false],false,.bool,none⟩
def T5:TI:=⟨1,1,[.int .u8 0],false,(.int .u8),none⟩
def T6:TI:=⟨1,1,[.int .u8 0],false,(.int .u8),none⟩
def T7:TI:=⟨4,24,[.int .i64 0,.int .i64 0,.bool false,.int .u8 0],true,(.struct [(0,2),(1,3),(2,4),(3,6)]),(some [false,false,true,false])⟩
def T8:TI:=⟨4,24,[.int .i64 0,.int .i64 0,.bool false,.int .u8 0],true,(.struct [(0,2),(1,3),(2,4),(3,6)]),(some [false,false,true,false])⟩
def T9:TI:=⟨1,16,[.string ⟨#[]⟩],false,.str,none⟩
def T16:TI:=⟨1,8,[.pointer none],false,.ptr,none⟩
def T17:TI:=⟨1,8,[.pointer none],false,.ptr,none⟩
def T18:TI:=⟨1,8,[.pointer none],true,(.struct [(0,17)]),none⟩
def T19:TI:=⟨1,8,[.pointer none],true,(.struct [(0,17)]),none⟩
def T21:TI:=⟨1,4,[.int .i32 0],false,(.int .i32),none⟩
def T24:TI:=⟨1,8,[.pointer none],false,.ptr,none⟩
def T26:TI:=⟨1,24,[.slice none 0 0],false,(.slice 4),none⟩
def T27:TI:=⟨1,8,[.int .i64 0],false,(.int .i64),none⟩
def T31:TI:=⟨1,24,[.slice none 0 0],false,(.slice 3),none⟩
def T32:TI:=⟨1,8,[.nilFunc],false,.other,none⟩
def T39:TI:=⟨1,24,[.slice none 0 0],false,(.slice 2),none⟩
def T42:TI:=⟨16,128,[.int .i64 0,.int .i64 0,.int .i64 0,.int .i64 0,.int .i64 0,.int .i64 0,.int .i64 0,.int .i64 0,.int .i64 0,.int .i64 0,.int .i64 0,.int .i64 0,.int .i64 0,.int .i64 0,.int .i64 0,.int .i64 0],true,(.array 16 2),(some [false,false,false,false,false,false,false,false,false,false,false,false,false,false,false,false])⟩
def T45:TI:=⟨19,168,[.int .i64 0,.int .i64 0,.slice none 0 0,.int .i64 0,.int .i64 0,.int .i64 0,.int .i64 0,.int .i64 0,.int .i64 0,.int .i64 0,.int .i64 0,.int .i64 0,.int .i64 0,.int .i64 0,.int .i64 0,.int .i64 0,.int .i64 0,.int .i64 0,.int .i64 0],true,(.struct [(0,3),(1,3),(2,39),(3,42)]),none⟩
def T48:TI:=⟨1,8,[.nilFunc],false,.other,none⟩
def T50:TI:=⟨5,120,[.slice none 0 0,.slice none 0 0,.slice none 0 0,.slice none 0 0,.slice none 0 0],true,(.array 5 39),none⟩
def T56:TI:=⟨1,24,[.slice none 0 0],false,(.slice 66),none⟩
def T61:TI:=⟨2,16,[.int .i64 0,.int .i64 0],true,(.struct [(0,3),(1,3)]),(some [false,false])⟩
def T63:TI:=⟨2,16,[.int .i64 0,.int .i64 0],true,(.struct [(0,3),(1,3)]),(some [false,false])⟩
def T64:TI:=⟨1,24,[.slice none 0 0],false,(.slice 63),none⟩
def T66:TI:=⟨6,64,[.int .i64 0,.int .i64 0,.bool false,.int .i64 0,.int .i64 0,.slice none 0 0],true,(.struct [(0,3),(1,3),(2,4),(3,63),(5,64)]),none⟩
def T72:TI:=⟨1,8,[.nilFunc],false,.other,none⟩
def T84:TI:=⟨1,8,[.nilFunc],false,.other,none⟩
def T93:TI:=⟨1,24,[.slice none 0 0],false,(.slice 111),none⟩
def T95:TI:=⟨3,72,[.slice none 0 0,.slice none 0 0,.slice none 0 0],true,(.struct [(0,93),(1,31),(2,31)]),none⟩
def T108:TI:=⟨2,16,[.int .i64 0,.int .i64 0],true,(.struct [(0,3),(1,3)]),(some [false,false])⟩
def T109:TI:=⟨1,24,[.slice none 0 0],false,(.slice 108),none⟩
def T111:TI:=⟨6,64,[.int .i64 0,.int .i64 0,.bool false,.int .i64 0,.int .i64 0,.slice none 0 0],true,(.struct [(0,3),(1,3),(2,4),(3,108),(5,109)]),none⟩
def T113:TI:=⟨1,24,[.slice none 0 0],false,(.slice 143),none⟩
def T114:TI:=⟨1,24,[.slice none 0 0],false,(.slice 61),none⟩
def T115:TI:=⟨1,24,[.slice none 0 0],false,(.slice 161),none⟩
def T117:TI:=⟨8,192,[.slice none 0 0,.slice none 0 0,.slice none 0 0,.slice none 0 0,.slice none 0 0,.slice none 0 0,.slice none 0 0,.slice none 0 0],true,(.struct [(0,56),(1,113),(2,114),(3,115),(4,31),(5,31),(6,31),(7,31)]),none⟩
def T119:TI:=⟨3,24,[.int .i64 0,.int .i64 0,.int .i64 0],true,(.struct [(0,3),(1,3),(2,3)]),(some [false,false,false])⟩
def T120:TI:=⟨48,384,[.int .i64 0,.int .i64 0,.int .i64 0,.int .i64 0,.int .i64 0,.int .i64 0,.int .i64 0,.int .i64 0,.int .i64 0,.int .i64 0,.int .i64 0,.int .i64 0,.int .i64 0,.int .i64 0,.int .i64 0,.int .i64 0,.int .i64 0,.int .i64 0,.int .i64 0,.int .i64 0,.int .i64 0,.int .i64 0,.int .i64 0,.int .i64 0,.int .i64 0,.int .i64 0,.int .i64 0,.int .i64 0,.int .i64 0,.int .i64 0,.int .i64 0,.int .i64 0,.int .i64 0,.int .i64 0,.int .i64 0,.int .i64 0,.int .i64 0,.int .i64 0,.int .i64 0,.int .i64 0,.int .i64 0,.int .i64 0,.int .i64 0,.int .i64 0,.int .i64 0,.int .i64 0,.int .i64 0,.int .i64 0],true,(.array 16 119),(some [false,false,false,false,false,false,false,false,false,false,false,false,false,false,false,false,false,false,false,false,false,false,false,false,false,false,false,false,false,false,false,false,false,false,false,false,false,false,false,false,false,false,false,false,false,false,false,false])⟩
def T122:TI:=⟨50,400,[.int .i64 0,.int .i64 0,.int .i64 0,.int .i64 0,.int .i64 0,.int .i64 0,.int .i64 0,.int .i64 0,.int .i64 0,.int .i64 0,.int .i64 0,.int .i64 0,.int .i64 0,.int .i64 0,.int .i64 0,.int .i64 0,.int .i64 0,.int .i64 0,.int .i64 0,.int .i64 0,.int .i64 0,.int .i64 0,.int .i64 0,.int .i64 0,.int .i64 0,.int .i64 0,.int .i64 0,.int .i64 0,.int .i64 0,.int .i64 0,.int .i64 0,.int .i64 0,.int .i64 0,.int .i64 0,.int .i64 0,.int .i64 0,.int .i64 0,.int .i64 0,.int .i64 0,.int .i64 0,.int .i64 0,.int .i64 0,.int .i64 0,.int .i64 0,.int .i64 0,.int .i64 0,.int .i64 0,.int .i64 0,.int .i64 0,.int .i64 0],true,(.struct [(0,3),(1,3),(2,120)]),(some [false,false,false,false,false,false,false,false,false,false,false,false,false,false,false,false,false,false,false,false,false,false,false,false,false,false,false,false,false,false,false,false,false,false,false,false,false,false,false,false,false,false,false,false,false,false,false,false,false,false])⟩
def T123:TI:=⟨2,16,[.int .i64 0,.int .i64 0],true,(.array 2 3),(some [false,false])⟩
def T124:TI:=⟨1,24,[.slice none 0 0],false,(.slice 167),none⟩
def T126:TI:=⟨4,96,[.slice none 0 0,.slice none 0 0,.slice none 0 0,.slice none 0 0],true,(.struct [(0,95),(3,124)]),none⟩
def T128:TI:=⟨1,8,[.nilFunc],false,.other,none⟩
def T139:TI:=⟨3,24,[.bool false,.int .i64 0,.int .i64 0],true,(.struct [(0,4),(1,61)]),(some [true,false,false])⟩
def T140:TI:=⟨1,24,[.slice none 0 0],false,(.slice 139),none⟩
def T141:TI:=⟨1,24,[.slice none 0 0],false,(.slice 241),none⟩
def T143:TI:=⟨3,72,[.slice none 0 0,.slice none 0 0,.slice none 0 0],true,(.struct [(0,140),(1,141),(2,31)]),none⟩
def T144:TI:=⟨1,8,[.nilFunc],false,.other,none⟩
def T159:TI:=⟨1,24,[.slice none 0 0],false,(.slice 169),none⟩
def T161:TI:=⟨2,32,[.int .i64 0,.slice none 0 0],true,(.struct [(0,3),(1,159)]),none⟩
def T167:TI:=⟨1,24,[.slice none 0 0],false,(.slice 119),none⟩
def T168:TI:=⟨3,24,[.bool false,.int .i64 0,.int .i64 0],true,(.struct [(0,4),(1,2),(2,3)]),(some [true,false,false])⟩
def T169:TI:=⟨3,24,[.bool false,.int .i64 0,.int .i64 0],true,(.struct [(0,4),(1,2),(2,3)]),(some [true,false,false])⟩
def T182:TI:=⟨1,8,[.nilFunc],false,.other,none⟩
def T190:TI:=⟨1,24,[.slice none 0 0],false,(.slice 45),none⟩
def T192:TI:=⟨2,48,[.slice none 0 0,.slice none 0 0],true,(.struct [(0,26),(1,190)]),none⟩
def T194:TI:=⟨1,8,[.nilFunc],false,.other,none⟩
def T202:TI:=⟨1,8,[.nilFunc],false,.other,none⟩
def T207:TI:=⟨1,8,[.nilFunc],false,.other,none⟩
def T209:TI:=⟨6,48,[.int .i64 0,.int .i64 0,.int .i64 0,.int .i64 0,.int .i64 0,.int .i64 0],true,(.array 6 3),(some [false,false,false,false,false,false])⟩
def T212:TI:=⟨1,24,[.slice none 0 0],false,(.slice 66),none⟩
def T213:TI:=⟨1,8,[.map none],false,(.map 3 3),none⟩
def T215:TI:=⟨1,8,[.nilFunc],false,.other,none⟩
def T218:TI:=⟨1,8,[.pointer none],false,.ptr,none⟩
def T220:TI:=⟨3,72,[.slice none 0 0,.slice none 0 0,.slice none 0 0],true,(.struct [(0,56),(1,114),(2,31)]),none⟩
def T223:TI:=⟨1,24,[.slice none 0 0],false,(.slice 26),none⟩
def T232:TI:=⟨1,8,[.pointer none],false,.ptr,none⟩
def T241:TI:=⟨6,64,[.int .i64 0,.int .i64 0,.int .i64 0,.int .i64 0,.int .i64 0,.slice none 0 0],true,(.struct [(0,3),(1,2),(2,3),(3,3),(4,3),(5,31)]),none⟩
def T248:TI:=⟨4,24,[.int .i64 0,.int .i64 0,.bool false,.bool false],true,(.struct [(0,3),(1,3),(2,4),(3,4)]),(some [false,false,true,true])⟩
def T249:TI:=⟨24,144,[.int .i64 0,.int .i64 0,.bool false,.bool false,.int .i64 0,.int .i64 0,.bool false,.bool false,.int .i64 0,.int .i64 0,.bool false,.bool false,.int .i64 0,.int .i64 0,.bool false,.bool false,.int .i64 0,.int .i64 0,.bool false,.bool false,.int .i64 0,.int .i64 0,.bool false,.bool false],true,(.array 6 248),(some [false,false,true,true,false,false,true,true,false,false,true,true,false,false,true,true,false,false,true,true,false,false,true,true])⟩
def T251:TI:=⟨1,8,[.nilFunc],false,.other,none⟩
def T254:TI:=⟨1,8,[.nilFunc],false,.other,none⟩
def T257:TI:=⟨1,8,[.nilFunc],false,.other,none⟩
def T259:TI:=⟨1,8,[.map none],false,(.map 262 3),none⟩
def T260:TI:=⟨18,144,[.int .i64 0,.int .i64 0,.int .i64 0,.int .i64 0,.int .i64 0,.int .i64 0,.int .i64 0,.int .i64 0,.int .i64 0,.int .i64 0,.int .i64 0,.int .i64 0,.int .i64 0,.int .i64 0,.int .i64 0,.int .i64 0,.int .i64 0,.int .i64 0],true,(.array 9 108),(some [false,false,false,false,false,false,false,false,false,false,false,false,false,false,false,false,false,false])⟩
def T262:TI:=⟨21,168,[.int .i64 0,.bool false,.int .i64 0,.int .i64 0,.int .i64 0,.int .i64 0,.int .i64 0,.int .i64 0,.int .i64 0,.int .i64 0,.int .i64 0,.int .i64 0,.int .i64 0,.int .i64 0,.int .i64 0,.int .i64 0,.int .i64 0,.int .i64 0,.int .i64 0,.int .i64 0,.int .i64 0],true,(.struct [(0,3),(1,4),(2,3),(3,260)]),(some [false,true,false,false,false,false,false,false,false,false,false,false,false,false,false,false,false,false,false,false,false])⟩
noncomputable def types:Tr TI:=(.node none (.node (some T1) (.node (some T3) (.node (some T7) (.node none (.node (some T31) (.node (some T63) .nil .nil) (.node (some T95) (.node (some T159) .nil .nil) (.node (some T223) .nil .nil))) (.node none (.node none (.node (some T143) .nil .nil) (.node (some T207) .nil .nil)) (.node (some T111) .nil .nil))) (.node none (.node (some T39) .nil (.node none (.node (some T167) .nil .nil) .nil)) (.node none (.node none .nil (.node (some T215) .nil .nil)) (.node (some T119) .nil .nil)))) (.node none (.node (some T19) (.node none (.node none (.node none (.node (some T259) .nil .nil) .nil) .nil) .nil) (.node none .nil (.node (some T115) .nil .nil))) (.node (some T27) (.node none (.node none (.node (some T139) .nil .nil) .nil) .nil) (.node none .nil (.node (some T123) .nil (.node (some T251) .nil .nil)))))) (.node (some T5) (.node (some T9) (.node (some T17) (.node none (.node none (.node none (.node (some T257) .nil .nil) .nil) .nil) (.node none (.node (some T161) .nil .nil) .nil)) (.node none (.node none .nil (.node (some T209) .nil .nil)) (.node (some T113) .nil (.node (some T241) .nil .nil)))) (.node none (.node none .nil (.node none (.node (some T169) .nil .nil) .nil)) (.node none .nil (.node none .nil (.node (some T249) .nil .nil))))) (.node none (.node (some T21) .nil (.node none (.node none .nil (.node (some T213) .nil .nil)) (.node (some T117) .nil .nil))) (.node none (.node (some T45) (.node none (.node (some T141) .nil .nil) .nil) (.node (some T109) .nil .nil)) (.node (some T61) (.node (some T93) .nil .nil) .nil))))) (.node (some T2) (.node (some T4) (.node (some T8) (.node (some T16) (.node (some T32) (.node (some T64) (.node (some T128) .nil .nil) (.node (some T192) .nil .nil)) .nil) (.node (some T48) (.node none (.node (some T144) .nil .nil) .nil) .nil)) (.node (some T24) (.node none (.node (some T72) .nil .nil) (.node none (.node (some T168) .nil .nil) (.node (some T232) .nil .nil))) (.node (some T56) .nil (.node (some T120) .nil (.node (some T248) .nil .nil))))) (.node none (.node none (.node none (.node none (.node none (.node (some T260) .nil .nil) .nil) .nil) .nil) (.node none (.node (some T84) .nil (.node (some T212) .nil .nil)) .nil)) (.node none (.node none (.node none (.node (some T140) .nil .nil) .nil) (.node (some T108) .nil .nil)) (.node none (.node none .nil (.node (some T220) .nil .nil)) (.node (some T124) .nil .nil))))) (.node (some T6) (.node none (.node (some T18) (.node none (.node (some T66) .nil (.node (some T194) .nil .nil)) .nil) (.node (some T50) .nil (.node (some T114) .nil .nil))) (.node (some T26) (.node (some T42) (.node none .nil (.node (some T202) .nil .nil)) .nil) (.node none (.node none .nil (.node (some T218) .nil .nil)) (.node (some T122) .nil .nil)))) (.node none (.node none (.node none (.node none (.node none (.node (some T262) .nil .nil) .nil) .nil) .nil) (.node none .nil (.node none (.node (some T182) .nil .nil) .nil))) (.node none .nil (.node none .nil (.node (some T126) (.node (some T190) .nil .nil) (.node (some T254) .nil .nil))))))))
noncomputable def funcs:Tr Func:=(.node none (.node none (.node none (.node none (.node none (.node none (.node none (.node (some Go.Proofs.Try.f127) .nil .nil) .nil) (.node (some Go.Proofs.Try.f95) (.node (some Go.Proofs.Try.f159) .nil .nil) .nil)) (.node none (.node (some Go.Proofs.Try.f79) .nil .nil) (.node none (.node (some Go.Proofs.Try.f175) .nil .nil) .nil))) (.node none .nil (.node none (.node (some Go.Proofs.Try.f87) .nil .nil) (.node (some Go.Proofs.Try.f119) .nil .nil)))) (.node none (.node (some Go.Proofs.Try.f19) (.node none (.node (some Go.Proofs.Try.f67) (.node (some Go.Proofs.Try.f131) .nil .nil) .nil) (.node none (.node (some Go.Proofs.Try.f163) .nil .nil) .nil)) (.node (some Go.Proofs.Try.f51) .nil .nil)) (.node none .nil (.node none (.node (some Go.Proofs.Try.f91) (.node (some Go.Proofs.Try.f155) .nil .nil) .nil) (.node (some Go.Proofs.Try.f123) .nil .nil))))) (.node none (.node none (.node none (.node none (.node none (.node (some Go.Proofs.Try.f129) .nil .nil) .nil) (.node none (.node (some Go.Proofs.Try.f161) .nil .nil) .nil)) .nil) (.node none (.node none (.node (some Go.Proofs.Try.f73) (.node (some Go.Proofs.Try.f137) .nil .nil) .nil) .nil) (.node none (.node (some Go.Proofs.Try.f89) (.node (some Go.Proofs.Try.f153) .nil .nil) .nil) .nil))) (.node none (.node (some Go.Proofs.Try.f21) (.node none (.node (some Go.Proofs.Try.f69) .nil .nil) .nil) (.node none (.node (some Go.Proofs.Try.f85) .nil .nil) (.node (some Go.Proofs.Try.f117) .nil .nil))) (.node none (.node none (.node none (.node (some Go.Proofs.Try.f141) .nil .nil) .nil) .nil) (.node none (.node (some Go.Proofs.Try.f93) .nil .nil) (.node (some Go.Proofs.Try.f125) .nil .nil)))))) (.node none (.node none (.node none (.node none (.node none .nil (.node (some Go.Proofs.Try.f96) (.node (some Go.Proofs.Try.f160) .nil .nil) .nil)) (.node (some Go.Proofs.Try.f48) .nil (.node none (.node (some Go.Proofs.Try.f176) .nil .nil) .nil))) (.node none .nil (.node none (.node (some Go.Proofs.Try.f88) (.node (some Go.Proofs.Try.f152) .nil .nil) .nil) .nil))) (.node none (.node none .nil (.node (some Go.Proofs.Try.f52) .nil (.node (some Go.Proofs.Try.f116) .nil .nil))) (.node none (.node none (.node none (.node (some Go.Proofs.Try.f140) .nil .nil) .nil) .nil) (.node none (.node (some Go.Proofs.Try.f92) (.node (some Go.Proofs.Try.f156) .nil .nil) .nil) .nil)))) (.node none (.node none (.node none (.node none (.node none (.node (some Go.Proofs.Try.f130) .nil .nil) .nil) (.node none (.node (some Go.Proofs.Try.f162) .nil .nil) .nil)) .nil) (.node (some Go.Proofs.Try.f26) .nil (.node none (.node (some Go.Proofs.Try.f90) (.node (some Go.Proofs.Try.f154) .nil .nil) .nil) (.node (some Go.Proofs.Try.f122) .nil .nil)))) (.node none (.node none .nil (.node (some Go.Proofs.Try.f54) (.node (some Go.Proofs.Try.f86) .nil .nil) (.node (some Go.Proofs.Try.f118) .nil .nil))) (.node none (.node none (.node (some Go.Proofs.Try.f78) .nil .nil) .nil) (.node none (.node (some Go.Proofs.Try.f94) (.node (some Go.Proofs.Try.f158) .nil .nil) .nil) .nil))))))
noncomputable def pol:Pol :=
 { pure:=fun f=>Nat.testBit 5993122243328188588142566096546946403628321146404856 f
   quiet:=fun f=>Nat.testBit 95783894307395448345992430353594446769526443390009344 f
   heap:=fun f d=>[3027,13128,34010,39010,39012,55023,65044,73072,74036,74047,86026,130015,146024,20120,95002,95005,95011,95013,105015,105017,105021,105023,105025].any (Nat.beq (f*1000+d))
   frz:=fun f d=>[130046,13151].any (Nat.beq (f*1000+d))
   keep:=fun f=>Nat.beq f 74 }
noncomputable def cx:Cx:={ fns:=funcs.get,T:=types.get,pol:=pol }
end Go.Abs.Tab
