/- The tables of this seat: its types, its functions. (Printed by a program.) -/
import Derived.Test.YtiinagmombigpaaEvA
import Derived.Test.YtiinagmombigpaaProg
set_option linter.unnecessarySimpa false
set_option linter.unusedSimpArgs false
set_option linter.unusedVariables false
namespace Go.Abs.Tab
def T1:TI:=⟨1,8,[.nilFunc],false,.other,none⟩
def T2:TI:=⟨1,8,[.int .i64 0],false,(.int .i64),none⟩
def T3:TI:=⟨1,8,[.int .i64 0],false,(.int .i64),none⟩
def T4:TI:=⟨1,1,[.bool false],false,.bool,none⟩
def T5:TI:=⟨1,1,[.int .u8 0],false,(.int .u8),none⟩
def T6:TI:=⟨1,1,[.int .u8 0],false,(.int .u8),none⟩
def T8:TI:=⟨4,24,[.int .i64 0,.int .i64 0,.bool false,.int .u8 0],true,(.struct [(0,2),(1,3),(2,4),(3,6)]),(some [false,false,true,false])⟩
def T16:TI:=⟨1,8,[.pointer none],false,.ptr,none⟩
def T17:TI:=⟨1,8,[.pointer none],false,.ptr,none⟩
def T19:TI:=⟨1,8,[.pointer none],true,(.struct [(0,17)]),none⟩
def T20:TI:=⟨1,16,[.nilIface],false,.other,none⟩
def T22:TI:=⟨1,24,[.slice none 0 0],false,(.slice 5),none⟩
def T24:TI:=⟨1,8,[.pointer none],false,.ptr,none⟩
def T27:TI:=⟨1,8,[.int .i64 0],false,(.int .i64),none⟩
def T31:TI:=⟨1,24,[.slice none 0 0],false,(.slice 3),none⟩
def T39:TI:=⟨1,24,[.slice none 0 0],false,(.slice 2),none⟩
def T42:TI:=⟨16,128,[.int .i64 0,.int .i64 0,.int .i64 0,.int .i64 0,.int .i64 0,.int .i64 0,.int .i64 0,.int .i64 0,.int .i64 0,.int .i64 0,.int .i64 0,.int .i64 0,.int .i64 0,.int .i64 0,.int .i64 0,.int .i64 0],true,(.array 16 2),(some [false,false,false,false,false,false,false,false,false,false,false,false,false,false,false,false])⟩
def T44:TI:=⟨19,168,[.int .i64 0,.int .i64 0,.slice none 0 0,.int .i64 0,.int .i64 0,.int .i64 0,.int .i64 0,.int .i64 0,.int .i64 0,.int .i64 0,.int .i64 0,.int .i64 0,.int .i64 0,.int .i64 0,.int .i64 0,.int .i64 0,.int .i64 0,.int .i64 0,.int .i64 0],true,(.struct [(0,3),(1,3),(2,39),(3,42)]),none⟩
def T48:TI:=⟨1,8,[.nilFunc],false,.other,none⟩
def T50:TI:=⟨5,120,[.slice none 0 0,.slice none 0 0,.slice none 0 0,.slice none 0 0,.slice none 0 0],true,(.array 5 39),none⟩
def T51:TI:=⟨95,840,[.int .i64 0,.int .i64 0,.slice none 0 0,.int .i64 0,.int .i64 0,.int .i64 0,.int .i64 0,.int .i64 0,.int .i64 0,.int .i64 0,.int .i64 0,.int .i64 0,.int .i64 0,.int .i64 0,.int .i64 0,.int .i64 0,.int .i64 0,.int .i64 0,.int .i64 0,.int .i64 0,.int .i64 0,.slice none 0 0,.int .i64 0,.int .i64 0,.int .i64 0,.int .i64 0,.int .i64 0,.int .i64 0,.int .i64 0,.int .i64 0,.int .i64 0,.int .i64 0,.int .i64 0,.int .i64 0,.int .i64 0,.int .i64 0,.int .i64 0,.int .i64 0,.int .i64 0,.int .i64 0,.slice none 0 0,.int .i64 0,.int .i64 0,.int .i64 0,.int .i64 0,.int .i64 0,.int .i64 0,.int .i64 0,.int .i64 0,.int .i64 0,.int .i64 0,.int .i64 0,.int .i64 0,.int .i64 0,.int .i64 0,.int .i64 0,.int .i64 0,.int .i64 0,.int .i64 0,.slice none 0 0,.int .i64 0,.int .i64 0,.int .i64 0,.int .i64 0,.int .i64 0,.int .i64 0,.int .i64 0,.int .i64 0,.int .i64 0,.int .i64 0,.int .i64 0,.int .i64 0,.int .i64 0,.int .i64 0,.int .i64 0,.int .i64 0,.int .i64 0,.int .i64 0,.slice none 0 0,.int .i64 0,.int .i64 0,.int .i64 0,.int .i64 0,.int .i64 0,.int .i64 0,.int .i64 0,.int .i64 0,.int .i64 0,.int .i64 0,.int .i64 0,.int .i64 0,.int .i64 0,.int .i64 0,.int .i64 0,.int .i64 0],true,(.array 5 44),none⟩
def T63:TI:=⟨2,16,[.int .i64 0,.int .i64 0],true,(.struct [(0,3),(1,3)]),(some [false,false])⟩
def T64:TI:=⟨1,24,[.slice none 0 0],false,(.slice 63),none⟩
def T72:TI:=⟨1,8,[.nilFunc],false,.other,none⟩
def T93:TI:=⟨1,24,[.slice none 0 0],false,(.slice 111),none⟩
def T95:TI:=⟨3,72,[.slice none 0 0,.slice none 0 0,.slice none 0 0],true,(.struct [(0,93),(1,31),(2,31)]),none⟩
def T108:TI:=⟨2,16,[.int .i64 0,.int .i64 0],true,(.struct [(0,3),(1,3)]),(some [false,false])⟩
def T109:TI:=⟨1,24,[.slice none 0 0],false,(.slice 108),none⟩
def T111:TI:=⟨6,64,[.int .i64 0,.int .i64 0,.bool false,.int .i64 0,.int .i64 0,.slice none 0 0],true,(.struct [(0,3),(1,3),(2,4),(3,108),(5,109)]),none⟩
def T119:TI:=⟨3,24,[.int .i64 0,.int .i64 0,.int .i64 0],true,(.struct [(0,3),(1,3),(2,3)]),(some [false,false,false])⟩
def T120:TI:=⟨48,384,[.int .i64 0,.int .i64 0,.int .i64 0,.int .i64 0,.int .i64 0,.int .i64 0,.int .i64 0,.int .i64 0,.int .i64 0,.int .i64 0,.int .i64 0,.int .i64 0,.int .i64 0,.int .i64 0,.int .i64 0,.int .i64 0,.int .i64 0,.int .i64 0,.int .i64 0,.int .i64 0,.int .i64 0,.int .i64 0,.int .i64 0,.int .i64 0,.int .i64 0,.int .i64 0,.int .i64 0,.int .i64 0,.int .i64 0,.int .i64 0,.int .i64 0,.int .i64 0,.int .i64 0,.int .i64 0,.int .i64 0,.int .i64 0,.int .i64 0,.int .i64 0,.int .i64 0,.int .i64 0,.int .i64 0,.int .i64 0,.int .i64 0,.int .i64 0,.int .i64 0,.int .i64 0,.int .i64 0,.int .i64 0],true,(.array 16 119),(some [false,false,false,false,false,false,false,false,false,false,false,false,false,false,false,false,false,false,false,false,false,false,false,false,false,false,false,false,false,false,false,false,false,false,false,false,false,false,false,false,false,false,false,false,false,false,false,false])⟩
def T128:TI:=⟨1,8,[.nilFunc],false,.other,none⟩
def T168:TI:=⟨3,24,[.bool false,.int .i64 0,.int .i64 0],true,(.struct [(0,4),(1,2),(2,3)]),(some [true,false,false])⟩
def T176:TI:=⟨1,8,[.nilFunc],false,.other,none⟩
def T178:TI:=⟨1,24,[.slice none 0 0],false,(.slice 185),none⟩
def T180:TI:=⟨1,24,[.slice none 0 0],true,(.struct [(0,178)]),none⟩
def T182:TI:=⟨1,8,[.nilFunc],false,.other,none⟩
def T185:TI:=⟨20,176,[.int .i64 0,.int .i64 0,.slice none 0 0,.int .i64 0,.int .i64 0,.int .i64 0,.int .i64 0,.int .i64 0,.int .i64 0,.int .i64 0,.int .i64 0,.int .i64 0,.int .i64 0,.int .i64 0,.int .i64 0,.int .i64 0,.int .i64 0,.int .i64 0,.int .i64 0,.bool false],true,(.struct [(0,44),(19,4)]),none⟩
def T186:TI:=⟨1,8,[.pointer none],false,.ptr,none⟩
def T194:TI:=⟨1,8,[.nilFunc],false,.other,none⟩
noncomputable def types:Tr TI:=(.node none (.node (some T1) (.node (some T3) (.node none (.node none (.node (some T31) (.node (some T63) .nil .nil) (.node (some T95) .nil .nil)) (.node none .nil (.node (some T111) .nil .nil))) (.node none (.node (some T39) .nil .nil) (.node none .nil (.node (some T119) .nil .nil)))) (.node none (.node (some T19) .nil (.node (some T51) .nil .nil)) (.node (some T27) .nil .nil))) (.node (some T5) (.node none (.node (some T17) .nil .nil) (.node none .nil (.node none .nil (.node none (.node (some T185) .nil .nil) .nil)))) (.node none .nil (.node none (.node none .nil (.node (some T109) .nil .nil)) (.node none (.node (some T93) .nil .nil) .nil))))) (.node (some T2) (.node (some T4) (.node (some T8) (.node (some T16) (.node none (.node (some T64) (.node (some T128) .nil .nil) .nil) .nil) (.node (some T48) .nil (.node none (.node (some T176) .nil .nil) .nil))) (.node (some T24) (.node none (.node (some T72) .nil .nil) (.node none (.node (some T168) .nil .nil) .nil)) (.node none .nil (.node (some T120) .nil .nil)))) (.node none (.node (some T20) .nil (.node none .nil (.node none (.node (some T180) .nil .nil) .nil))) (.node none (.node (some T44) .nil (.node (some T108) .nil .nil)) .nil))) (.node (some T6) (.node none (.node none (.node none (.node none .nil (.node (some T194) .nil .nil)) .nil) (.node (some T50) .nil (.node none (.node (some T178) .nil .nil) .nil))) (.node none (.node (some T42) .nil .nil) (.node none .nil (.node none (.node (some T186) .nil .nil) .nil)))) (.node none (.node (some T22) .nil (.node none .nil (.node none (.node (some T182) .nil .nil) .nil))) .nil))))
noncomputable def funcs:Tr Func:=(.node none (.node none (.node none (.node none (.node none .nil (.node (some Go.Proofs.Try.f47) .nil (.node (some Go.Proofs.Try.f111) .nil .nil))) (.node none .nil (.node none (.node none (.node (some Go.Proofs.Try.f151) .nil .nil) .nil) .nil))) (.node none (.node none (.node (some Go.Proofs.Try.f35) .nil .nil) (.node none .nil (.node (some Go.Proofs.Try.f115) .nil .nil))) .nil)) (.node (some Go.Proofs.Try.f5) (.node none (.node none (.node (some Go.Proofs.Try.f33) .nil .nil) .nil) (.node none (.node (some Go.Proofs.Try.f41) .nil .nil) .nil)) (.node none (.node none (.node (some Go.Proofs.Try.f37) .nil .nil) .nil) (.node none (.node none .nil (.node (some Go.Proofs.Try.f109) .nil .nil)) .nil)))) (.node none (.node none .nil (.node none (.node none (.node (some Go.Proofs.Try.f36) .nil .nil) .nil) (.node none (.node none .nil (.node (some Go.Proofs.Try.f108) .nil .nil)) .nil))) (.node none (.node none (.node none (.node (some Go.Proofs.Try.f34) .nil .nil) .nil) .nil) (.node none (.node none (.node (some Go.Proofs.Try.f38) .nil .nil) (.node none (.node none (.node (some Go.Proofs.Try.f150) .nil .nil) .nil) .nil)) (.node none (.node (some Go.Proofs.Try.f46) .nil (.node (some Go.Proofs.Try.f110) .nil .nil)) .nil)))))
noncomputable def pol:Pol :=
 { pure:=fun f=>Nat.testBit 5993122243328188585546417667279532589363072981794808 f
   quiet:=fun f=>Nat.testBit 95783894307395448345992430353594446769526443390009344 f
   heap:=fun f d=>[3027,5098,111008,13128,34010,39010,39012,55023,65044,73072,74036,74047,86026,130015,146024,20120,95002,95005,95011,95013,105015,105017,105021,105023,105025].any (Nat.beq (f*1000+d))
   frz:=fun f d=>[130046,13151].any (Nat.beq (f*1000+d))
   keep:=fun f=>Nat.beq f 74||Nat.beq f 5 }
noncomputable def cx:Cx:={ fns:=funcs.get,T:=types.get,pol:=pol }
end Go.Abs.Tab
