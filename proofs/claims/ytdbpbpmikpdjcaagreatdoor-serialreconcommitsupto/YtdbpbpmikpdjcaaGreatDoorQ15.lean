/- Part 15 of a proof: Ty, W1, W2, W4, W5 -/
import Derived.Test.YtdbpbpmikpdjcaaGreatDoorProg
import Derived.KernelRfl
import Derived.Test.YtdbpbpmikpdjcaaGreatDoorQ05
import Derived.Test.YtdbpbpmikpdjcaaGreatDoorQ07
import Derived.Test.YtdbpbpmikpdjcaaGreatDoorQ11
set_option linter.all false

namespace Go.Proofs.YtdbpbpmikpdjcaaGreatDoor
open Go Go.Abs
@[simp] theorem tk1:qaf Tryz.prog 1=.func:=by kernel_rfl
@[simp] theorem ts1:qar Tryz.prog 1=1:=by kernel_rfl
@[simp] theorem tz1:qa0 Tryz.prog 1=[.val .nilFunc]:=by kernel_rfl
@[simp] theorem tb1:qan Tryz.prog 1=8:=by kernel_rfl
@[simp] theorem tk2:qaf Tryz.prog 2=.int .i64:=by kernel_rfl
@[simp] theorem ts2:qar Tryz.prog 2=1:=by kernel_rfl
@[simp] theorem tz2:qa0 Tryz.prog 2=[.val (.int .i64 0)]:=by kernel_rfl
@[simp] theorem tb2:qan Tryz.prog 2=8:=by kernel_rfl
@[simp] theorem tk3:qaf Tryz.prog 3=.int .i64:=by kernel_rfl
@[simp] theorem ts3:qar Tryz.prog 3=1:=by kernel_rfl
@[simp] theorem tz3:qa0 Tryz.prog 3=[.val (.int .i64 0)]:=by kernel_rfl
@[simp] theorem tb3:qan Tryz.prog 3=8:=by kernel_rfl
@[simp] theorem tk4:qaf Tryz.prog 4=.bool:=by kernel_rfl
@[simp] theorem ts4:qar Tryz.prog 4=1:=by kernel_rfl
@[simp] theorem tz4:qa0 Tryz.prog 4=[.val (.bool false)]:=by kernel_rfl
@[simp] theorem tb4:qan Tryz.prog 4=1:=by kernel_rfl
@[simp] theorem tk5:qaf Tryz.prog 5=.int .u8:=by kernel_rfl
@[simp] theorem ts5:qar Tryz.prog 5=1:=by kernel_rfl
@[simp] theorem tz5:qa0 Tryz.prog 5=[.val (.int .u8 0)]:=by kernel_rfl
@[simp] theorem tb5:qan Tryz.prog 5=1:=by kernel_rfl
@[simp] theorem tk9:qaf Tryz.prog 9=.string:=by kernel_rfl
@[simp] theorem ts9:qar Tryz.prog 9=1:=by kernel_rfl
@[simp] theorem tz9:qa0 Tryz.prog 9=[.val (.string ⟨#[]⟩)]:=by kernel_rfl
@[simp] theorem tb9:qan Tryz.prog 9=16:=by kernel_rfl
@[simp] theorem tk20:qaf Tryz.prog 20=.iface:=by kernel_rfl
@[simp] theorem ts20:qar Tryz.prog 20=1:=by kernel_rfl
@[simp] theorem tz20:qa0 Tryz.prog 20=[.val .nilIface]:=by kernel_rfl
@[simp] theorem tb20:qan Tryz.prog 20=16:=by kernel_rfl
@[simp] theorem tk21:qaf Tryz.prog 21=.int .i32:=by kernel_rfl
@[simp] theorem ts21:qar Tryz.prog 21=1:=by kernel_rfl
@[simp] theorem tz21:qa0 Tryz.prog 21=[.val (.int .i32 0)]:=by kernel_rfl
@[simp] theorem tb21:qan Tryz.prog 21=4:=by kernel_rfl
@[simp] theorem tk22:qaf Tryz.prog 22=.slice 68 3:=by kernel_rfl
@[simp] theorem ts22:qar Tryz.prog 22=1:=by kernel_rfl
@[simp] theorem tz22:qa0 Tryz.prog 22=[.nils]:=by kernel_rfl
@[simp] theorem tb22:qan Tryz.prog 22=24:=by kernel_rfl
@[simp] theorem tk23:qaf Tryz.prog 23=.slice 79 4:=by kernel_rfl
@[simp] theorem ts23:qar Tryz.prog 23=1:=by kernel_rfl
@[simp] theorem tz23:qa0 Tryz.prog 23=[.nils]:=by kernel_rfl
@[simp] theorem tb23:qan Tryz.prog 23=24:=by kernel_rfl
@[simp] theorem tk24:qaf Tryz.prog 24=.slice 41 7:=by kernel_rfl
@[simp] theorem ts24:qar Tryz.prog 24=1:=by kernel_rfl
@[simp] theorem tz24:qa0 Tryz.prog 24=[.nils]:=by kernel_rfl
@[simp] theorem tb24:qan Tryz.prog 24=24:=by kernel_rfl
@[simp] theorem tk25:qaf Tryz.prog 25=.struct [(0,1),(1,1),(2,1)]:=by kernel_rfl
@[simp] theorem ts25:qar Tryz.prog 25=3:=by kernel_rfl
@[simp] theorem tz25:qa0 Tryz.prog 25=[.nils,.nils,.nils]:=by kernel_rfl
@[simp] theorem tb25:qan Tryz.prog 25=72:=by kernel_rfl
@[simp] theorem tk26:qaf Tryz.prog 26=.struct [(0,1),(1,1),(2,1)]:=by kernel_rfl
@[simp] theorem ts26:qar Tryz.prog 26=3:=by kernel_rfl
@[simp] theorem tz26:qa0 Tryz.prog 26=[.nils,.nils,.nils]:=by kernel_rfl
@[simp] theorem tb26:qan Tryz.prog 26=72:=by kernel_rfl
@[simp] theorem tk27:qaf Tryz.prog 27=.slice 45 8:=by kernel_rfl
@[simp] theorem ts27:qar Tryz.prog 27=1:=by kernel_rfl
@[simp] theorem tz27:qa0 Tryz.prog 27=[.nils]:=by kernel_rfl
@[simp] theorem tb27:qan Tryz.prog 27=24:=by kernel_rfl
@[simp] theorem tk28:qaf Tryz.prog 28=.slice 4 1:=by kernel_rfl
@[simp] theorem ts28:qar Tryz.prog 28=1:=by kernel_rfl
@[simp] theorem tz28:qa0 Tryz.prog 28=[.nils]:=by kernel_rfl
@[simp] theorem tb28:qan Tryz.prog 28=24:=by kernel_rfl
@[simp] theorem tk36:qaf Tryz.prog 36=.slice 77 3:=by kernel_rfl
@[simp] theorem ts36:qar Tryz.prog 36=1:=by kernel_rfl
@[simp] theorem tz36:qa0 Tryz.prog 36=[.nils]:=by kernel_rfl
@[simp] theorem tb36:qan Tryz.prog 36=24:=by kernel_rfl
@[simp] theorem tk37:qaf Tryz.prog 37=.slice 9 1:=by kernel_rfl
@[simp] theorem ts37:qar Tryz.prog 37=1:=by kernel_rfl
@[simp] theorem tz37:qa0 Tryz.prog 37=[.nils]:=by kernel_rfl
@[simp] theorem tb37:qan Tryz.prog 37=24:=by kernel_rfl
@[simp] theorem tk39:qaf Tryz.prog 39=.struct [(0,1),(1,1),(2,1)]:=by kernel_rfl
@[simp] theorem ts39:qar Tryz.prog 39=3:=by kernel_rfl
@[simp] theorem tz39:qa0 Tryz.prog 39=[.val (.bool false),.nils,.nils]:=by kernel_rfl
@[simp] theorem tb39:qan Tryz.prog 39=56:=by kernel_rfl
@[simp] theorem tk41:qaf Tryz.prog 41=.struct [(0,1),(1,1),(2,1),(3,3),(6,1)]:=by kernel_rfl
@[simp] theorem ts41:qar Tryz.prog 41=7:=by kernel_rfl
@[simp] theorem tz41:qa0 Tryz.prog 41=[.val (.int .i64 0),.val (.string ⟨#[]⟩),.nils,.val (.bool false),.nils,.nils,.val (.int .i64 0)]:=by kernel_rfl
@[simp] theorem tb41:qan Tryz.prog 41=112:=by kernel_rfl
@[simp] theorem tk43:qaf Tryz.prog 43=.struct [(0,1),(1,1),(2,1)]:=by kernel_rfl
@[simp] theorem ts43:qar Tryz.prog 43=3:=by kernel_rfl
@[simp] theorem tz43:qa0 Tryz.prog 43=[.val (.int .i64 0),.val (.int .i64 0),.nils]:=by kernel_rfl
@[simp] theorem tb43:qan Tryz.prog 43=40:=by kernel_rfl
@[simp] theorem tk45:qaf Tryz.prog 45=.struct [(0,3),(3,1),(4,1),(5,1),(6,1),(7,1)]:=by kernel_rfl
@[simp] theorem ts45:qar Tryz.prog 45=8:=by kernel_rfl
@[simp] theorem tz45:qa0 Tryz.prog 45=[.val (.int .i64 0),.val (.int .i64 0),.nils,.nils,.nils,.nils,.val (.string ⟨#[]⟩),.val (.int .i64 0)]:=by kernel_rfl
@[simp] theorem tb45:qan Tryz.prog 45=136:=by kernel_rfl
@[simp] theorem tk52:qaf Tryz.prog 52=.slice 61 5:=by kernel_rfl
@[simp] theorem ts52:qar Tryz.prog 52=1:=by kernel_rfl
@[simp] theorem tz52:qa0 Tryz.prog 52=[.nils]:=by kernel_rfl
@[simp] theorem tb52:qan Tryz.prog 52=24:=by kernel_rfl
@[simp] theorem tk57:qaf Tryz.prog 57=.int .i64:=by kernel_rfl
@[simp] theorem ts57:qar Tryz.prog 57=1:=by kernel_rfl
@[simp] theorem tz57:qa0 Tryz.prog 57=[.val (.int .i64 0)]:=by kernel_rfl
@[simp] theorem tb57:qan Tryz.prog 57=8:=by kernel_rfl
@[simp] theorem tk61:qaf Tryz.prog 61=.struct [(0,1),(1,1),(2,3)]:=by kernel_rfl
@[simp] theorem ts61:qar Tryz.prog 61=5:=by kernel_rfl
@[simp] theorem tz61:qa0 Tryz.prog 61=[.val (.int .i64 0),.val (.int .i64 0),.val (.int .i64 0),.val (.int .i64 0),.nils]:=by kernel_rfl
@[simp] theorem tb61:qan Tryz.prog 61=56:=by kernel_rfl
@[simp] theorem tk65:qaf Tryz.prog 65=.slice 116 2:=by kernel_rfl
@[simp] theorem ts65:qar Tryz.prog 65=1:=by kernel_rfl
@[simp] theorem tz65:qa0 Tryz.prog 65=[.nils]:=by kernel_rfl
@[simp] theorem tb65:qan Tryz.prog 65=24:=by kernel_rfl
@[simp] theorem tk66:qaf Tryz.prog 66=.slice 118 13:=by kernel_rfl
@[simp] theorem ts66:qar Tryz.prog 66=1:=by kernel_rfl
@[simp] theorem tz66:qa0 Tryz.prog 66=[.nils]:=by kernel_rfl
@[simp] theorem tb66:qan Tryz.prog 66=24:=by kernel_rfl
@[simp] theorem tk68:qaf Tryz.prog 68=.struct [(0,1),(1,1),(2,1)]:=by kernel_rfl
@[simp] theorem ts68:qar Tryz.prog 68=3:=by kernel_rfl
@[simp] theorem tz68:qa0 Tryz.prog 68=[.val (.string ⟨#[]⟩),.nils,.nils]:=by kernel_rfl
@[simp] theorem tb68:qan Tryz.prog 68=64:=by kernel_rfl
@[simp] theorem tk77:qaf Tryz.prog 77=.struct [(0,1),(1,1),(2,1)]:=by kernel_rfl
@[simp] theorem ts77:qar Tryz.prog 77=3:=by kernel_rfl
@[simp] theorem tz77:qa0 Tryz.prog 77=[.val (.int .i64 0),.val (.int .i64 0),.val (.string ⟨#[]⟩)]:=by kernel_rfl
@[simp] theorem fl77:flatOf Tryz.prog 77=[.int .i64,.int .i64,.string]:=by kernel_rfl
@[simp] theorem tb77:qan Tryz.prog 77=32:=by kernel_rfl
@[simp] theorem tk79:qaf Tryz.prog 79=.struct [(0,1),(1,3)]:=by kernel_rfl
@[simp] theorem ts79:qar Tryz.prog 79=4:=by kernel_rfl
@[simp] theorem tz79:qa0 Tryz.prog 79=[.val (.string ⟨#[]⟩),.val (.int .i64 0),.val (.int .i64 0),.val (.string ⟨#[]⟩)]:=by kernel_rfl
@[simp] theorem fl79:flatOf Tryz.prog 79=[.string,.int .i64,.int .i64,.string]:=by kernel_rfl
@[simp] theorem tb79:qan Tryz.prog 79=48:=by kernel_rfl
@[simp] theorem tk89:qaf Tryz.prog 89=.func:=by kernel_rfl
@[simp] theorem ts89:qar Tryz.prog 89=1:=by kernel_rfl
@[simp] theorem tz89:qa0 Tryz.prog 89=[.val .nilFunc]:=by kernel_rfl
@[simp] theorem tb89:qan Tryz.prog 89=8:=by kernel_rfl
@[simp] theorem tk92:qaf Tryz.prog 92=.func:=by kernel_rfl
@[simp] theorem ts92:qar Tryz.prog 92=1:=by kernel_rfl
@[simp] theorem tz92:qa0 Tryz.prog 92=[.val .nilFunc]:=by kernel_rfl
@[simp] theorem tb92:qan Tryz.prog 92=8:=by kernel_rfl
@[simp] theorem tk94:qaf Tryz.prog 94=.struct [(0,1)]:=by kernel_rfl
@[simp] theorem ts94:qar Tryz.prog 94=1:=by kernel_rfl
@[simp] theorem tz94:qa0 Tryz.prog 94=[.val .nilFunc]:=by kernel_rfl
@[simp] theorem tb94:qan Tryz.prog 94=8:=by kernel_rfl
@[simp] theorem tk96:qaf Tryz.prog 96=.slice 3 1:=by kernel_rfl
@[simp] theorem ts96:qar Tryz.prog 96=1:=by kernel_rfl
@[simp] theorem tz96:qa0 Tryz.prog 96=[.nils]:=by kernel_rfl
@[simp] theorem tb96:qan Tryz.prog 96=24:=by kernel_rfl
@[simp] theorem tk106:qaf Tryz.prog 106=.func:=by kernel_rfl
@[simp] theorem ts106:qar Tryz.prog 106=1:=by kernel_rfl
@[simp] theorem tz106:qa0 Tryz.prog 106=[.val .nilFunc]:=by kernel_rfl
@[simp] theorem tb106:qan Tryz.prog 106=8:=by kernel_rfl
@[simp] theorem tk107:qaf Tryz.prog 107=.func:=by kernel_rfl
@[simp] theorem ts107:qar Tryz.prog 107=1:=by kernel_rfl
@[simp] theorem tz107:qa0 Tryz.prog 107=[.val .nilFunc]:=by kernel_rfl
@[simp] theorem tb107:qan Tryz.prog 107=8:=by kernel_rfl
@[simp] theorem tk109:qaf Tryz.prog 109=.func:=by kernel_rfl
@[simp] theorem ts109:qar Tryz.prog 109=1:=by kernel_rfl
@[simp] theorem tz109:qa0 Tryz.prog 109=[.val .nilFunc]:=by kernel_rfl
@[simp] theorem tb109:qan Tryz.prog 109=8:=by kernel_rfl
@[simp] theorem tk110:qaf Tryz.prog 110=.func:=by kernel_rfl
@[simp] theorem ts110:qar Tryz.prog 110=1:=by kernel_rfl
@[simp] theorem tz110:qa0 Tryz.prog 110=[.val .nilFunc]:=by kernel_rfl
@[simp] theorem tb110:qan Tryz.prog 110=8:=by kernel_rfl
@[simp] theorem tk112:qaf Tryz.prog 112=.slice 114 4:=by kernel_rfl
@[simp] theorem ts112:qar Tryz.prog 112=1:=by kernel_rfl
@[simp] theorem tz112:qa0 Tryz.prog 112=[.nils]:=by kernel_rfl
@[simp] theorem tb112:qan Tryz.prog 112=24:=by kernel_rfl
@[simp] theorem tk114:qaf Tryz.prog 114=.struct [(0,1),(1,1),(2,1),(3,1)]:=by kernel_rfl
@[simp] theorem ts114:qar Tryz.prog 114=4:=by kernel_rfl
@[simp] theorem tz114:qa0 Tryz.prog 114=[.val (.int .i64 0),.val (.int .i64 0),.val (.string ⟨#[]⟩),.nils]:=by kernel_rfl
@[simp] theorem tb114:qan Tryz.prog 114=56:=by kernel_rfl
@[simp] theorem tk116:qaf Tryz.prog 116=.struct [(0,1),(1,1)]:=by kernel_rfl
@[simp] theorem ts116:qar Tryz.prog 116=2:=by kernel_rfl
@[simp] theorem tz116:qa0 Tryz.prog 116=[.val (.string ⟨#[]⟩),.val (.int .i64 0)]:=by kernel_rfl
@[simp] theorem fl116:flatOf Tryz.prog 116=[.string,.int .i64]:=by kernel_rfl
@[simp] theorem tb116:qan Tryz.prog 116=24:=by kernel_rfl
@[simp] theorem tk118:qaf Tryz.prog 118=.struct [(0,1),(1,1),(2,1),(3,4),(7,4),(11,1),(12,1)]:=by kernel_rfl
@[simp] theorem ts118:qar Tryz.prog 118=13:=by kernel_rfl
@[simp] theorem tz118:qa0 Tryz.prog 118=[.val (.int .i64 0),.val (.string ⟨#[]⟩),.val (.int .i64 0),.val (.int .i64 0),.val (.int .i64 0),.val (.string ⟨#[]⟩),.nils,.val (.int .i64 0),.val (.int .i64 0),.val (.string ⟨#[]⟩),.nils,.nils,.nils]:=by kernel_rfl
@[simp] theorem tb118:qan Tryz.prog 118=192:=by kernel_rfl
@[simp] theorem tk120:qaf Tryz.prog 120=.ptr:=by kernel_rfl
@[simp] theorem ts120:qar Tryz.prog 120=1:=by kernel_rfl
@[simp] theorem tz120:qa0 Tryz.prog 120=[.val (.pointer none)]:=by kernel_rfl
@[simp] theorem tb120:qan Tryz.prog 120=8:=by kernel_rfl
@[simp] theorem tk122:qaf Tryz.prog 122=.map 9 77:=by kernel_rfl
@[simp] theorem ts122:qar Tryz.prog 122=1:=by kernel_rfl
@[simp] theorem tz122:qa0 Tryz.prog 122=[.val (.map none)]:=by kernel_rfl
@[simp] theorem tb122:qan Tryz.prog 122=8:=by kernel_rfl
@[simp] theorem tk124:qaf Tryz.prog 124=.struct [(0,1),(1,3),(4,1),(5,1),(6,8)]:=by kernel_rfl
@[simp] theorem ts124:qar Tryz.prog 124=14:=by kernel_rfl
@[simp] theorem tz124:qa0 Tryz.prog 124=[.nils,.val (.bool false),.nils,.nils,.val (.map none),.val (.map none),.val (.int .i64 0),.val (.int .i64 0),.nils,.nils,.nils,.nils,.val (.string ⟨#[]⟩),.val (.int .i64 0)]:=by kernel_rfl
@[simp] theorem tb124:qan Tryz.prog 124=232:=by kernel_rfl
@[simp] theorem tk127:qaf Tryz.prog 127=.struct [(0,3),(3,1)]:=by kernel_rfl
@[simp] theorem ts127:qar Tryz.prog 127=4:=by kernel_rfl
@[simp] theorem tz127:qa0 Tryz.prog 127=[.val (.int .i64 0),.val (.int .i64 0),.nils,.val (.string ⟨#[]⟩)]:=by kernel_rfl
@[simp] theorem tb127:qan Tryz.prog 127=56:=by kernel_rfl
@[simp] theorem tk133:qaf Tryz.prog 133=.struct [(0,1),(1,3),(4,1),(5,1),(6,8)]:=by kernel_rfl
@[simp] theorem ts133:qar Tryz.prog 133=14:=by kernel_rfl
@[simp] theorem tz133:qa0 Tryz.prog 133=[.nils,.val (.bool false),.nils,.nils,.nils,.nils,.val (.int .i64 0),.val (.int .i64 0),.nils,.nils,.nils,.nils,.val (.string ⟨#[]⟩),.val (.int .i64 0)]:=by kernel_rfl
@[simp] theorem tb133:qan Tryz.prog 133=264:=by kernel_rfl
@[simp] theorem tk143:qaf Tryz.prog 143=.array 4 3 1:=by kernel_rfl
@[simp] theorem ts143:qar Tryz.prog 143=4:=by kernel_rfl
@[simp] theorem tz143:qa0 Tryz.prog 143=[.val (.int .i64 0),.val (.int .i64 0),.val (.int .i64 0),.val (.int .i64 0)]:=by kernel_rfl
@[simp] theorem tb143:qan Tryz.prog 143=32:=by kernel_rfl
@[simp] theorem tk146:qaf Tryz.prog 146=.struct [(0,1),(1,1),(2,1),(3,1)]:=by kernel_rfl
@[simp] theorem ts146:qar Tryz.prog 146=4:=by kernel_rfl
@[simp] theorem tz146:qa0 Tryz.prog 146=[.val (.int .i64 0),.val (.int .i64 0),.val (.int .i64 0),.val (.int .i64 0)]:=by kernel_rfl
@[simp] theorem fl146:flatOf Tryz.prog 146=[.int .i64,.int .i64,.int .i64,.int .i64]:=by kernel_rfl
@[simp] theorem tb146:qan Tryz.prog 146=32:=by kernel_rfl
@[simp] theorem tk155:qaf Tryz.prog 155=.struct [(0,1),(1,1)]:=by kernel_rfl
@[simp] theorem ts155:qar Tryz.prog 155=2:=by kernel_rfl
@[simp] theorem tz155:qa0 Tryz.prog 155=[.nils,.nils]:=by kernel_rfl
@[simp] theorem tb155:qan Tryz.prog 155=48:=by kernel_rfl
@[simp] theorem tk170:qaf Tryz.prog 170=.func:=by kernel_rfl
@[simp] theorem ts170:qar Tryz.prog 170=1:=by kernel_rfl
@[simp] theorem tz170:qa0 Tryz.prog 170=[.val .nilFunc]:=by kernel_rfl
@[simp] theorem tb170:qan Tryz.prog 170=8:=by kernel_rfl
@[simp] theorem tk171:qaf Tryz.prog 171=.map 9 3:=by kernel_rfl
@[simp] theorem ts171:qar Tryz.prog 171=1:=by kernel_rfl
@[simp] theorem tz171:qa0 Tryz.prog 171=[.val (.map none)]:=by kernel_rfl
@[simp] theorem tb171:qan Tryz.prog 171=8:=by kernel_rfl
@[simp] theorem tk180:qaf Tryz.prog 180=.slice 183 20:=by kernel_rfl
@[simp] theorem ts180:qar Tryz.prog 180=1:=by kernel_rfl
@[simp] theorem tz180:qa0 Tryz.prog 180=[.nils]:=by kernel_rfl
@[simp] theorem tb180:qan Tryz.prog 180=24:=by kernel_rfl
@[simp] theorem tk183:qaf Tryz.prog 183=.struct [(0,1),(1,13),(14,1),(15,4),(19,1)]:=by kernel_rfl
@[simp] theorem ts183:qar Tryz.prog 183=20:=by kernel_rfl
@[simp] theorem tz183:qa0 Tryz.prog 183=[.val (.bool false),.val (.int .i64 0),.val (.string ⟨#[]⟩),.val (.int .i64 0),.val (.int .i64 0),.val (.int .i64 0),.val (.string ⟨#[]⟩),.nils,.val (.int .i64 0),.val (.int .i64 0),.val (.string ⟨#[]⟩),.nils,.nils,.nils,.val (.int .i64 0),.val (.int .i64 0),.val (.int .i64 0),.val (.string ⟨#[]⟩),.nils,.val (.bool false)]:=by kernel_rfl
@[simp] theorem tb183:qan Tryz.prog 183=272:=by kernel_rfl
@[simp] theorem tk207:qaf Tryz.prog 207=.ptr:=by kernel_rfl
@[simp] theorem ts207:qar Tryz.prog 207=1:=by kernel_rfl
@[simp] theorem tz207:qa0 Tryz.prog 207=[.val (.pointer none)]:=by kernel_rfl
@[simp] theorem tb207:qan Tryz.prog 207=8:=by kernel_rfl
@[simp] theorem tk208:qaf Tryz.prog 208=.map 9 4:=by kernel_rfl
@[simp] theorem ts208:qar Tryz.prog 208=1:=by kernel_rfl
@[simp] theorem tz208:qa0 Tryz.prog 208=[.val (.map none)]:=by kernel_rfl
@[simp] theorem tb208:qan Tryz.prog 208=8:=by kernel_rfl
@[simp] theorem tk210:qaf Tryz.prog 210=.struct [(0,1),(1,1),(2,1)]:=by kernel_rfl
@[simp] theorem ts210:qar Tryz.prog 210=3:=by kernel_rfl
@[simp] theorem tz210:qa0 Tryz.prog 210=[.val (.map none),.val (.map none),.val (.map none)]:=by kernel_rfl
@[simp] theorem tb210:qan Tryz.prog 210=24:=by kernel_rfl
@[simp] theorem tk219:qaf Tryz.prog 219=.int .u64:=by kernel_rfl
@[simp] theorem ts219:qar Tryz.prog 219=1:=by kernel_rfl
@[simp] theorem tz219:qa0 Tryz.prog 219=[.val (.int .u64 0)]:=by kernel_rfl
@[simp] theorem tb219:qan Tryz.prog 219=8:=by kernel_rfl
@[simp] theorem tk224:qaf Tryz.prog 224=.func:=by kernel_rfl
@[simp] theorem ts224:qar Tryz.prog 224=1:=by kernel_rfl
@[simp] theorem tz224:qa0 Tryz.prog 224=[.val .nilFunc]:=by kernel_rfl
@[simp] theorem tb224:qan Tryz.prog 224=8:=by kernel_rfl
@[simp] theorem tk236:qaf Tryz.prog 236=.func:=by kernel_rfl
@[simp] theorem ts236:qar Tryz.prog 236=1:=by kernel_rfl
@[simp] theorem tz236:qa0 Tryz.prog 236=[.val .nilFunc]:=by kernel_rfl
@[simp] theorem tb236:qan Tryz.prog 236=8:=by kernel_rfl
@[simp] theorem tk237:qaf Tryz.prog 237=.func:=by kernel_rfl
@[simp] theorem ts237:qar Tryz.prog 237=1:=by kernel_rfl
@[simp] theorem tz237:qa0 Tryz.prog 237=[.val .nilFunc]:=by kernel_rfl
@[simp] theorem tb237:qan Tryz.prog 237=8:=by kernel_rfl
@[simp] theorem tk259:qaf Tryz.prog 259=.func:=by kernel_rfl
@[simp] theorem ts259:qar Tryz.prog 259=1:=by kernel_rfl
@[simp] theorem tz259:qa0 Tryz.prog 259=[.val .nilFunc]:=by kernel_rfl
@[simp] theorem tb259:qan Tryz.prog 259=8:=by kernel_rfl
@[simp] theorem tk260:qaf Tryz.prog 260=.ptr:=by kernel_rfl
@[simp] theorem ts260:qar Tryz.prog 260=1:=by kernel_rfl
@[simp] theorem tz260:qa0 Tryz.prog 260=[.val (.pointer none)]:=by kernel_rfl
@[simp] theorem tb260:qan Tryz.prog 260=8:=by kernel_rfl
@[simp] theorem tk262:qaf Tryz.prog 262=.struct [(0,1),(1,1),(2,1)]:=by kernel_rfl
@[simp] theorem ts262:qar Tryz.prog 262=3:=by kernel_rfl
@[simp] theorem tz262:qa0 Tryz.prog 262=[.val (.int .i64 0),.val .nilFunc,.val .nilFunc]:=by kernel_rfl
@[simp] theorem tb262:qan Tryz.prog 262=24:=by kernel_rfl
@[simp] theorem tk265:qaf Tryz.prog 265=.struct [(0,1),(1,1),(2,1),(3,1),(4,1),(5,1)]:=by kernel_rfl
@[simp] theorem ts265:qar Tryz.prog 265=6:=by kernel_rfl
@[simp] theorem tz265:qa0 Tryz.prog 265=[.val (.bool false),.val (.bool false),.val (.bool false),.val (.bool false),.val (.bool false),.val (.bool false)]:=by kernel_rfl
@[simp] theorem fl265:flatOf Tryz.prog 265=[.bool,.bool,.bool,.bool,.bool,.bool]:=by kernel_rfl
@[simp] theorem tb265:qan Tryz.prog 265=6:=by kernel_rfl
@[simp] theorem tk271:qaf Tryz.prog 271=.int .u64:=by kernel_rfl
@[simp] theorem ts271:qar Tryz.prog 271=1:=by kernel_rfl
@[simp] theorem tz271:qa0 Tryz.prog 271=[.val (.int .u64 0)]:=by kernel_rfl
@[simp] theorem tb271:qan Tryz.prog 271=8:=by kernel_rfl
@[simp] theorem tk285:qaf Tryz.prog 285=.struct [(0,3),(3,3)]:=by kernel_rfl
@[simp] theorem ts285:qar Tryz.prog 285=6:=by kernel_rfl
@[simp] theorem tz285:qa0 Tryz.prog 285=[.val (.int .i64 0),.val (.int .i64 0),.val (.string ⟨#[]⟩),.val (.int .i64 0),.val (.int .i64 0),.val (.string ⟨#[]⟩)]:=by kernel_rfl
@[simp] theorem fl285:flatOf Tryz.prog 285=[.int .i64,.int .i64,.string,.int .i64,.int .i64,.string]:=by kernel_rfl
@[simp] theorem tb285:qan Tryz.prog 285=64:=by kernel_rfl
@[simp] theorem tk288:qaf Tryz.prog 288=.slice 5 1:=by kernel_rfl
@[simp] theorem ts288:qar Tryz.prog 288=1:=by kernel_rfl
@[simp] theorem tz288:qa0 Tryz.prog 288=[.nils]:=by kernel_rfl
@[simp] theorem tb288:qan Tryz.prog 288=24:=by kernel_rfl
@[simp] theorem tk290:qaf Tryz.prog 290=.array 24 5 1:=by kernel_rfl
@[simp] theorem ts290:qar Tryz.prog 290=24:=by kernel_rfl
@[simp] theorem tz290:qa0 Tryz.prog 290=[.val (.int .u8 0),.val (.int .u8 0),.val (.int .u8 0),.val (.int .u8 0),.val (.int .u8 0),.val (.int .u8 0),.val (.int .u8 0),.val (.int .u8 0),.val (.int .u8 0),.val (.int .u8 0),.val (.int .u8 0),.val (.int .u8 0),.val (.int .u8 0),.val (.int .u8 0),.val (.int .u8 0),.val (.int .u8 0),.val (.int .u8 0),.val (.int .u8 0),.val (.int .u8 0),.val (.int .u8 0),.val (.int .u8 0),.val (.int .u8 0),.val (.int .u8 0),.val (.int .u8 0)]:=by kernel_rfl
@[simp] theorem tb290:qan Tryz.prog 290=24:=by kernel_rfl
@[simp] theorem tk298:qaf Tryz.prog 298=.array 20 219 1:=by kernel_rfl
@[simp] theorem ts298:qar Tryz.prog 298=20:=by kernel_rfl
@[simp] theorem tz298:qa0 Tryz.prog 298=[.val (.int .u64 0),.val (.int .u64 0),.val (.int .u64 0),.val (.int .u64 0),.val (.int .u64 0),.val (.int .u64 0),.val (.int .u64 0),.val (.int .u64 0),.val (.int .u64 0),.val (.int .u64 0),.val (.int .u64 0),.val (.int .u64 0),.val (.int .u64 0),.val (.int .u64 0),.val (.int .u64 0),.val (.int .u64 0),.val (.int .u64 0),.val (.int .u64 0),.val (.int .u64 0),.val (.int .u64 0)]:=by kernel_rfl
@[simp] theorem tb298:qan Tryz.prog 298=160:=by kernel_rfl
@[simp] theorem tk299:qaf Tryz.prog 299=.int .u32:=by kernel_rfl
@[simp] theorem ts299:qar Tryz.prog 299=1:=by kernel_rfl
@[simp] theorem tz299:qa0 Tryz.prog 299=[.val (.int .u32 0)]:=by kernel_rfl
@[simp] theorem tb299:qan Tryz.prog 299=4:=by kernel_rfl
@[simp] theorem tk304:qaf Tryz.prog 304=.array 32 5 1:=by kernel_rfl
@[simp] theorem ts304:qar Tryz.prog 304=32:=by kernel_rfl
@[simp] theorem tz304:qa0 Tryz.prog 304=[.val (.int .u8 0),.val (.int .u8 0),.val (.int .u8 0),.val (.int .u8 0),.val (.int .u8 0),.val (.int .u8 0),.val (.int .u8 0),.val (.int .u8 0),.val (.int .u8 0),.val (.int .u8 0),.val (.int .u8 0),.val (.int .u8 0),.val (.int .u8 0),.val (.int .u8 0),.val (.int .u8 0),.val (.int .u8 0),.val (.int .u8 0),.val (.int .u8 0),.val (.int .u8 0),.val (.int .u8 0),.val (.int .u8 0),.val (.int .u8 0),.val (.int .u8 0),.val (.int .u8 0),.val (.int .u8 0),.val (.int .u8 0),.val (.int .u8 0),.val (.int .u8 0),.val (.int .u8 0),.val (.int .u8 0),.val (.int .u8 0),.val (.int .u8 0)]:=by kernel_rfl
@[simp] theorem tb304:qan Tryz.prog 304=32:=by kernel_rfl
@[simp] theorem tk305:qaf Tryz.prog 305=.array 64 5 1:=by kernel_rfl
@[simp] theorem ts305:qar Tryz.prog 305=64:=by kernel_rfl
@[simp] theorem tz305:qa0 Tryz.prog 305=[.val (.int .u8 0),.val (.int .u8 0),.val (.int .u8 0),.val (.int .u8 0),.val (.int .u8 0),.val (.int .u8 0),.val (.int .u8 0),.val (.int .u8 0),.val (.int .u8 0),.val (.int .u8 0),.val (.int .u8 0),.val (.int .u8 0),.val (.int .u8 0),.val (.int .u8 0),.val (.int .u8 0),.val (.int .u8 0),.val (.int .u8 0),.val (.int .u8 0),.val (.int .u8 0),.val (.int .u8 0),.val (.int .u8 0),.val (.int .u8 0),.val (.int .u8 0),.val (.int .u8 0),.val (.int .u8 0),.val (.int .u8 0),.val (.int .u8 0),.val (.int .u8 0),.val (.int .u8 0),.val (.int .u8 0),.val (.int .u8 0),.val (.int .u8 0),.val (.int .u8 0),.val (.int .u8 0),.val (.int .u8 0),.val (.int .u8 0),.val (.int .u8 0),.val (.int .u8 0),.val (.int .u8 0),.val (.int .u8 0),.val (.int .u8 0),.val (.int .u8 0),.val (.int .u8 0),.val (.int .u8 0),.val (.int .u8 0),.val (.int .u8 0),.val (.int .u8 0),.val (.int .u8 0),.val (.int .u8 0),.val (.int .u8 0),.val (.int .u8 0),.val (.int .u8 0),.val (.int .u8 0),.val (.int .u8 0),.val (.int .u8 0),.val (.int .u8 0),.val (.int .u8 0),.val (.int .u8 0),.val (.int .u8 0),.val (.int .u8 0),.val (.int .u8 0),.val (.int .u8 0),.val (.int .u8 0),.val (.int .u8 0)]:=by kernel_rfl
@[simp] theorem tb305:qan Tryz.prog 305=64:=by kernel_rfl
end Go.Proofs.YtdbpbpmikpdjcaaGreatDoor

namespace Go.Proofs.YtdbpbpmikpdjcaaGreatDoor
open Go Go.Abs Go.Cw
theorem mixed:Tryz.prog.follows .mixedOrders=true:=by kernel_rfl
theorem c_value_plain (s:qad):APure Tryz.prog 147 [S s] (Bo (qbk s)):=by
 refine qaz Tryz.func147 Tryz.ntmps147 rfl (by kernel_rfl) rfl rfl fun E h hN hh hu hb=>?_
 simp [go_sem] at hb
 simp -dsimp [go_sem,hN]
 refine qap s.size (fun n=>allL okB ((bl s).drop n)=allL okB (bl s)) (fun n=>⟨[(0,S s),(3,I n)],h⟩) (by simp) (Wk.mk (by simp [hh]) (by simp [go_sem]) (by simp [hu,qab hu,go_sem]) (by simp [go_sem])) ?_
 intro n hn hI
 have hw:=qbe hn hb
 simp -dsimp [go_sem,hN]
 refine cnd ?_ ?_<;>intro hc<;>try simp at hc
 ·
  rw [bdrop hc,allL] at hI
  simp -dsimp [go_sem,hN,hc]
  refine cnd (fun hg=>?_) (fun hg=>?_)
  ·
   simp -dsimp [go_sem,hN]
   simp [qbk,← hI,okB,hg]
  ·
   simp -dsimp [go_sem,hN,hw]
   exact ⟨hc,by simpa [okB,hg] using hI,(Wk.mk (by simp [hh]) (by simp [go_sem]) (by simp [hu,qab hu,go_sem]) (by simp [go_sem]))⟩
 ·
  rw [bend (by omega),allL] at hI
  simp -dsimp [go_sem,hN,qbk,← hI]
theorem c_value_Valid (k n:Int) (s:qad):APure Tryz.prog 118 [.agg [I k,I n,S s]] (Bo (valOk k n s)):=by
 refine qaz Tryz.func118 Tryz.ntmps118 rfl (by kernel_rfl) rfl rfl fun E h hN hh hu hb=>?_
 simp -dsimp [go_sem,hN]
 refine cnd ?_ ?_<;>intro h0<;>try simp at h0
 all_goals simp -dsimp [go_sem,hN,valOk,h0]
 refine cnd ?_ ?_<;>intro h1<;>try simp at h1
 all_goals simp -dsimp [go_sem,hN,valOk,h0,h1]
 refine cnd ?_ ?_<;>intro h2<;>try simp at h2
 all_goals simp -dsimp [go_sem,hN,valOk,h0,h1,h2]
 refine qaj (c_value_plain s) (by simp) ?_
 simp -dsimp [go_sem,hN,valOk,h0,h1,h2]
theorem c_keys_Valid1 (b:UInt8):APure Tryz.prog 146 [U8 b.toNat] (Bo (keyB b)):=by
 refine qaz Tryz.func146 Tryz.ntmps146 rfl (by kernel_rfl) rfl rfl fun E h hN hh hu hb=>?_
 simp -dsimp [go_sem,hN,keyB]
 omega
theorem c_keys_consists (s:qad) (f:FuncId) (p:UInt8→Bool) (hp:∀ b:UInt8,APure Tryz.prog f [U8 b.toNat] (Bo (p b))):APure Tryz.prog 145 [S s,.fn (.func f) [] []] (Bo (decide ((s.size:Int)≤24)&&allL p (bl s))):=by
 refine qaz Tryz.func145 Tryz.ntmps145 rfl (by kernel_rfl) rfl rfl fun E h hN hh hu hb=>?_
 simp [go_sem] at hb
 simp -dsimp [go_sem,hN]
 refine cnd ?_ ?_<;>intro h0<;>try simp at h0
 all_goals simp -dsimp [go_sem,hN,h0]
 · simp [Int.not_le.2 h0]
 refine qap s.size (fun n=>allL p ((bl s).drop n)=allL p (bl s)) (fun n=>⟨[(0,S s),(1,.fn (.func f) [] []),(10,I s.size),(11,I n)],h⟩) (by simp) (Wk.mk (by simp [hh]) (by simp [go_sem]) (by simp [hu,qab hu,go_sem]) (by simp [go_sem])) ?_
 intro n hn hI
 have hw:=qbe hn hb
 simp -dsimp [go_sem,hN]
 refine cnd ?_ ?_<;>intro hc<;>try simp at hc
 ·
  rw [bdrop hc,allL] at hI
  simp -dsimp [go_sem,hN,hc]
  refine qac (hp _) ?_
  simp -dsimp [go_sem,hN]
  refine cnd ?_ ?_<;>intro hg<;>try simp at hg
  ·
   simp -dsimp [go_sem,hN]
   simp [h0,← hI,hg]
  ·
   simp -dsimp [go_sem,hN,hw]
   exact ⟨hc,by simpa [hg] using hI,(Wk.mk (by simp [hh]) (by simp [go_sem]) (by simp [hu,qab hu,go_sem]) (by simp [go_sem]))⟩
 ·
  rw [bend (by omega),allL] at hI
  simp -dsimp [go_sem,hN,h0,← hI]
theorem c_keys_Valid (s:qad):APure Tryz.prog 117 [S s] (Bo (keyOk s)):=by
 refine qaz Tryz.func117 Tryz.ntmps117 rfl (by kernel_rfl) rfl rfl fun E h hN hh hu hb=>?_
 simp -dsimp [go_sem,hN]
 refine qaj (c_keys_consists s _ keyB c_keys_Valid1) (by simp) ?_
 simp -dsimp [go_sem,hN,keyOk,Bool.and_assoc]
theorem c_interp_ascending (l:List qad):APure Tryz.prog 122 [.slice (l.map qbg)] (Bo (ascK none l&&decide ((l.length:Int)≤64))):=by
 refine qaz Tryz.func122 Tryz.ntmps122 rfl (by kernel_rfl) rfl rfl fun E h hN hh hu hb=>?_
 simp [go_sem] at hb
 simp -dsimp [go_sem,hN]
 refine qap l.length (fun n=>ascK (qcj l n) (l.drop n)=ascK none l) (fun n=>⟨[(0,.slice (l.map qbg)),(5,.slice (l.map qbg)),(6,I l.length),(7,I n)],h⟩) (by simp [qcj]) (Wk.mk (by simp [hh]) (by simp [go_sem]) (by simp [hu,qab hu,go_sem]) (by simp [go_sem])) ?_
 intro n hn hI
 have hw:=qbe hn hb.1
 simp -dsimp [go_sem,hN]
 refine cnd ?_ ?_<;>intro hc<;>try simp at hc
 ·
  rw [qag hc,ascK] at hI
  simp -dsimp [go_sem,hN,hc]
  refine qac (c_keys_Valid _) ?_
  cases n with
  | zero =>
   simp -dsimp [go_sem,hN]
   refine cnd ?_ ?_<;>intro hg<;>try simp at hg
   ·
    simp -dsimp [go_sem,hN]
    simp [← hI,hg,qcj,after]
   ·
    simp -dsimp [go_sem,hN,hw]
    exact ⟨hc,by simpa [hg,qcj,hc,after] using hI,(Wk.mk (by simp [hh]) (by simp [go_sem]) (by simp [hu,qab hu,go_sem]) (by simp [go_sem]))⟩
  | succ m =>
   have hm:m<l.length:=by omega
   have hw2:=wrapN (Nat.le_of_lt hm) hb.1
   simp at hw
   simp -dsimp [go_sem,hN,hw2,hm]
   refine cnd ?_ ?_<;>intro hg<;>try simp at hg
   ·
    simp -dsimp [go_sem,hN]
    rw [← hI]
    rcases hg with h1 | h1<;>simp [qcj,hm,after,h1]
   ·
    simp -dsimp [go_sem,hN,hw]
    simp [hg,qcj,hm,after] at hI
    exact ⟨hc,by simpa [qcj,hc] using hI,(Wk.mk (by simp [hh]) (by simp [go_sem]) (by simp [hu,qab hu,go_sem]) (by simp [go_sem]))⟩
 ·
  rw [List.drop_eq_nil_of_le (by omega),ascK] at hI
  simp -dsimp [go_sem,hN,← hI]
theorem c_interp_valid (a:Bool) (r w:List qad):APure Tryz.prog 84 [.agg [Bo a,.slice (r.map qbg),.slice (w.map qbg)]] (Bo (footOk a r w)):=by
 refine qaz Tryz.func84 Tryz.ntmps84 rfl (by kernel_rfl) rfl rfl fun E h hN hh hu hb=>?_
 simp -dsimp [go_sem,hN]
 refine cnd ?_ ?_<;>intro h0<;>try simp at h0
 all_goals simp -dsimp [go_sem,hN,footOk,h0]
 refine qac (c_interp_ascending r) ?_
 simp -dsimp [go_sem,hN]
 refine qaj (c_interp_ascending w) (by simp) ?_
 simp -dsimp [go_sem,hN,footOk,h0]
theorem c_state_absent (p:Pr):APure Tryz.prog 77 [.agg p.c] (Bo (decide (p.v.k=0))):=by
 refine qaz Tryz.func77 Tryz.ntmps77 rfl (by kernel_rfl) rfl rfl fun E h hN hh hu hb=>?_
 simp -dsimp [go_sem,hN]
theorem c_IndexFunc_Pair (l:List Pr) (f:FuncId) (p:Pr→Bool) (hp:∀ x:Pr,APure Tryz.prog f [.agg x.c] (Bo (p x))):APure Tryz.prog 144 [.slice (l.map Pr.c),.fn (.func f) [] []] (I (idxOf p l)):=by
 refine qaz Tryz.func144 Tryz.ntmps144 rfl (by kernel_rfl) rfl rfl fun E h hN hh hu hb=>?_
 simp [go_sem] at hb
 simp -dsimp [go_sem,hN]
 refine qap l.length (fun n=>qbr p n (l.drop n)=idxOf p l) (fun n=>⟨[(0,.slice (l.map Pr.c)),(1,.fn (.func f) [] []),(7,I l.length),(8,I n)],h⟩) (by simp [idxOf]) (Wk.mk (by simp [hh]) (by simp [go_sem]) (by simp [hu,qab hu,go_sem]) (by simp [go_sem])) ?_
 intro n hn hI
 have hw:=qbe hn hb.1
 simp -dsimp [go_sem,hN]
 refine cnd ?_ ?_<;>intro hc<;>try simp at hc
 ·
  rw [qag hc,qbr] at hI
  simp -dsimp [go_sem,hN,hc]
  refine qac (hp l[n]) ?_
  simp -dsimp [go_sem,hN]
  refine cnd ?_ ?_<;>intro hg<;>try simp at hg
  ·
   simp -dsimp [go_sem,hN]
   simpa [hg] using hI
  ·
   simp -dsimp [go_sem,hN,hw]
   exact ⟨hc,by simpa [hg] using hI,(Wk.mk (by simp [hh]) (by simp [go_sem]) (by simp [hu,qab hu,go_sem]) (by simp [go_sem]))⟩
 ·
  rw [List.drop_eq_nil_of_le (by omega),qbr] at hI
  simp -dsimp [go_sem,hN,← hI]
theorem c_ContainsFunc_Pair (l:List Pr) (f:FuncId) (p:Pr→Bool) (hp:∀ x:Pr,APure Tryz.prog f [.agg x.c] (Bo (p x))):APure Tryz.prog 116 [.slice (l.map Pr.c),.fn (.func f) [] []] (Bo (anyL p l)):=by
 refine qaz Tryz.func116 Tryz.ntmps116 rfl (by kernel_rfl) rfl rfl fun E h hN hh hu hb=>?_
 simp -dsimp [go_sem,hN]
 refine qac (c_IndexFunc_Pair l f p hp) ?_
 simp -dsimp [go_sem,hN,idxOf_nonneg]
theorem c_state_sorted (l:List Pr):APure Tryz.prog 74 [.slice (l.map Pr.c)] (Bo (sortedP none l)):=by
 refine qaz Tryz.func74 Tryz.ntmps74 rfl (by kernel_rfl) rfl rfl fun E h hN hh hu hb=>?_
 simp [go_sem] at hb
 simp -dsimp [go_sem,hN]
 refine qap l.length (fun n=>sortedP ((qcj l n).map Pr.key) (l.drop n)=sortedP none l) (fun n=>⟨[(0,.slice (l.map Pr.c)),(5,.slice (l.map Pr.c)),(6,I l.length),(7,I n)],h⟩) (by simp [qcj]) (Wk.mk (by simp [hh]) (by simp [go_sem]) (by simp [hu,qab hu,go_sem]) (by simp [go_sem])) ?_
 intro n hn hI
 have hw:=qbe hn hb.1
 simp -dsimp [go_sem,hN]
 refine cnd ?_ ?_<;>intro hc<;>try simp at hc
 ·
  rw [qag hc,sortedP] at hI
  simp -dsimp [go_sem,hN,hc]
  refine qak 22 mixed (by kernel_rfl) (by kernel_rfl) ?_
  simp -dsimp [go_sem,hN]
  refine tdcall (c_keys_Valid _) (by simp) ?_
  simp -dsimp [go_sem,hN]
  refine tdcall (c_value_Valid _ _ _) (by simp) ?_
  cases n with
  | zero =>
   simp -dsimp [go_sem,hN]
   refine cnd ?_ ?_<;>intro hg<;>try simp at hg
   ·
    simp -dsimp [go_sem,hN]
    rw [← hI]
    rcases hg with h1 | h1<;>simp [qcj,after,h1]
   ·
    simp -dsimp [go_sem,hN,hw]
    exact ⟨hc,by simpa [hg,qcj,hc,after] using hI,(Wk.mk (by simp [hh]) (by simp [go_sem]) (by simp [hu,qab hu,go_sem]) (by simp [go_sem]))⟩
  | succ m =>
   have hm:m<l.length:=by omega
   have hw2:=wrapN (Nat.le_of_lt hm) hb.1
   simp at hw
   simp -dsimp [go_sem,hN,hw2,hm]
   refine cnd ?_ ?_<;>intro hg<;>try simp at hg
   ·
    simp -dsimp [go_sem,hN]
    rw [← hI]
    grind [qcj,after]
   ·
    simp -dsimp [go_sem,hN,hw]
    simp [hg,qcj,hm,after] at hI
    exact ⟨hc,by simpa [qcj,hc] using hI,(Wk.mk (by simp [hh]) (by simp [go_sem]) (by simp [hu,qab hu,go_sem]) (by simp [go_sem]))⟩
 ·
  rw [List.drop_eq_nil_of_le (by omega),sortedP] at hI
  simp -dsimp [go_sem,hN,← hI]
theorem c_state_Valid (l:List Pr):APure Tryz.prog 73 [.slice (l.map Pr.c)] (Bo (qbc l)):=by
 refine qaz Tryz.func73 Tryz.ntmps73 rfl (by kernel_rfl) rfl rfl fun E h hN hh hu hb=>?_
 simp -dsimp [go_sem,hN]
 refine qac (c_state_sorted l) ?_
 simp -dsimp [go_sem,hN]
 refine qaj (c_ContainsFunc_Pair l _ _ c_state_absent) (by simp) ?_
 simp -dsimp [go_sem,hN,qbc]
theorem c_state_Get (l:List Pr) (k:qad):APure Tryz.prog 255 [.slice (l.map Pr.c),S k] (.agg (getP l k).c):=by
 refine qaz Tryz.func255 Tryz.ntmps255 rfl (by kernel_rfl) rfl rfl fun E h hN hh hu hb=>?_
 simp [go_sem] at hb
 simp -dsimp [go_sem,hN]
 refine qap l.length (fun n=>getP (l.drop n) k=getP l k) (fun n=>⟨[(0,.slice (l.map Pr.c)),(1,S k),(4,P0 h.length),(7,.slice (l.map Pr.c)),(8,I l.length),(9,I n)],h++[.cells [I 0,I 0,S em]]⟩) (by simp) (Wk.mk (by simp [hh]) (by simp [go_sem]) (by simp [hu,qab hu,go_sem]) (by simp [go_sem])) ?_
 intro n hn hI
 have hw:=qbe hn hb.1.1
 simp -dsimp [go_sem,hN]
 refine cnd ?_ ?_<;>intro hc<;>try simp at hc
 ·
  rw [qag hc,getP] at hI
  simp -dsimp [go_sem,hN,hc]
  refine cnd ?_ ?_<;>intro hg<;>try simp at hg
  ·
   simp -dsimp [go_sem,hN]
   simp [← hI,hg]
  ·
   simp -dsimp [go_sem,hN,hw]
   exact ⟨hc,by simpa [hg] using hI,(Wk.mk (by simp [hh]) (by simp [go_sem]) (by simp [hu,qab hu,go_sem]) (by simp [go_sem]))⟩
 ·
  rw [List.drop_eq_nil_of_le (by omega),getP] at hI
  simp -dsimp [go_sem,hN,← hI]
end Go.Proofs.YtdbpbpmikpdjcaaGreatDoor

set_option maxRecDepth 4000
namespace Go.Proofs.YtdbpbpmikpdjcaaGreatDoor
open Go Go.Abs Go.Cw
theorem c_ref05_Plain (s:qad):APure Tryz.prog 135 [S s] (Bo (qbk s)):=by
 refine qaz Tryz.func135 Tryz.ntmps135 rfl (by kernel_rfl) rfl rfl fun E h hN hh hu hb=>?_
 simp [go_sem] at hb
 simp -dsimp [go_sem,hN]
 refine cnd ?_ ?_<;>intro h0<;>simp at h0
 ·
  simp -dsimp [go_sem,hN]
  simp [qbk,Int.not_le.2 h0]
 simp -dsimp [go_sem,hN]
 refine qap s.size (fun n=>allL okB ((bl s).drop n)=allL okB (bl s)) (fun n=>⟨[(0,S s),(3,I n)],h⟩) (by simp) (Wk.mk (by simp [hh]) (by simp [go_sem]) (by simp [hu,qab hu,go_sem]) (by simp [go_sem])) ?_
 intro n hn hI
 have hw:=qbe hn hb
 simp -dsimp [go_sem,hN]
 refine cnd ?_ ?_<;>intro hc<;>simp at hc
 ·
  rw [bdrop hc,allL] at hI
  simp -dsimp [go_sem,hN,hc]
  refine cnd (fun hg=>?_) (fun hg=>?_)
  ·
   simp -dsimp [go_sem,hN]
   simp [qbk,← hI,okB,hg]
  ·
   simp -dsimp [go_sem,hN,hw]
   exact ⟨hc,by simpa [okB,hg] using hI,(Wk.mk (by simp [hh]) (by simp [go_sem]) (by simp [hu,qab hu,go_sem]) (by simp [go_sem]))⟩
 ·
  rw [bend (by omega),allL] at hI
  simp -dsimp [go_sem,hN,qbk,← hI,h0]
theorem c_ref04_Valid (s:qad):APure Tryz.prog 136 [S s] (Bo (keyOk s)):=by
 refine qaz Tryz.func136 Tryz.ntmps136 rfl (by kernel_rfl) rfl rfl fun E h hN hh hu hb=>?_
 simp [go_sem] at hb
 simp -dsimp [go_sem,hN]
 refine qap s.size (fun n=>allL keyB ((bl s).drop n)=allL keyB (bl s)) (fun n=>⟨[(0,S s),(3,I n)],h⟩) (by simp) (Wk.mk (by simp [hh]) (by simp [go_sem]) (by simp [hu,qab hu,go_sem]) (by simp [go_sem])) ?_
 intro n hn hI
 have hw:=qbe hn hb
 simp -dsimp [go_sem,hN]
 refine cnd ?_ ?_<;>intro hc<;>simp at hc
 ·
  rw [bdrop hc,allL] at hI
  simp -dsimp [go_sem,hN,hc]
  refine ⟨by omega,cnd (fun hg=>?_) (fun hg=>?_)⟩
  ·
   simp -dsimp [go_sem,hN]
   have:keyB (bAt s n)=false:=by
    simp [keyB] at hg ⊢
    omega
   simp [keyOk,← hI,this]
  ·
   simp -dsimp [go_sem,hN,hw]
   have:keyB (bAt s n)=true:=by
    simp [keyB] at hg ⊢
    omega
   exact ⟨hc,by simpa [this] using hI,(Wk.mk (by simp [hh]) (by simp [go_sem]) (by simp [hu,qab hu,go_sem]) (by simp [go_sem]))⟩
 ·
  rw [bend (by omega),allL] at hI
  have e1:s=em∨1≤(s.size:Int):=sz_em s
  rcases e1 with rfl | e1
  · simp -dsimp [go_sem,hN,keyOk]
  ·
   have e2:¬ s=em:=by rintro rfl;simp at e1
   simp -dsimp [go_sem,hN,keyOk,← hI,e1,e2]
theorem c_ref05_Valid (k n:Int) (s:qad):APure Tryz.prog 106 [.agg [I k,I n,S s]] (Bo (valOk k n s)):=by
 refine qaz Tryz.func106 Tryz.ntmps106 rfl (by kernel_rfl) rfl rfl fun E h hN hh hu hb=>?_
 simp -dsimp [go_sem,hN]
 refine cnd ?_ ?_<;>intro h0<;>simp at h0<;>simp -dsimp [go_sem,hN,valOk,h0]
 refine cnd ?_ ?_<;>intro h1<;>simp at h1<;>simp -dsimp [go_sem,hN,valOk,h0,h1]
 refine qaj (c_ref05_Plain s) (by simp) ?_
 by_cases h2:k=2<;>simp -dsimp [go_sem,hN,valOk,h0,h1,h2]
theorem c_ref06_ascending (l:List Pr):APure Tryz.prog 107 [.slice (l.map Pr.c)] (Bo (ascP none l)):=by
 refine qaz Tryz.func107 Tryz.ntmps107 rfl (by kernel_rfl) rfl rfl fun E h hN hh hu hb=>?_
 simp [go_sem] at hb
 simp -dsimp [go_sem,hN]
 refine qap l.length (fun n=>ascP ((qcj l n).map Pr.key) (l.drop n)=ascP none l) (fun n=>⟨[(0,.slice (l.map Pr.c)),(3,I n)],h⟩) (by simp [qcj]) (Wk.mk (by simp [hh]) (by simp [go_sem]) (by simp [hu,qab hu,go_sem]) (by simp [go_sem])) ?_
 intro n hn hI
 have hw:=qbe hn hb.1
 simp -dsimp [go_sem,hN]
 refine cnd ?_ ?_<;>intro hc<;>simp at hc
 ·
  rw [qag hc,ascP] at hI
  simp -dsimp [go_sem,hN,hc]
  refine qak 22 mixed (by kernel_rfl) (by kernel_rfl) ?_
  simp -dsimp [go_sem,hN,hc]
  refine tdcall (c_ref04_Valid _) (by simp) ?_
  cases n with
  | zero =>
   simp -dsimp [go_sem,hN]
   refine cnd ?_ ?_<;>intro hg<;>try simp at hg
   ·
    simp -dsimp [go_sem,hN]
    grind [qcj,after]
   ·
    simp -dsimp [go_sem,hN,hw]
    exact ⟨hc,by simpa [hg,qcj,hc,after] using hI,(Wk.mk (by simp [hh]) (by simp [go_sem]) (by simp [hu,qab hu,go_sem]) (by simp [go_sem]))⟩
  | succ m =>
   have hm:m<l.length:=by omega
   have hw2:=wrapN (Nat.le_of_lt hm) hb.1
   simp at hw
   simp -dsimp [go_sem,hN,hw2,hm,hc]
   refine ⟨fun hk=>⟨hk,by omega⟩,cnd (fun hg=>?_) (fun hg=>?_)⟩<;>rw [sLe_not] at hg<;>simp at hg
   ·
    simp -dsimp [go_sem,hN]
    rw [← hI]
    rcases hg with h1 | h1<;>simp [qcj,hm,after,h1]
   ·
    simp -dsimp [go_sem,hN,hw]
    simp [hg,qcj,hm,after] at hI
    exact ⟨hc,by simpa [qcj,hc] using hI,(Wk.mk (by simp [hh]) (by simp [go_sem]) (by simp [hu,qab hu,go_sem]) (by simp [go_sem]))⟩
 ·
  rw [List.drop_eq_nil_of_le (by omega),ascP] at hI
  simp -dsimp [go_sem,hN,← hI]
theorem c_ref06_ValidWrites (l:List Pr):APure Tryz.prog 63 [.slice (l.map Pr.c)] (Bo (qbx l)):=by
 refine qaz Tryz.func63 Tryz.ntmps63 rfl (by kernel_rfl) rfl rfl fun E h hN hh hu hb=>?_
 simp [go_sem] at hb
 simp -dsimp [go_sem,hN]
 refine qap l.length (fun n=>valsOk (l.drop n)=valsOk l) (fun n=>⟨[(0,.slice (l.map Pr.c)),(3,I n)],h⟩) (by simp) (Wk.mk (by simp [hh]) (by simp [go_sem]) (by simp [hu,qab hu,go_sem]) (by simp [go_sem])) ?_
 intro n hn hI
 have hw:=qbe hn hb.1
 simp -dsimp [go_sem,hN]
 refine cnd ?_ ?_<;>intro hc<;>simp at hc
 ·
  rw [qag hc,valsOk,allL] at hI
  simp -dsimp [go_sem,hN,hc]
  refine qac (c_ref05_Valid _ _ _) ?_
  simp -dsimp [go_sem,hN]
  refine cnd ?_ ?_<;>intro hg<;>simp at hg
  ·
   simp -dsimp [go_sem,hN]
   simp [qbx,← hI,hg]
  ·
   simp -dsimp [go_sem,hN,hw]
   exact ⟨hc,by simpa [hg,valsOk] using hI,(Wk.mk (by simp [hh]) (by simp [go_sem]) (by simp [hu,qab hu,go_sem]) (by simp [go_sem]))⟩
 ·
  rw [List.drop_eq_nil_of_le (by omega),valsOk,allL] at hI
  simp -dsimp [go_sem,hN]
  refine qac (c_ref06_ascending l) ?_
  simp -dsimp [go_sem,hN,qbx,← hI]
theorem c_ref06_Valid (l:List Pr):APure Tryz.prog 62 [.slice (l.map Pr.c)] (Bo (qbc l)):=by
 rw [← stateOkR_eq]
 refine qaz Tryz.func62 Tryz.ntmps62 rfl (by kernel_rfl) rfl rfl fun E h hN hh hu hb=>?_
 simp [go_sem] at hb
 simp -dsimp [go_sem,hN]
 refine qap l.length (fun n=>anyL (fun p=>decide (p.v.k=0)) (l.drop n)=anyL (fun p=>decide (p.v.k=0)) l) (fun n=>⟨[(0,.slice (l.map Pr.c)),(3,I n)],h⟩) (by simp) (Wk.mk (by simp [hh]) (by simp [go_sem]) (by simp [hu,qab hu,go_sem]) (by simp [go_sem])) ?_
 intro n hn hI
 have hw:=qbe hn hb.1
 simp -dsimp [go_sem,hN]
 refine cnd ?_ ?_<;>intro hc<;>simp at hc
 ·
  rw [qag hc,anyL] at hI
  simp -dsimp [go_sem,hN,hc]
  refine cnd ?_ ?_<;>intro hg<;>simp at hg
  ·
   simp -dsimp [go_sem,hN]
   simp [stateOkR,← hI,hg]
  ·
   simp -dsimp [go_sem,hN,hw]
   exact ⟨hc,by simpa [hg] using hI,(Wk.mk (by simp [hh]) (by simp [go_sem]) (by simp [hu,qab hu,go_sem]) (by simp [go_sem]))⟩
 ·
  rw [List.drop_eq_nil_of_le (by omega),anyL] at hI
  simp -dsimp [go_sem,hN]
  refine qac (c_ref06_ValidWrites l) ?_
  simp -dsimp [go_sem,hN,stateOkR,← hI]
theorem c_ref06_Has (l:List Pr) (k:qad):APure Tryz.prog 64 [.slice (l.map Pr.c),S k] (Bo (hasP l k)):=by
 refine qaz Tryz.func64 Tryz.ntmps64 rfl (by kernel_rfl) rfl rfl fun E h hN hh hu hb=>?_
 simp [go_sem] at hb
 simp -dsimp [go_sem,hN]
 refine qap l.length (fun n=>hasP (l.drop n) k=hasP l k) (fun n=>⟨[(0,.slice (l.map Pr.c)),(1,S k),(5,I n)],h⟩) (by simp) (Wk.mk (by simp [hh]) (by simp [go_sem]) (by simp [hu,qab hu,go_sem]) (by simp [go_sem])) ?_
 intro n hn hI
 have hw:=qbe hn hb.1.1
 simp -dsimp [go_sem,hN]
 refine cnd ?_ ?_<;>intro hc<;>simp at hc
 ·
  rw [qag hc,hasP,anyL] at hI
  simp -dsimp [go_sem,hN,hc]
  refine cnd ?_ ?_<;>intro hg<;>simp at hg
  ·
   simp -dsimp [go_sem,hN]
   simp [← hI,hg]
  ·
   simp -dsimp [go_sem,hN,hw]
   exact ⟨hc,by simpa [hg,hasP] using hI,(Wk.mk (by simp [hh]) (by simp [go_sem]) (by simp [hu,qab hu,go_sem]) (by simp [go_sem]))⟩
 ·
  rw [List.drop_eq_nil_of_le (by omega),hasP,anyL] at hI
  simp -dsimp [go_sem,hN,← hI]
theorem c_ref06_with (l:List Pr) (p:Pr) (hB:l.length<68719476736):APure Tryz.prog 65 [.slice (l.map Pr.c),.agg p.c] (.slice ((withP l p).map Pr.c)):=by
 refine qaz Tryz.func65 Tryz.ntmps65 rfl (by kernel_rfl) rfl rfl fun E h hN hh hu hb=>?_
 simp [go_sem] at hb
 simp -dsimp [go_sem,hN]
 refine qap l.length (fun n=>n+posP p.key (l.drop n)=posP p.key l) (fun n=>⟨[(0,.slice (l.map Pr.c)),(3,P0 h.length),(5,I n)],h++[.cells p.c]⟩) (by simp) (Wk.mk (by simp [hh]) (by simp [go_sem]) (by simp [hu,qab hu,go_sem]) (by simp [go_sem])) ?_
 intro n hn hI
 have hw:=qbe hn (Nat.le_of_lt hB)
 simp -dsimp [go_sem,hN]
 refine qak 12 mixed (by kernel_rfl) (by kernel_rfl) ?_
 by_cases hc:n<l.length
 ·
  rw [qag hc,posP] at hI
  simp -dsimp [go_sem,hN,hc]
  refine cnd ?_ ?_<;>intro hg<;>try simp at hg
  ·
   simp -dsimp [go_sem,hN,hw]
   rw [if_pos hg] at hI
   exact ⟨hc,by omega,(Wk.mk (by simp [hh]) (by simp [go_sem]) (by simp [hu,qab hu,go_sem]) (by simp [go_sem]))⟩
  ·
   rw [if_neg (by simp [hg])] at hI
   simp -dsimp [go_sem,hN]
   refine ⟨by omega,by omega,by omega,by omega,by omega,?_⟩
   rw [if_pos (by omega)]
   simp [withP,← hI,Pr.c,List.map_take,List.map_drop]
 ·
  rw [List.drop_eq_nil_of_le (by omega),posP] at hI
  simp -dsimp [go_sem,hN,hc]
  refine ⟨by omega,by omega,by omega,by omega,by omega,?_⟩
  rw [if_pos (by omega)]
  simp [withP,← hI,Pr.c,List.map_take,List.map_drop]
theorem c_ref06_Apply (l w:List Pr) (hB:l.length+w.length<68719476736):APure Tryz.prog 30 [.slice (l.map Pr.c),.slice (w.map Pr.c)]
  (if qbc l&&qbx w then .tuple [.slice ((qc2 l w).map Pr.c),I 0] else .tuple [.slice [],I 1]):=by
 refine qcu Tryz.func30 rfl (by kernel_rfl) (by simp [Tryz.ntmps30]) (by split<;>rfl) ?_
 intro E h hN hh hu hb
 rw [Tryz.ntmps30] at hN
 refine qao _ _ _ ?_
 simp [go_sem] at hb
 simp -dsimp [go_sem,hN]
 refine qac (c_ref06_Valid l) ?_
 simp -dsimp [go_sem,hN]
 refine qaj (c_ref06_ValidWrites w) (by simp) ?_
 simp -dsimp [go_sem,hN]
 refine cnd ?_ ?_<;>intro h0<;>simp at h0
 ·
  simp -dsimp [go_sem,hN]
  grind
 rw [h0.1,h0.2]
 simp -dsimp [go_sem,hN]
 refine qa7 (α:=List Pr) l.length (fun n o=>o++keepP w (l.drop n)=keepP w l∧o.length≤n) (fun n o=>⟨[(0,.slice (l.map Pr.c)),(1,.slice (w.map Pr.c)),(6,.own h.length o.length),(7,I n)],h++[.arr 79 4 (o.map Pr.c)]⟩) [] (by simp) ((nil_wk E _ 6 79 4 rfl).trans (Wk.mk (by simp [hh]) (by simp [go_sem]) (by simp [hu,qab hu,go_sem]) (by simp [go_sem]))) ?_
 intro n o hn ⟨hI,hol⟩
 have hw:=qbe hn hb.1.1
 simp -dsimp [go_sem,hN]
 refine cnd ?_ ?_<;>intro hc<;>simp at hc
 ·
  rw [qag hc,keepP] at hI
  simp -dsimp [go_sem,hN,hc]
  refine qac (c_ref06_Has w _) ?_
  simp -dsimp [go_sem,hN]
  refine cnd ?_ ?_<;>intro hg<;>simp at hg
  ·
   simp -dsimp [go_sem,hN,hc]
   refine ⟨by omega,?_⟩
   simp -dsimp [go_sem,hN,hw]
   exact ⟨o++[l[n]],⟨by simpa [hg] using hI,by simp;omega⟩,(Wk.mk (by simp [hh]) (by simp [go_sem]) (by simp [hu,qab hu,go_sem]) (by simp [go_sem]))⟩
  ·
   simp -dsimp [go_sem,hN,hw]
   exact ⟨hc,o,⟨by simpa [hg] using hI,by omega⟩,(Wk.mk (by simp [hh]) (by simp [go_sem]) (by simp [hu,qab hu,go_sem]) (by simp [go_sem]))⟩
 rw [List.drop_eq_nil_of_le (by omega),keepP,List.append_nil] at hI
 simp -dsimp [go_sem,hN]
 subst hI
 refine qa7 (α:=List Pr) w.length (fun n o=>addP o (w.drop n)=qc2 l w∧o.length≤l.length+n) (fun n o=>⟨[(1,.slice (w.map Pr.c)),(6,.slice (o.map Pr.c)),(8,I n)],h⟩) (keepP w l) (by simp [qc2];omega) ((norm_wk E _).trans (Wk.mk (by simp [hh]) (by simp [go_sem]) (by simp [hu,qab hu,go_sem]) (by simp [go_sem]))) ?_
 intro n o hn ⟨hI,hol⟩
 have hw:=qbe hn hb.2.1
 simp -dsimp [go_sem,hN]
 refine cnd ?_ ?_<;>intro hc<;>simp at hc
 ·
  rw [qag hc,addP] at hI
  simp -dsimp [go_sem,hN,hc]
  refine cnd ?_ ?_<;>intro hg<;>simp at hg
  ·
   simp -dsimp [go_sem,hN,hc]
   refine qac (c_ref06_with o _ (by omega)) ?_
   simp -dsimp [go_sem,hN,hw]
   exact ⟨hc,withP o w[n],⟨by simpa [hg] using hI,by rw [withP_len];omega⟩,(Wk.mk (by simp [hh]) (by simp [go_sem]) (by simp [hu,qab hu,go_sem]) (by simp [go_sem]))⟩
  ·
   simp -dsimp [go_sem,hN,hw]
   exact ⟨hc,o,⟨by simpa [hg] using hI,by omega⟩,(Wk.mk (by simp [hh]) (by simp [go_sem]) (by simp [hu,qab hu,go_sem]) (by simp [go_sem]))⟩
 ·
  rw [List.drop_eq_nil_of_le (by omega),addP] at hI
  simp -dsimp [go_sem,hN,hI]
end Go.Proofs.YtdbpbpmikpdjcaaGreatDoor

set_option maxRecDepth 4000
namespace Go.Proofs.YtdbpbpmikpdjcaaGreatDoor
open Go Go.Abs Go.Cw
theorem c_lexer_letter (c:Int):APure Tryz.prog 244 [.val (.int .i32 c)] (Bo (ltr c)):=by
 refine qaz Tryz.func244 Tryz.ntmps244 rfl (by kernel_rfl) rfl rfl fun E h hN hh hu hb=>?_
 simp -dsimp [go_sem,hN,ltr]
theorem c_lexer_word (s:qad):APure Tryz.prog 245 [S s] (I (wordLen (bl s))):=by
 refine qaz Tryz.func245 Tryz.ntmps245 rfl (by kernel_rfl) rfl rfl fun E h hN hh hu hb=>?_
 simp [go_sem] at hb
 simp -dsimp [go_sem,hN]
 refine qap s.size (fun n=>n+wordLen ((bl s).drop n)=wordLen (bl s)) (fun n=>⟨[(0,S s),(6,P0 h.length)],h++[.iter s n]⟩) (by simp) (Wk.mk (by simp [hh]) (by simp [go_sem]) (by simp [hu,qab hu,go_sem]) (by simp [go_sem])) ?_
 intro n hn hI
 have hw:=qbe hn hb
 simp -dsimp [go_sem,hN]
 by_cases hc:n<s.size
 ·
  rw [bdrop hc,wordLen] at hI
  simp -dsimp [go_sem,hN,hc]
  refine qac (c_lexer_letter _) ?_
  simp -dsimp [go_sem,hN]
  by_cases h8:(bAt s n).toNat<128
  ·
   simp only [dec_lo hc h8]
   refine ⟨by grind,cnd (fun hg=>?_) (fun hg=>?_)⟩
   ·
    have hg':wordI ((bAt s n).toNat:Int)=false:=by simp [wordI] at hg ⊢;grind
    simp -dsimp [go_sem,hN]
    rw [← hI]
    simp [hg']
   ·
    have hg':wordI ((bAt s n).toNat:Int)=true:=by simp [wordI] at hg ⊢;grind
    simp -dsimp [go_sem,hN,hw]
    exact ⟨hc,by rw [if_pos hg'] at hI;omega,(Wk.mk (by simp [hh]) (by simp [go_sem]) (by simp [hu,qab hu,go_sem]) (by simp [go_sem]))⟩
  ·
   have h9:=dec_hi hc h8
   have hg':wordI ((bAt s n).toNat:Int)=false:=by simp [wordI,ltr];omega
   have hl:ltr ((Utf8.decode s n).1:Int)=false:=by simp [ltr];omega
   refine ⟨by grind,cnd (fun hg=>?_) (fun hg=>?_)⟩
   ·
    simp -dsimp [go_sem,hN]
    rw [← hI]
    simp [hg']
   ·
    simp [hl] at hg
    omega
 ·
  rw [bend hc,wordLen] at hI
  simp -dsimp [go_sem,hN,hc]
  have:wordLen (bl s)=s.size:=by omega
  simp [this]
theorem c_lexer_IsKeyword (s:qad):APure Tryz.prog 246 [S s] (Bo (kw s)):=by
 refine qaz Tryz.func246 Tryz.ntmps246 rfl (by kernel_rfl) rfl rfl fun E h hN hh hu hb=>?_
 simp -dsimp [go_sem,hN]
 iterate 25
  refine cnd (fun hg=>?_) (fun hg=>?_)
  ·
   simp at hg
   subst hg
   simp -dsimp [go_sem,hN]
   rfl
  simp -dsimp [go_sem,hN]
  try simp at hg
 simp [kw, *]
theorem c_ast_plain (s:qad):APure Tryz.prog 307 [S s] (Bo (qbk s)):=by
 refine qaz Tryz.func307 Tryz.ntmps307 rfl (by kernel_rfl) rfl rfl fun E h hN hh hu hb=>?_
 simp [go_sem] at hb
 simp -dsimp [go_sem,hN]
 refine qap s.size (fun n=>allL okB ((bl s).drop n)=allL okB (bl s)) (fun n=>⟨[(0,S s),(3,I n)],h⟩) (by simp) (Wk.mk (by simp [hh]) (by simp [go_sem]) (by simp [hu,qab hu,go_sem]) (by simp [go_sem])) ?_
 intro n hn hI
 have hw:=qbe hn hb
 simp -dsimp [go_sem,hN]
 refine cnd ?_ ?_<;>intro hc<;>simp at hc
 ·
  rw [bdrop hc,allL] at hI
  simp -dsimp [go_sem,hN,hc]
  refine cnd (fun hg=>?_) (fun hg=>?_)
  ·
   simp -dsimp [go_sem,hN]
   simp [qbk,← hI,okB,hg]
  ·
   simp -dsimp [go_sem,hN,hw]
   exact ⟨hc,by simpa [okB,hg] using hI,(Wk.mk (by simp [hh]) (by simp [go_sem]) (by simp [hu,qab hu,go_sem]) (by simp [go_sem]))⟩
 ·
  rw [bend (by omega),allL] at hI
  simp -dsimp [go_sem,hN,qbk,← hI]
theorem c_ast_Arity (op:Int):APure Tryz.prog 306 [I op] (I (arity op)):=by
 refine qaz Tryz.func306 Tryz.ntmps306 rfl (by kernel_rfl) rfl rfl fun E h hN hh hu hb=>?_
 simp -dsimp [go_sem,hN]
 refine cnd ?_ ?_<;>intro h0<;>simp at h0<;>simp -dsimp [go_sem,hN,arity,h0]
 refine cnd ?_ ?_<;>intro h1<;>simp at h1<;>simp -dsimp [go_sem,hN,arity,h0,h1]
 refine cnd ?_ ?_<;>intro h2<;>simp at h2<;>simp -dsimp [go_sem,hN,arity]
 · rw [if_neg (by omega),if_neg (by omega),if_pos (by omega)]
 · rw [if_neg (by omega),if_neg (by omega),if_neg (by omega)]
theorem c_lexer_IsName (s:qad):APure Tryz.prog 210 [S s] (Bo (nameOk s)):=by
 refine qaz Tryz.func210 Tryz.ntmps210 rfl (by kernel_rfl) rfl rfl fun E h hN hh hu hb=>?_
 rcases sz_em s with rfl | h1
 ·
  simp -dsimp [go_sem,hN,nameOk]
  refine tgcall_if .top (by simp) (by simp) ?_
  simp -dsimp [go_sem,hN]
  refine tgcall_if .top (by simp) (by simp) ?_
  simp -dsimp [go_sem,hN]
  refine tgcall_if .top (by simp) (by simp) ?_
  simp -dsimp [go_sem,hN,nameOk]
 ·
  have h1':0<s.size:=by omega
  have he:¬ s=em:=by rintro rfl;simp at h1
  simp -dsimp [go_sem,hN,h1',he]
  refine qaj (c_lexer_letter _) (by simp) ?_
  simp -dsimp [go_sem,hN]
  refine qaj (c_lexer_word s) (by simp) ?_
  simp -dsimp [go_sem,hN]
  refine qaj (c_lexer_IsKeyword s) (by simp) ?_
  simp -dsimp [go_sem,hN,nameOk,he]
theorem c_ast_node (op n:Int) (s:qad) (args:List Ex) (d:Nat):APure Tryz.prog 296 [.agg [I op,I n,S s,.slice (args.map Ex.c)],I d] (I (qcp op n s args.length d)):=by
 refine qaz Tryz.func296 Tryz.ntmps296 rfl (by kernel_rfl) rfl rfl fun E h hN hh hu hb=>?_
 simp -dsimp [go_sem,hN]
 refine qac (c_ast_Arity _) ?_
 simp -dsimp [go_sem,hN]
 repeat refine ⟨by grind,?_⟩
 refine cnd (fun h0=>?_) (fun h0=>?_)
 ·
  simp -dsimp [go_sem,hN]
  simp at h0
  rw [qcp,if_pos (by grind)]
 have h0':¬ (arity op<0∨(op≠1∧n≠0)∨(op≠2∧op≠3∧s≠em)):=by simp at h0;grind
 simp -dsimp [go_sem,hN]
 refine qaj (c_lexer_IsName s) (by simp) ?_
 simp -dsimp [go_sem,hN]
 refine cnd (fun h1=>?_) (fun h1=>?_)
 ·
  simp -dsimp [go_sem,hN]
  simp at h1
  rw [qcp,if_neg h0',if_pos (by grind)]
 have h1':¬ (op=3∧nameOk s=false):=by simp at h1;grind
 simp -dsimp [go_sem,hN]
 repeat refine ⟨by grind,?_⟩
 refine qaj (c_ast_plain s) (by simp) ?_
 simp -dsimp [go_sem,hN]
 repeat refine ⟨by grind,?_⟩
 refine cnd (fun h2=>?_) (fun h2=>?_)
 ·
  simp -dsimp [go_sem,hN]
  simp at h2
  rw [qcp,if_neg h0',if_neg h1',if_pos (by grind)]
 have h2':¬ ((op=1∧n<0)∨(op=2∧qbk s=false)∨(args.length:Int)≠arity op):=by simp at h2;grind
 simp -dsimp [go_sem,hN]
 refine cnd ?_ ?_<;>intro h3<;>simp at h3
 ·
  simp -dsimp [go_sem,hN]
  rw [qcp,if_neg h0',if_neg h1',if_neg h2',if_pos (by omega)]
 ·
  simp -dsimp [go_sem,hN]
  rw [qcp,if_neg h0',if_neg h1',if_neg h2',if_neg (by omega)]
theorem c_ast_check (e:Ex) (d:Nat):APure Tryz.prog 282 [.agg [I e.op,I e.n,S e.s,.slice (e.args.map Ex.c)],I d] (I (chkE e d)):=by
 refine qaz Tryz.func282 Tryz.ntmps282 rfl (by kernel_rfl) rfl rfl fun E h hN hh hu hb=>?_
 simp [go_sem] at hb
 simp -dsimp [go_sem,hN]
 refine qac (c_ast_node _ _ _ _ _) ?_
 simp -dsimp [go_sem,hN]
 refine cnd ?_ ?_<;>intro h0<;>simp at h0
 ·
  simp -dsimp [go_sem,hN]
  rw [chkE_eq,if_neg h0]
 have hd:d≤12:=by
  unfold qcp at h0
  grind
 simp -dsimp [go_sem,hN]
 refine qap e.args.length (fun n=>chkL (e.args.drop n) (d+1)=chkL e.args (d+1)) (fun n=>⟨[(1,I d),(16,.slice (e.args.map Ex.c)),(17,I e.args.length),(18,I n)],h⟩) (by simp) (Wk.mk (by simp [hh]) (by simp [go_sem]) (by simp [hu,qab hu,go_sem]) (by simp [go_sem])) ?_
 intro n hn hI
 have hw:=qbe hn hb.2.1
 have hw2:IntKind.i64.wrap ((d:Int)+1)=((d+1:Nat):Int):=by rw [wrapI (by omega) (by omega)];rfl
 simp -dsimp [go_sem,hN]
 refine cnd ?_ ?_<;>intro hc<;>simp at hc
 ·
  rw [qag hc,chkL] at hI
  simp -dsimp [go_sem,hN,hc,hw2]
  have hlt:SizeOf.sizeOf e.args[n]<SizeOf.sizeOf e:=Ex.arg_lt (List.getElem_mem hc)
  refine qac (c_ast_check e.args[n] (d+1)) ?_
  simp -dsimp [go_sem,hN]
  refine cnd ?_ ?_<;>intro hg<;>simp at hg
  ·
   simp -dsimp [go_sem,hN]
   rw [chkE_eq e,if_pos h0,← hI,if_neg hg]
  ·
   simp -dsimp [go_sem,hN,hw]
   exact ⟨hc,by simpa [hg] using hI,(Wk.mk (by simp [hh]) (by simp [go_sem]) (by simp [hu,qab hu,go_sem]) (by simp [go_sem]))⟩
 ·
  rw [List.drop_eq_nil_of_le (by omega),chkL] at hI
  simp -dsimp [go_sem,hN]
  rw [chkE_eq e,if_pos h0,← hI]
termination_by SizeOf.sizeOf e
theorem c_ast_ValidExpr (e:Ex):APure Tryz.prog 252 [.agg [I e.op,I e.n,S e.s,.slice (e.args.map Ex.c)]] (I (chkE e 1)):=by
 refine qaz Tryz.func252 Tryz.ntmps252 rfl (by kernel_rfl) rfl rfl fun E h hN hh hu hb=>?_
 simp -dsimp [go_sem,hN]
 refine qac (c_ast_check e 1) ?_
 simp -dsimp [go_sem,hN]
end Go.Proofs.YtdbpbpmikpdjcaaGreatDoor

set_option maxRecDepth 4000
namespace Go.Proofs.YtdbpbpmikpdjcaaGreatDoor
open Go Go.Abs Go.Cw
theorem c_ast_usesOf (op:Int):APure Tryz.prog 250 [I op] (.tuple [.agg (qbz op).1.c,Bo (qbz op).2]):=by
 refine qaz Tryz.func250 Tryz.ntmps250 rfl (by kernel_rfl) rfl rfl fun E h hN hh hu hb=>?_
 by_cases h1:op=1
 · subst h1;simp -dsimp [go_sem,hN,qbz]
 by_cases h2:op=2
 · subst h2;simp -dsimp [go_sem,hN,qbz]
 by_cases h3:op=3
 · subst h3;simp -dsimp [go_sem,hN,qbz]
 by_cases h4:op=4
 · subst h4;simp -dsimp [go_sem,hN,qbz]
 by_cases h7:op=7
 · subst h7;simp -dsimp [go_sem,hN,qbz]
 by_cases h5:op=5
 · subst h5;simp -dsimp [go_sem,hN,qbz]
 by_cases h6:op=6
 · subst h6;simp -dsimp [go_sem,hN,qbz]
 by_cases h8:op=8
 · subst h8;simp -dsimp [go_sem,hN,qbz]
 simp -dsimp [go_sem,hN,qbz,h1,h2,h3,h4,h5,h6,h7,h8]
theorem c_ast_absent (e:Ex):APure Tryz.prog 281 [.agg e.x] (Bo (absE e)):=by
 refine qaz Tryz.func281 Tryz.ntmps281 rfl (by kernel_rfl) rfl rfl fun E h hN hh hu hb=>?_
 simp -dsimp [go_sem,hN,absE]
 try grind
theorem c_ast_shape (s:St) (u:Uses):APure Tryz.prog 251 [.agg s.x,.agg u.c] (Bo (shapeOk s u)):=by
 refine qaz Tryz.func251 Tryz.ntmps251 rfl (by kernel_rfl) rfl rfl fun E h hN hh hu hb=>?_
 simp -dsimp [go_sem,hN]
 repeat refine ⟨by grind,?_⟩
 refine qaj (c_ast_absent s.a) (by simp) ?_
 simp -dsimp [go_sem,hN]
 repeat refine ⟨by grind,?_⟩
 refine qaj (c_ast_absent s.b) (by simp) ?_
 simp -dsimp [go_sem,hN]
 repeat refine ⟨by grind,?_⟩
 refine cnd (fun h0=>?_) (fun h0=>?_)
 ·
  simp -dsimp [go_sem,hN]
  simp [shapeOk] at h0 ⊢
  grind
 ·
  simp -dsimp [go_sem,hN]
  refine cnd ?_ ?_<;>intro h1<;>simp at h1<;>simp -dsimp [go_sem,hN,h1]
  ·
   simp [shapeOk,h1] at h0 ⊢
   grind
  ·
   refine cnd ?_ ?_<;>intro h2<;>simp at h2<;>simp -dsimp [go_sem,hN,h2]
   ·
    simp [shapeOk,h1,h2] at h0 ⊢
    grind
   ·
    simp [shapeOk,h1,h2] at h0 ⊢
    grind
end Go.Proofs.YtdbpbpmikpdjcaaGreatDoor
