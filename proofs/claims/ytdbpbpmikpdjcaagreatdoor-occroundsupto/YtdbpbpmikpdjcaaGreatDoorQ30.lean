/- Part 30 of a proof: Ty, W1 -/
import Derived.Test.YtdbpbpmikpdjcaaGreatDoorProg
import Derived.KernelRfl
import Derived.Test.YtdbpbpmikpdjcaaGreatDoorQ09
import Derived.Test.YtdbpbpmikpdjcaaGreatDoorQ13
import Derived.Test.YtdbpbpmikpdjcaaGreatDoorQ19
set_option linter.all false

namespace Go.Proofs.YtdbpbpmikpdjcaaGreatDoor
open Go Go.Abs
@[simp] theorem tk1:qaj Tryz.prog 1=.func:=by kernel_rfl
@[simp] theorem ts1:qar Tryz.prog 1=1:=by kernel_rfl
@[simp] theorem tz1:qa4 Tryz.prog 1=[.val .nilFunc]:=by kernel_rfl
@[simp] theorem tb1:qap Tryz.prog 1=8:=by kernel_rfl
@[simp] theorem tk2:qaj Tryz.prog 2=.int .i64:=by kernel_rfl
@[simp] theorem ts2:qar Tryz.prog 2=1:=by kernel_rfl
@[simp] theorem tz2:qa4 Tryz.prog 2=[.val (.int .i64 0)]:=by kernel_rfl
@[simp] theorem tb2:qap Tryz.prog 2=8:=by kernel_rfl
@[simp] theorem tk3:qaj Tryz.prog 3=.int .i64:=by kernel_rfl
@[simp] theorem ts3:qar Tryz.prog 3=1:=by kernel_rfl
@[simp] theorem tz3:qa4 Tryz.prog 3=[.val (.int .i64 0)]:=by kernel_rfl
@[simp] theorem tb3:qap Tryz.prog 3=8:=by kernel_rfl
@[simp] theorem tk4:qaj Tryz.prog 4=.bool:=by kernel_rfl
@[simp] theorem ts4:qar Tryz.prog 4=1:=by kernel_rfl
@[simp] theorem tz4:qa4 Tryz.prog 4=[.val (.bool false)]:=by kernel_rfl
@[simp] theorem tb4:qap Tryz.prog 4=1:=by kernel_rfl
@[simp] theorem tk5:qaj Tryz.prog 5=.int .u8:=by kernel_rfl
@[simp] theorem ts5:qar Tryz.prog 5=1:=by kernel_rfl
@[simp] theorem tz5:qa4 Tryz.prog 5=[.val (.int .u8 0)]:=by kernel_rfl
@[simp] theorem tb5:qap Tryz.prog 5=1:=by kernel_rfl
@[simp] theorem tk9:qaj Tryz.prog 9=.string:=by kernel_rfl
@[simp] theorem ts9:qar Tryz.prog 9=1:=by kernel_rfl
@[simp] theorem tz9:qa4 Tryz.prog 9=[.val (.string ⟨#[]⟩)]:=by kernel_rfl
@[simp] theorem tb9:qap Tryz.prog 9=16:=by kernel_rfl
@[simp] theorem tk20:qaj Tryz.prog 20=.iface:=by kernel_rfl
@[simp] theorem ts20:qar Tryz.prog 20=1:=by kernel_rfl
@[simp] theorem tz20:qa4 Tryz.prog 20=[.val .nilIface]:=by kernel_rfl
@[simp] theorem tb20:qap Tryz.prog 20=16:=by kernel_rfl
@[simp] theorem tk21:qaj Tryz.prog 21=.int .i32:=by kernel_rfl
@[simp] theorem ts21:qar Tryz.prog 21=1:=by kernel_rfl
@[simp] theorem tz21:qa4 Tryz.prog 21=[.val (.int .i32 0)]:=by kernel_rfl
@[simp] theorem tb21:qap Tryz.prog 21=4:=by kernel_rfl
@[simp] theorem tk22:qaj Tryz.prog 22=.slice 68 3:=by kernel_rfl
@[simp] theorem ts22:qar Tryz.prog 22=1:=by kernel_rfl
@[simp] theorem tz22:qa4 Tryz.prog 22=[.nils]:=by kernel_rfl
@[simp] theorem tb22:qap Tryz.prog 22=24:=by kernel_rfl
@[simp] theorem tk23:qaj Tryz.prog 23=.slice 79 4:=by kernel_rfl
@[simp] theorem ts23:qar Tryz.prog 23=1:=by kernel_rfl
@[simp] theorem tz23:qa4 Tryz.prog 23=[.nils]:=by kernel_rfl
@[simp] theorem tb23:qap Tryz.prog 23=24:=by kernel_rfl
@[simp] theorem tk24:qaj Tryz.prog 24=.slice 41 7:=by kernel_rfl
@[simp] theorem ts24:qar Tryz.prog 24=1:=by kernel_rfl
@[simp] theorem tz24:qa4 Tryz.prog 24=[.nils]:=by kernel_rfl
@[simp] theorem tb24:qap Tryz.prog 24=24:=by kernel_rfl
@[simp] theorem tk25:qaj Tryz.prog 25=.struct [(0,1),(1,1),(2,1)]:=by kernel_rfl
@[simp] theorem ts25:qar Tryz.prog 25=3:=by kernel_rfl
@[simp] theorem tz25:qa4 Tryz.prog 25=[.nils,.nils,.nils]:=by kernel_rfl
@[simp] theorem tb25:qap Tryz.prog 25=72:=by kernel_rfl
@[simp] theorem tk26:qaj Tryz.prog 26=.struct [(0,1),(1,1),(2,1)]:=by kernel_rfl
@[simp] theorem ts26:qar Tryz.prog 26=3:=by kernel_rfl
@[simp] theorem tz26:qa4 Tryz.prog 26=[.nils,.nils,.nils]:=by kernel_rfl
@[simp] theorem tb26:qap Tryz.prog 26=72:=by kernel_rfl
@[simp] theorem tk27:qaj Tryz.prog 27=.slice 45 8:=by kernel_rfl
@[simp] theorem ts27:qar Tryz.prog 27=1:=by kernel_rfl
@[simp] theorem tz27:qa4 Tryz.prog 27=[.nils]:=by kernel_rfl
@[simp] theorem tb27:qap Tryz.prog 27=24:=by kernel_rfl
@[simp] theorem tk28:qaj Tryz.prog 28=.slice 4 1:=by kernel_rfl
@[simp] theorem ts28:qar Tryz.prog 28=1:=by kernel_rfl
@[simp] theorem tz28:qa4 Tryz.prog 28=[.nils]:=by kernel_rfl
@[simp] theorem tb28:qap Tryz.prog 28=24:=by kernel_rfl
@[simp] theorem tk36:qaj Tryz.prog 36=.slice 77 3:=by kernel_rfl
@[simp] theorem ts36:qar Tryz.prog 36=1:=by kernel_rfl
@[simp] theorem tz36:qa4 Tryz.prog 36=[.nils]:=by kernel_rfl
@[simp] theorem tb36:qap Tryz.prog 36=24:=by kernel_rfl
@[simp] theorem tk37:qaj Tryz.prog 37=.slice 9 1:=by kernel_rfl
@[simp] theorem ts37:qar Tryz.prog 37=1:=by kernel_rfl
@[simp] theorem tz37:qa4 Tryz.prog 37=[.nils]:=by kernel_rfl
@[simp] theorem tb37:qap Tryz.prog 37=24:=by kernel_rfl
@[simp] theorem tk39:qaj Tryz.prog 39=.struct [(0,1),(1,1),(2,1)]:=by kernel_rfl
@[simp] theorem ts39:qar Tryz.prog 39=3:=by kernel_rfl
@[simp] theorem tz39:qa4 Tryz.prog 39=[.val (.bool false),.nils,.nils]:=by kernel_rfl
@[simp] theorem tb39:qap Tryz.prog 39=56:=by kernel_rfl
@[simp] theorem tk41:qaj Tryz.prog 41=.struct [(0,1),(1,1),(2,1),(3,3),(6,1)]:=by kernel_rfl
@[simp] theorem ts41:qar Tryz.prog 41=7:=by kernel_rfl
@[simp] theorem tz41:qa4 Tryz.prog 41=[.val (.int .i64 0),.val (.string ⟨#[]⟩),.nils,.val (.bool false),.nils,.nils,.val (.int .i64 0)]:=by kernel_rfl
@[simp] theorem tb41:qap Tryz.prog 41=112:=by kernel_rfl
@[simp] theorem tk43:qaj Tryz.prog 43=.struct [(0,1),(1,1),(2,1)]:=by kernel_rfl
@[simp] theorem ts43:qar Tryz.prog 43=3:=by kernel_rfl
@[simp] theorem tz43:qa4 Tryz.prog 43=[.val (.int .i64 0),.val (.int .i64 0),.nils]:=by kernel_rfl
@[simp] theorem tb43:qap Tryz.prog 43=40:=by kernel_rfl
@[simp] theorem tk45:qaj Tryz.prog 45=.struct [(0,3),(3,1),(4,1),(5,1),(6,1),(7,1)]:=by kernel_rfl
@[simp] theorem ts45:qar Tryz.prog 45=8:=by kernel_rfl
@[simp] theorem tz45:qa4 Tryz.prog 45=[.val (.int .i64 0),.val (.int .i64 0),.nils,.nils,.nils,.nils,.val (.string ⟨#[]⟩),.val (.int .i64 0)]:=by kernel_rfl
@[simp] theorem tb45:qap Tryz.prog 45=136:=by kernel_rfl
@[simp] theorem tk52:qaj Tryz.prog 52=.slice 61 5:=by kernel_rfl
@[simp] theorem ts52:qar Tryz.prog 52=1:=by kernel_rfl
@[simp] theorem tz52:qa4 Tryz.prog 52=[.nils]:=by kernel_rfl
@[simp] theorem tb52:qap Tryz.prog 52=24:=by kernel_rfl
@[simp] theorem tk57:qaj Tryz.prog 57=.int .i64:=by kernel_rfl
@[simp] theorem ts57:qar Tryz.prog 57=1:=by kernel_rfl
@[simp] theorem tz57:qa4 Tryz.prog 57=[.val (.int .i64 0)]:=by kernel_rfl
@[simp] theorem tb57:qap Tryz.prog 57=8:=by kernel_rfl
@[simp] theorem tk61:qaj Tryz.prog 61=.struct [(0,1),(1,1),(2,3)]:=by kernel_rfl
@[simp] theorem ts61:qar Tryz.prog 61=5:=by kernel_rfl
@[simp] theorem tz61:qa4 Tryz.prog 61=[.val (.int .i64 0),.val (.int .i64 0),.val (.int .i64 0),.val (.int .i64 0),.nils]:=by kernel_rfl
@[simp] theorem tb61:qap Tryz.prog 61=56:=by kernel_rfl
@[simp] theorem tk65:qaj Tryz.prog 65=.slice 116 2:=by kernel_rfl
@[simp] theorem ts65:qar Tryz.prog 65=1:=by kernel_rfl
@[simp] theorem tz65:qa4 Tryz.prog 65=[.nils]:=by kernel_rfl
@[simp] theorem tb65:qap Tryz.prog 65=24:=by kernel_rfl
@[simp] theorem tk66:qaj Tryz.prog 66=.slice 118 13:=by kernel_rfl
@[simp] theorem ts66:qar Tryz.prog 66=1:=by kernel_rfl
@[simp] theorem tz66:qa4 Tryz.prog 66=[.nils]:=by kernel_rfl
@[simp] theorem tb66:qap Tryz.prog 66=24:=by kernel_rfl
@[simp] theorem tk68:qaj Tryz.prog 68=.struct [(0,1),(1,1),(2,1)]:=by kernel_rfl
@[simp] theorem ts68:qar Tryz.prog 68=3:=by kernel_rfl
@[simp] theorem tz68:qa4 Tryz.prog 68=[.val (.string ⟨#[]⟩),.nils,.nils]:=by kernel_rfl
@[simp] theorem tb68:qap Tryz.prog 68=64:=by kernel_rfl
@[simp] theorem tk77:qaj Tryz.prog 77=.struct [(0,1),(1,1),(2,1)]:=by kernel_rfl
@[simp] theorem ts77:qar Tryz.prog 77=3:=by kernel_rfl
@[simp] theorem tz77:qa4 Tryz.prog 77=[.val (.int .i64 0),.val (.int .i64 0),.val (.string ⟨#[]⟩)]:=by kernel_rfl
@[simp] theorem fl77:flatOf Tryz.prog 77=[.int .i64,.int .i64,.string]:=by kernel_rfl
@[simp] theorem tb77:qap Tryz.prog 77=32:=by kernel_rfl
@[simp] theorem tk79:qaj Tryz.prog 79=.struct [(0,1),(1,3)]:=by kernel_rfl
@[simp] theorem ts79:qar Tryz.prog 79=4:=by kernel_rfl
@[simp] theorem tz79:qa4 Tryz.prog 79=[.val (.string ⟨#[]⟩),.val (.int .i64 0),.val (.int .i64 0),.val (.string ⟨#[]⟩)]:=by kernel_rfl
@[simp] theorem fl79:flatOf Tryz.prog 79=[.string,.int .i64,.int .i64,.string]:=by kernel_rfl
@[simp] theorem tb79:qap Tryz.prog 79=48:=by kernel_rfl
@[simp] theorem tk89:qaj Tryz.prog 89=.func:=by kernel_rfl
@[simp] theorem ts89:qar Tryz.prog 89=1:=by kernel_rfl
@[simp] theorem tz89:qa4 Tryz.prog 89=[.val .nilFunc]:=by kernel_rfl
@[simp] theorem tb89:qap Tryz.prog 89=8:=by kernel_rfl
@[simp] theorem tk92:qaj Tryz.prog 92=.func:=by kernel_rfl
@[simp] theorem ts92:qar Tryz.prog 92=1:=by kernel_rfl
@[simp] theorem tz92:qa4 Tryz.prog 92=[.val .nilFunc]:=by kernel_rfl
@[simp] theorem tb92:qap Tryz.prog 92=8:=by kernel_rfl
@[simp] theorem tk94:qaj Tryz.prog 94=.struct [(0,1)]:=by kernel_rfl
@[simp] theorem ts94:qar Tryz.prog 94=1:=by kernel_rfl
@[simp] theorem tz94:qa4 Tryz.prog 94=[.val .nilFunc]:=by kernel_rfl
@[simp] theorem tb94:qap Tryz.prog 94=8:=by kernel_rfl
@[simp] theorem tk96:qaj Tryz.prog 96=.slice 3 1:=by kernel_rfl
@[simp] theorem ts96:qar Tryz.prog 96=1:=by kernel_rfl
@[simp] theorem tz96:qa4 Tryz.prog 96=[.nils]:=by kernel_rfl
@[simp] theorem tb96:qap Tryz.prog 96=24:=by kernel_rfl
@[simp] theorem tk106:qaj Tryz.prog 106=.func:=by kernel_rfl
@[simp] theorem ts106:qar Tryz.prog 106=1:=by kernel_rfl
@[simp] theorem tz106:qa4 Tryz.prog 106=[.val .nilFunc]:=by kernel_rfl
@[simp] theorem tb106:qap Tryz.prog 106=8:=by kernel_rfl
@[simp] theorem tk107:qaj Tryz.prog 107=.func:=by kernel_rfl
@[simp] theorem ts107:qar Tryz.prog 107=1:=by kernel_rfl
@[simp] theorem tz107:qa4 Tryz.prog 107=[.val .nilFunc]:=by kernel_rfl
@[simp] theorem tb107:qap Tryz.prog 107=8:=by kernel_rfl
@[simp] theorem tk109:qaj Tryz.prog 109=.func:=by kernel_rfl
@[simp] theorem ts109:qar Tryz.prog 109=1:=by kernel_rfl
@[simp] theorem tz109:qa4 Tryz.prog 109=[.val .nilFunc]:=by kernel_rfl
@[simp] theorem tb109:qap Tryz.prog 109=8:=by kernel_rfl
@[simp] theorem tk110:qaj Tryz.prog 110=.func:=by kernel_rfl
@[simp] theorem ts110:qar Tryz.prog 110=1:=by kernel_rfl
@[simp] theorem tz110:qa4 Tryz.prog 110=[.val .nilFunc]:=by kernel_rfl
@[simp] theorem tb110:qap Tryz.prog 110=8:=by kernel_rfl
@[simp] theorem tk112:qaj Tryz.prog 112=.slice 114 4:=by kernel_rfl
@[simp] theorem ts112:qar Tryz.prog 112=1:=by kernel_rfl
@[simp] theorem tz112:qa4 Tryz.prog 112=[.nils]:=by kernel_rfl
@[simp] theorem tb112:qap Tryz.prog 112=24:=by kernel_rfl
@[simp] theorem tk114:qaj Tryz.prog 114=.struct [(0,1),(1,1),(2,1),(3,1)]:=by kernel_rfl
@[simp] theorem ts114:qar Tryz.prog 114=4:=by kernel_rfl
@[simp] theorem tz114:qa4 Tryz.prog 114=[.val (.int .i64 0),.val (.int .i64 0),.val (.string ⟨#[]⟩),.nils]:=by kernel_rfl
@[simp] theorem tb114:qap Tryz.prog 114=56:=by kernel_rfl
@[simp] theorem tk116:qaj Tryz.prog 116=.struct [(0,1),(1,1)]:=by kernel_rfl
@[simp] theorem ts116:qar Tryz.prog 116=2:=by kernel_rfl
@[simp] theorem tz116:qa4 Tryz.prog 116=[.val (.string ⟨#[]⟩),.val (.int .i64 0)]:=by kernel_rfl
@[simp] theorem fl116:flatOf Tryz.prog 116=[.string,.int .i64]:=by kernel_rfl
@[simp] theorem tb116:qap Tryz.prog 116=24:=by kernel_rfl
@[simp] theorem tk118:qaj Tryz.prog 118=.struct [(0,1),(1,1),(2,1),(3,4),(7,4),(11,1),(12,1)]:=by kernel_rfl
@[simp] theorem ts118:qar Tryz.prog 118=13:=by kernel_rfl
@[simp] theorem tz118:qa4 Tryz.prog 118=[.val (.int .i64 0),.val (.string ⟨#[]⟩),.val (.int .i64 0),.val (.int .i64 0),.val (.int .i64 0),.val (.string ⟨#[]⟩),.nils,.val (.int .i64 0),.val (.int .i64 0),.val (.string ⟨#[]⟩),.nils,.nils,.nils]:=by kernel_rfl
@[simp] theorem tb118:qap Tryz.prog 118=192:=by kernel_rfl
@[simp] theorem tk120:qaj Tryz.prog 120=.ptr:=by kernel_rfl
@[simp] theorem ts120:qar Tryz.prog 120=1:=by kernel_rfl
@[simp] theorem tz120:qa4 Tryz.prog 120=[.val (.pointer none)]:=by kernel_rfl
@[simp] theorem tb120:qap Tryz.prog 120=8:=by kernel_rfl
@[simp] theorem tk122:qaj Tryz.prog 122=.map 9 77:=by kernel_rfl
@[simp] theorem ts122:qar Tryz.prog 122=1:=by kernel_rfl
@[simp] theorem tz122:qa4 Tryz.prog 122=[.val (.map none)]:=by kernel_rfl
@[simp] theorem tb122:qap Tryz.prog 122=8:=by kernel_rfl
@[simp] theorem tk124:qaj Tryz.prog 124=.struct [(0,1),(1,3),(4,1),(5,1),(6,8)]:=by kernel_rfl
@[simp] theorem ts124:qar Tryz.prog 124=14:=by kernel_rfl
@[simp] theorem tz124:qa4 Tryz.prog 124=[.nils,.val (.bool false),.nils,.nils,.val (.map none),.val (.map none),.val (.int .i64 0),.val (.int .i64 0),.nils,.nils,.nils,.nils,.val (.string ⟨#[]⟩),.val (.int .i64 0)]:=by kernel_rfl
@[simp] theorem tb124:qap Tryz.prog 124=232:=by kernel_rfl
@[simp] theorem tk127:qaj Tryz.prog 127=.struct [(0,3),(3,1)]:=by kernel_rfl
@[simp] theorem ts127:qar Tryz.prog 127=4:=by kernel_rfl
@[simp] theorem tz127:qa4 Tryz.prog 127=[.val (.int .i64 0),.val (.int .i64 0),.nils,.val (.string ⟨#[]⟩)]:=by kernel_rfl
@[simp] theorem tb127:qap Tryz.prog 127=56:=by kernel_rfl
@[simp] theorem tk133:qaj Tryz.prog 133=.struct [(0,1),(1,3),(4,1),(5,1),(6,8)]:=by kernel_rfl
@[simp] theorem ts133:qar Tryz.prog 133=14:=by kernel_rfl
@[simp] theorem tz133:qa4 Tryz.prog 133=[.nils,.val (.bool false),.nils,.nils,.nils,.nils,.val (.int .i64 0),.val (.int .i64 0),.nils,.nils,.nils,.nils,.val (.string ⟨#[]⟩),.val (.int .i64 0)]:=by kernel_rfl
@[simp] theorem tb133:qap Tryz.prog 133=264:=by kernel_rfl
@[simp] theorem tk143:qaj Tryz.prog 143=.array 4 3 1:=by kernel_rfl
@[simp] theorem ts143:qar Tryz.prog 143=4:=by kernel_rfl
@[simp] theorem tz143:qa4 Tryz.prog 143=[.val (.int .i64 0),.val (.int .i64 0),.val (.int .i64 0),.val (.int .i64 0)]:=by kernel_rfl
@[simp] theorem tb143:qap Tryz.prog 143=32:=by kernel_rfl
@[simp] theorem tk146:qaj Tryz.prog 146=.struct [(0,1),(1,1),(2,1),(3,1)]:=by kernel_rfl
@[simp] theorem ts146:qar Tryz.prog 146=4:=by kernel_rfl
@[simp] theorem tz146:qa4 Tryz.prog 146=[.val (.int .i64 0),.val (.int .i64 0),.val (.int .i64 0),.val (.int .i64 0)]:=by kernel_rfl
@[simp] theorem fl146:flatOf Tryz.prog 146=[.int .i64,.int .i64,.int .i64,.int .i64]:=by kernel_rfl
@[simp] theorem tb146:qap Tryz.prog 146=32:=by kernel_rfl
@[simp] theorem tk155:qaj Tryz.prog 155=.struct [(0,1),(1,1)]:=by kernel_rfl
@[simp] theorem ts155:qar Tryz.prog 155=2:=by kernel_rfl
@[simp] theorem tz155:qa4 Tryz.prog 155=[.nils,.nils]:=by kernel_rfl
@[simp] theorem tb155:qap Tryz.prog 155=48:=by kernel_rfl
@[simp] theorem tk170:qaj Tryz.prog 170=.func:=by kernel_rfl
@[simp] theorem ts170:qar Tryz.prog 170=1:=by kernel_rfl
@[simp] theorem tz170:qa4 Tryz.prog 170=[.val .nilFunc]:=by kernel_rfl
@[simp] theorem tb170:qap Tryz.prog 170=8:=by kernel_rfl
@[simp] theorem tk171:qaj Tryz.prog 171=.map 9 3:=by kernel_rfl
@[simp] theorem ts171:qar Tryz.prog 171=1:=by kernel_rfl
@[simp] theorem tz171:qa4 Tryz.prog 171=[.val (.map none)]:=by kernel_rfl
@[simp] theorem tb171:qap Tryz.prog 171=8:=by kernel_rfl
@[simp] theorem tk180:qaj Tryz.prog 180=.slice 183 20:=by kernel_rfl
@[simp] theorem ts180:qar Tryz.prog 180=1:=by kernel_rfl
@[simp] theorem tz180:qa4 Tryz.prog 180=[.nils]:=by kernel_rfl
@[simp] theorem tb180:qap Tryz.prog 180=24:=by kernel_rfl
@[simp] theorem tk183:qaj Tryz.prog 183=.struct [(0,1),(1,13),(14,1),(15,4),(19,1)]:=by kernel_rfl
@[simp] theorem ts183:qar Tryz.prog 183=20:=by kernel_rfl
@[simp] theorem tz183:qa4 Tryz.prog 183=[.val (.bool false),.val (.int .i64 0),.val (.string ⟨#[]⟩),.val (.int .i64 0),.val (.int .i64 0),.val (.int .i64 0),.val (.string ⟨#[]⟩),.nils,.val (.int .i64 0),.val (.int .i64 0),.val (.string ⟨#[]⟩),.nils,.nils,.nils,.val (.int .i64 0),.val (.int .i64 0),.val (.int .i64 0),.val (.string ⟨#[]⟩),.nils,.val (.bool false)]:=by kernel_rfl
@[simp] theorem tb183:qap Tryz.prog 183=272:=by kernel_rfl
@[simp] theorem tk207:qaj Tryz.prog 207=.ptr:=by kernel_rfl
@[simp] theorem ts207:qar Tryz.prog 207=1:=by kernel_rfl
@[simp] theorem tz207:qa4 Tryz.prog 207=[.val (.pointer none)]:=by kernel_rfl
@[simp] theorem tb207:qap Tryz.prog 207=8:=by kernel_rfl
@[simp] theorem tk208:qaj Tryz.prog 208=.map 9 4:=by kernel_rfl
@[simp] theorem ts208:qar Tryz.prog 208=1:=by kernel_rfl
@[simp] theorem tz208:qa4 Tryz.prog 208=[.val (.map none)]:=by kernel_rfl
@[simp] theorem tb208:qap Tryz.prog 208=8:=by kernel_rfl
@[simp] theorem tk210:qaj Tryz.prog 210=.struct [(0,1),(1,1),(2,1)]:=by kernel_rfl
@[simp] theorem ts210:qar Tryz.prog 210=3:=by kernel_rfl
@[simp] theorem tz210:qa4 Tryz.prog 210=[.val (.map none),.val (.map none),.val (.map none)]:=by kernel_rfl
@[simp] theorem tb210:qap Tryz.prog 210=24:=by kernel_rfl
@[simp] theorem tk219:qaj Tryz.prog 219=.int .u64:=by kernel_rfl
@[simp] theorem ts219:qar Tryz.prog 219=1:=by kernel_rfl
@[simp] theorem tz219:qa4 Tryz.prog 219=[.val (.int .u64 0)]:=by kernel_rfl
@[simp] theorem tb219:qap Tryz.prog 219=8:=by kernel_rfl
@[simp] theorem tk224:qaj Tryz.prog 224=.func:=by kernel_rfl
@[simp] theorem ts224:qar Tryz.prog 224=1:=by kernel_rfl
@[simp] theorem tz224:qa4 Tryz.prog 224=[.val .nilFunc]:=by kernel_rfl
@[simp] theorem tb224:qap Tryz.prog 224=8:=by kernel_rfl
@[simp] theorem tk236:qaj Tryz.prog 236=.func:=by kernel_rfl
@[simp] theorem ts236:qar Tryz.prog 236=1:=by kernel_rfl
@[simp] theorem tz236:qa4 Tryz.prog 236=[.val .nilFunc]:=by kernel_rfl
@[simp] theorem tb236:qap Tryz.prog 236=8:=by kernel_rfl
@[simp] theorem tk237:qaj Tryz.prog 237=.func:=by kernel_rfl
@[simp] theorem ts237:qar Tryz.prog 237=1:=by kernel_rfl
@[simp] theorem tz237:qa4 Tryz.prog 237=[.val .nilFunc]:=by kernel_rfl
@[simp] theorem tb237:qap Tryz.prog 237=8:=by kernel_rfl
@[simp] theorem tk259:qaj Tryz.prog 259=.func:=by kernel_rfl
@[simp] theorem ts259:qar Tryz.prog 259=1:=by kernel_rfl
@[simp] theorem tz259:qa4 Tryz.prog 259=[.val .nilFunc]:=by kernel_rfl
@[simp] theorem tb259:qap Tryz.prog 259=8:=by kernel_rfl
@[simp] theorem tk260:qaj Tryz.prog 260=.ptr:=by kernel_rfl
@[simp] theorem ts260:qar Tryz.prog 260=1:=by kernel_rfl
@[simp] theorem tz260:qa4 Tryz.prog 260=[.val (.pointer none)]:=by kernel_rfl
@[simp] theorem tb260:qap Tryz.prog 260=8:=by kernel_rfl
@[simp] theorem tk262:qaj Tryz.prog 262=.struct [(0,1),(1,1),(2,1)]:=by kernel_rfl
@[simp] theorem ts262:qar Tryz.prog 262=3:=by kernel_rfl
@[simp] theorem tz262:qa4 Tryz.prog 262=[.val (.int .i64 0),.val .nilFunc,.val .nilFunc]:=by kernel_rfl
@[simp] theorem tb262:qap Tryz.prog 262=24:=by kernel_rfl
@[simp] theorem tk265:qaj Tryz.prog 265=.struct [(0,1),(1,1),(2,1),(3,1),(4,1),(5,1)]:=by kernel_rfl
@[simp] theorem ts265:qar Tryz.prog 265=6:=by kernel_rfl
@[simp] theorem tz265:qa4 Tryz.prog 265=[.val (.bool false),.val (.bool false),.val (.bool false),.val (.bool false),.val (.bool false),.val (.bool false)]:=by kernel_rfl
@[simp] theorem fl265:flatOf Tryz.prog 265=[.bool,.bool,.bool,.bool,.bool,.bool]:=by kernel_rfl
@[simp] theorem tb265:qap Tryz.prog 265=6:=by kernel_rfl
@[simp] theorem tk271:qaj Tryz.prog 271=.int .u64:=by kernel_rfl
@[simp] theorem ts271:qar Tryz.prog 271=1:=by kernel_rfl
@[simp] theorem tz271:qa4 Tryz.prog 271=[.val (.int .u64 0)]:=by kernel_rfl
@[simp] theorem tb271:qap Tryz.prog 271=8:=by kernel_rfl
@[simp] theorem tk285:qaj Tryz.prog 285=.struct [(0,3),(3,3)]:=by kernel_rfl
@[simp] theorem ts285:qar Tryz.prog 285=6:=by kernel_rfl
@[simp] theorem tz285:qa4 Tryz.prog 285=[.val (.int .i64 0),.val (.int .i64 0),.val (.string ⟨#[]⟩),.val (.int .i64 0),.val (.int .i64 0),.val (.string ⟨#[]⟩)]:=by kernel_rfl
@[simp] theorem fl285:flatOf Tryz.prog 285=[.int .i64,.int .i64,.string,.int .i64,.int .i64,.string]:=by kernel_rfl
@[simp] theorem tb285:qap Tryz.prog 285=64:=by kernel_rfl
@[simp] theorem tk288:qaj Tryz.prog 288=.slice 5 1:=by kernel_rfl
@[simp] theorem ts288:qar Tryz.prog 288=1:=by kernel_rfl
@[simp] theorem tz288:qa4 Tryz.prog 288=[.nils]:=by kernel_rfl
@[simp] theorem tb288:qap Tryz.prog 288=24:=by kernel_rfl
@[simp] theorem tk290:qaj Tryz.prog 290=.array 24 5 1:=by kernel_rfl
@[simp] theorem ts290:qar Tryz.prog 290=24:=by kernel_rfl
@[simp] theorem tz290:qa4 Tryz.prog 290=[.val (.int .u8 0),.val (.int .u8 0),.val (.int .u8 0),.val (.int .u8 0),.val (.int .u8 0),.val (.int .u8 0),.val (.int .u8 0),.val (.int .u8 0),.val (.int .u8 0),.val (.int .u8 0),.val (.int .u8 0),.val (.int .u8 0),.val (.int .u8 0),.val (.int .u8 0),.val (.int .u8 0),.val (.int .u8 0),.val (.int .u8 0),.val (.int .u8 0),.val (.int .u8 0),.val (.int .u8 0),.val (.int .u8 0),.val (.int .u8 0),.val (.int .u8 0),.val (.int .u8 0)]:=by kernel_rfl
@[simp] theorem tb290:qap Tryz.prog 290=24:=by kernel_rfl
@[simp] theorem tk298:qaj Tryz.prog 298=.array 20 219 1:=by kernel_rfl
@[simp] theorem ts298:qar Tryz.prog 298=20:=by kernel_rfl
@[simp] theorem tz298:qa4 Tryz.prog 298=[.val (.int .u64 0),.val (.int .u64 0),.val (.int .u64 0),.val (.int .u64 0),.val (.int .u64 0),.val (.int .u64 0),.val (.int .u64 0),.val (.int .u64 0),.val (.int .u64 0),.val (.int .u64 0),.val (.int .u64 0),.val (.int .u64 0),.val (.int .u64 0),.val (.int .u64 0),.val (.int .u64 0),.val (.int .u64 0),.val (.int .u64 0),.val (.int .u64 0),.val (.int .u64 0),.val (.int .u64 0)]:=by kernel_rfl
@[simp] theorem tb298:qap Tryz.prog 298=160:=by kernel_rfl
@[simp] theorem tk299:qaj Tryz.prog 299=.int .u32:=by kernel_rfl
@[simp] theorem ts299:qar Tryz.prog 299=1:=by kernel_rfl
@[simp] theorem tz299:qa4 Tryz.prog 299=[.val (.int .u32 0)]:=by kernel_rfl
@[simp] theorem tb299:qap Tryz.prog 299=4:=by kernel_rfl
@[simp] theorem tk304:qaj Tryz.prog 304=.array 32 5 1:=by kernel_rfl
@[simp] theorem ts304:qar Tryz.prog 304=32:=by kernel_rfl
@[simp] theorem tz304:qa4 Tryz.prog 304=[.val (.int .u8 0),.val (.int .u8 0),.val (.int .u8 0),.val (.int .u8 0),.val (.int .u8 0),.val (.int .u8 0),.val (.int .u8 0),.val (.int .u8 0),.val (.int .u8 0),.val (.int .u8 0),.val (.int .u8 0),.val (.int .u8 0),.val (.int .u8 0),.val (.int .u8 0),.val (.int .u8 0),.val (.int .u8 0),.val (.int .u8 0),.val (.int .u8 0),.val (.int .u8 0),.val (.int .u8 0),.val (.int .u8 0),.val (.int .u8 0),.val (.int .u8 0),.val (.int .u8 0),.val (.int .u8 0),.val (.int .u8 0),.val (.int .u8 0),.val (.int .u8 0),.val (.int .u8 0),.val (.int .u8 0),.val (.int .u8 0),.val (.int .u8 0)]:=by kernel_rfl
@[simp] theorem tb304:qap Tryz.prog 304=32:=by kernel_rfl
@[simp] theorem tk305:qaj Tryz.prog 305=.array 64 5 1:=by kernel_rfl
@[simp] theorem ts305:qar Tryz.prog 305=64:=by kernel_rfl
@[simp] theorem tz305:qa4 Tryz.prog 305=[.val (.int .u8 0),.val (.int .u8 0),.val (.int .u8 0),.val (.int .u8 0),.val (.int .u8 0),.val (.int .u8 0),.val (.int .u8 0),.val (.int .u8 0),.val (.int .u8 0),.val (.int .u8 0),.val (.int .u8 0),.val (.int .u8 0),.val (.int .u8 0),.val (.int .u8 0),.val (.int .u8 0),.val (.int .u8 0),.val (.int .u8 0),.val (.int .u8 0),.val (.int .u8 0),.val (.int .u8 0),.val (.int .u8 0),.val (.int .u8 0),.val (.int .u8 0),.val (.int .u8 0),.val (.int .u8 0),.val (.int .u8 0),.val (.int .u8 0),.val (.int .u8 0),.val (.int .u8 0),.val (.int .u8 0),.val (.int .u8 0),.val (.int .u8 0),.val (.int .u8 0),.val (.int .u8 0),.val (.int .u8 0),.val (.int .u8 0),.val (.int .u8 0),.val (.int .u8 0),.val (.int .u8 0),.val (.int .u8 0),.val (.int .u8 0),.val (.int .u8 0),.val (.int .u8 0),.val (.int .u8 0),.val (.int .u8 0),.val (.int .u8 0),.val (.int .u8 0),.val (.int .u8 0),.val (.int .u8 0),.val (.int .u8 0),.val (.int .u8 0),.val (.int .u8 0),.val (.int .u8 0),.val (.int .u8 0),.val (.int .u8 0),.val (.int .u8 0),.val (.int .u8 0),.val (.int .u8 0),.val (.int .u8 0),.val (.int .u8 0),.val (.int .u8 0),.val (.int .u8 0),.val (.int .u8 0),.val (.int .u8 0)]:=by kernel_rfl
@[simp] theorem tb305:qap Tryz.prog 305=64:=by kernel_rfl
end Go.Proofs.YtdbpbpmikpdjcaaGreatDoor

namespace Go.Proofs.YtdbpbpmikpdjcaaGreatDoor
open Go Go.Abs Go.Cw
theorem mixed:Tryz.prog.follows .mixedOrders=true:=by kernel_rfl
theorem c_value_plain (s:qad):APure Tryz.prog 147 [S s] (Bo (qa6 s)):=by
 refine qak Tryz.func147 Tryz.ntmps147 rfl (by kernel_rfl) rfl rfl fun E h hN hh hu hb=>?_
 simp [go_sem] at hb
 simp -dsimp [go_sem,hN]
 refine qai s.size (fun n=>allL okB ((bl s).drop n)=allL okB (bl s)) (fun n=>⟨[(0,S s),(3,I n)],h⟩) (by simp) (Wk.mk (by simp [hh]) (by simp [go_sem]) (by simp [hu,qab hu,go_sem]) (by simp [go_sem])) ?_
 intro n hn hI
 have hw:=qav hn hb
 simp -dsimp [go_sem,hN]
 refine cnd ?_ ?_<;>intro hc<;>try simp at hc
 ·
  rw [bdrop hc,allL] at hI
  simp -dsimp [go_sem,hN,hc]
  refine cnd (fun hg=>?_) (fun hg=>?_)
  ·
   simp -dsimp [go_sem,hN]
   simp [qa6,← hI,okB,hg]
  ·
   simp -dsimp [go_sem,hN,hw]
   exact ⟨hc,by simpa [okB,hg] using hI,(Wk.mk (by simp [hh]) (by simp [go_sem]) (by simp [hu,qab hu,go_sem]) (by simp [go_sem]))⟩
 ·
  rw [bend (by omega),allL] at hI
  simp -dsimp [go_sem,hN,qa6,← hI]
theorem c_value_Valid (k n:Int) (s:qad):APure Tryz.prog 118 [.agg [I k,I n,S s]] (Bo (valOk k n s)):=by
 refine qak Tryz.func118 Tryz.ntmps118 rfl (by kernel_rfl) rfl rfl fun E h hN hh hu hb=>?_
 simp -dsimp [go_sem,hN]
 refine cnd ?_ ?_<;>intro h0<;>try simp at h0
 all_goals simp -dsimp [go_sem,hN,valOk,h0]
 refine cnd ?_ ?_<;>intro h1<;>try simp at h1
 all_goals simp -dsimp [go_sem,hN,valOk,h0,h1]
 refine cnd ?_ ?_<;>intro h2<;>try simp at h2
 all_goals simp -dsimp [go_sem,hN,valOk,h0,h1,h2]
 refine qaf (c_value_plain s) (by simp) ?_
 simp -dsimp [go_sem,hN,valOk,h0,h1,h2]
theorem c_keys_Valid1 (b:UInt8):APure Tryz.prog 146 [U8 b.toNat] (Bo (keyB b)):=by
 refine qak Tryz.func146 Tryz.ntmps146 rfl (by kernel_rfl) rfl rfl fun E h hN hh hu hb=>?_
 simp -dsimp [go_sem,hN,keyB]
 omega
theorem c_keys_consists (s:qad) (f:FuncId) (p:UInt8→Bool) (hp:∀ b:UInt8,APure Tryz.prog f [U8 b.toNat] (Bo (p b))):APure Tryz.prog 145 [S s,.fn (.func f) [] []] (Bo (decide ((s.size:Int)≤24)&&allL p (bl s))):=by
 refine qak Tryz.func145 Tryz.ntmps145 rfl (by kernel_rfl) rfl rfl fun E h hN hh hu hb=>?_
 simp [go_sem] at hb
 simp -dsimp [go_sem,hN]
 refine cnd ?_ ?_<;>intro h0<;>try simp at h0
 all_goals simp -dsimp [go_sem,hN,h0]
 · simp [Int.not_le.2 h0]
 refine qai s.size (fun n=>allL p ((bl s).drop n)=allL p (bl s)) (fun n=>⟨[(0,S s),(1,.fn (.func f) [] []),(10,I s.size),(11,I n)],h⟩) (by simp) (Wk.mk (by simp [hh]) (by simp [go_sem]) (by simp [hu,qab hu,go_sem]) (by simp [go_sem])) ?_
 intro n hn hI
 have hw:=qav hn hb
 simp -dsimp [go_sem,hN]
 refine cnd ?_ ?_<;>intro hc<;>try simp at hc
 ·
  rw [bdrop hc,allL] at hI
  simp -dsimp [go_sem,hN,hc]
  refine qaa (hp _) ?_
  simp -dsimp [go_sem,hN]
  refine cnd ?_ ?_<;>intro hg<;>try simp at hg
  ·
   simp -dsimp [go_sem,hN]
   simp [h0,← hI,hg]
  ·
   simp -dsimp [go_sem,hN,hw]
   exact ⟨hc,by simpa [hg] using hI,(Wk.mk (by simp [hh]) (by simp [go_sem]) (by simp [hu,qab hu,go_sem]) (by simp [go_sem]))⟩
 ·
  rw [bend (by omega),allL] at hI
  simp -dsimp [go_sem,hN,h0,← hI]
theorem c_keys_Valid (s:qad):APure Tryz.prog 117 [S s] (Bo (keyOk s)):=by
 refine qak Tryz.func117 Tryz.ntmps117 rfl (by kernel_rfl) rfl rfl fun E h hN hh hu hb=>?_
 simp -dsimp [go_sem,hN]
 refine qaf (c_keys_consists s _ keyB c_keys_Valid1) (by simp) ?_
 simp -dsimp [go_sem,hN,keyOk,Bool.and_assoc]
theorem c_interp_ascending (l:List qad):APure Tryz.prog 122 [.slice (l.map qbe)] (Bo (ascK none l&&decide ((l.length:Int)≤64))):=by
 refine qak Tryz.func122 Tryz.ntmps122 rfl (by kernel_rfl) rfl rfl fun E h hN hh hu hb=>?_
 simp [go_sem] at hb
 simp -dsimp [go_sem,hN]
 refine qai l.length (fun n=>ascK (qcn l n) (l.drop n)=ascK none l) (fun n=>⟨[(0,.slice (l.map qbe)),(5,.slice (l.map qbe)),(6,I l.length),(7,I n)],h⟩) (by simp [qcn]) (Wk.mk (by simp [hh]) (by simp [go_sem]) (by simp [hu,qab hu,go_sem]) (by simp [go_sem])) ?_
 intro n hn hI
 have hw:=qav hn hb.1
 simp -dsimp [go_sem,hN]
 refine cnd ?_ ?_<;>intro hc<;>try simp at hc
 ·
  rw [qae hc,ascK] at hI
  simp -dsimp [go_sem,hN,hc]
  refine qaa (c_keys_Valid _) ?_
  cases n with
  | zero =>
   simp -dsimp [go_sem,hN]
   refine cnd ?_ ?_<;>intro hg<;>try simp at hg
   ·
    simp -dsimp [go_sem,hN]
    simp [← hI,hg,qcn,after]
   ·
    simp -dsimp [go_sem,hN,hw]
    exact ⟨hc,by simpa [hg,qcn,hc,after] using hI,(Wk.mk (by simp [hh]) (by simp [go_sem]) (by simp [hu,qab hu,go_sem]) (by simp [go_sem]))⟩
  | succ m =>
   have hm:m<l.length:=by omega
   have hw2:=wrapN (Nat.le_of_lt hm) hb.1
   simp at hw
   simp -dsimp [go_sem,hN,hw2,hm]
   refine cnd ?_ ?_<;>intro hg<;>try simp at hg
   ·
    simp -dsimp [go_sem,hN]
    rw [← hI]
    rcases hg with h1 | h1<;>simp [qcn,hm,after,h1]
   ·
    simp -dsimp [go_sem,hN,hw]
    simp [hg,qcn,hm,after] at hI
    exact ⟨hc,by simpa [qcn,hc] using hI,(Wk.mk (by simp [hh]) (by simp [go_sem]) (by simp [hu,qab hu,go_sem]) (by simp [go_sem]))⟩
 ·
  rw [List.drop_eq_nil_of_le (by omega),ascK] at hI
  simp -dsimp [go_sem,hN,← hI]
theorem c_interp_valid (a:Bool) (r w:List qad):APure Tryz.prog 84 [.agg [Bo a,.slice (r.map qbe),.slice (w.map qbe)]] (Bo (footOk a r w)):=by
 refine qak Tryz.func84 Tryz.ntmps84 rfl (by kernel_rfl) rfl rfl fun E h hN hh hu hb=>?_
 simp -dsimp [go_sem,hN]
 refine cnd ?_ ?_<;>intro h0<;>try simp at h0
 all_goals simp -dsimp [go_sem,hN,footOk,h0]
 refine qaa (c_interp_ascending r) ?_
 simp -dsimp [go_sem,hN]
 refine qaf (c_interp_ascending w) (by simp) ?_
 simp -dsimp [go_sem,hN,footOk,h0]
theorem c_state_absent (p:Pr):APure Tryz.prog 77 [.agg p.c] (Bo (decide (p.v.k=0))):=by
 refine qak Tryz.func77 Tryz.ntmps77 rfl (by kernel_rfl) rfl rfl fun E h hN hh hu hb=>?_
 simp -dsimp [go_sem,hN]
theorem c_IndexFunc_Pair (l:List Pr) (f:FuncId) (p:Pr→Bool) (hp:∀ x:Pr,APure Tryz.prog f [.agg x.c] (Bo (p x))):APure Tryz.prog 144 [.slice (l.map Pr.c),.fn (.func f) [] []] (I (idxOf p l)):=by
 refine qak Tryz.func144 Tryz.ntmps144 rfl (by kernel_rfl) rfl rfl fun E h hN hh hu hb=>?_
 simp [go_sem] at hb
 simp -dsimp [go_sem,hN]
 refine qai l.length (fun n=>qcm p n (l.drop n)=idxOf p l) (fun n=>⟨[(0,.slice (l.map Pr.c)),(1,.fn (.func f) [] []),(7,I l.length),(8,I n)],h⟩) (by simp [idxOf]) (Wk.mk (by simp [hh]) (by simp [go_sem]) (by simp [hu,qab hu,go_sem]) (by simp [go_sem])) ?_
 intro n hn hI
 have hw:=qav hn hb.1
 simp -dsimp [go_sem,hN]
 refine cnd ?_ ?_<;>intro hc<;>try simp at hc
 ·
  rw [qae hc,qcm] at hI
  simp -dsimp [go_sem,hN,hc]
  refine qaa (hp l[n]) ?_
  simp -dsimp [go_sem,hN]
  refine cnd ?_ ?_<;>intro hg<;>try simp at hg
  ·
   simp -dsimp [go_sem,hN]
   simpa [hg] using hI
  ·
   simp -dsimp [go_sem,hN,hw]
   exact ⟨hc,by simpa [hg] using hI,(Wk.mk (by simp [hh]) (by simp [go_sem]) (by simp [hu,qab hu,go_sem]) (by simp [go_sem]))⟩
 ·
  rw [List.drop_eq_nil_of_le (by omega),qcm] at hI
  simp -dsimp [go_sem,hN,← hI]
theorem c_ContainsFunc_Pair (l:List Pr) (f:FuncId) (p:Pr→Bool) (hp:∀ x:Pr,APure Tryz.prog f [.agg x.c] (Bo (p x))):APure Tryz.prog 116 [.slice (l.map Pr.c),.fn (.func f) [] []] (Bo (anyL p l)):=by
 refine qak Tryz.func116 Tryz.ntmps116 rfl (by kernel_rfl) rfl rfl fun E h hN hh hu hb=>?_
 simp -dsimp [go_sem,hN]
 refine qaa (c_IndexFunc_Pair l f p hp) ?_
 simp -dsimp [go_sem,hN,idxOf_nonneg]
theorem c_state_sorted (l:List Pr):APure Tryz.prog 74 [.slice (l.map Pr.c)] (Bo (sortedP none l)):=by
 refine qak Tryz.func74 Tryz.ntmps74 rfl (by kernel_rfl) rfl rfl fun E h hN hh hu hb=>?_
 simp [go_sem] at hb
 simp -dsimp [go_sem,hN]
 refine qai l.length (fun n=>sortedP ((qcn l n).map Pr.key) (l.drop n)=sortedP none l) (fun n=>⟨[(0,.slice (l.map Pr.c)),(5,.slice (l.map Pr.c)),(6,I l.length),(7,I n)],h⟩) (by simp [qcn]) (Wk.mk (by simp [hh]) (by simp [go_sem]) (by simp [hu,qab hu,go_sem]) (by simp [go_sem])) ?_
 intro n hn hI
 have hw:=qav hn hb.1
 simp -dsimp [go_sem,hN]
 refine cnd ?_ ?_<;>intro hc<;>try simp at hc
 ·
  rw [qae hc,sortedP] at hI
  simp -dsimp [go_sem,hN,hc]
  refine qah 22 mixed (by kernel_rfl) (by kernel_rfl) ?_
  simp -dsimp [go_sem,hN]
  refine qay (c_keys_Valid _) (by simp) ?_
  simp -dsimp [go_sem,hN]
  refine qay (c_value_Valid _ _ _) (by simp) ?_
  cases n with
  | zero =>
   simp -dsimp [go_sem,hN]
   refine cnd ?_ ?_<;>intro hg<;>try simp at hg
   ·
    simp -dsimp [go_sem,hN]
    rw [← hI]
    rcases hg with h1 | h1<;>simp [qcn,after,h1]
   ·
    simp -dsimp [go_sem,hN,hw]
    exact ⟨hc,by simpa [hg,qcn,hc,after] using hI,(Wk.mk (by simp [hh]) (by simp [go_sem]) (by simp [hu,qab hu,go_sem]) (by simp [go_sem]))⟩
  | succ m =>
   have hm:m<l.length:=by omega
   have hw2:=wrapN (Nat.le_of_lt hm) hb.1
   simp at hw
   simp -dsimp [go_sem,hN,hw2,hm]
   refine cnd ?_ ?_<;>intro hg<;>try simp at hg
   ·
    simp -dsimp [go_sem,hN]
    rw [← hI]
    grind [qcn,after]
   ·
    simp -dsimp [go_sem,hN,hw]
    simp [hg,qcn,hm,after] at hI
    exact ⟨hc,by simpa [qcn,hc] using hI,(Wk.mk (by simp [hh]) (by simp [go_sem]) (by simp [hu,qab hu,go_sem]) (by simp [go_sem]))⟩
 ·
  rw [List.drop_eq_nil_of_le (by omega),sortedP] at hI
  simp -dsimp [go_sem,hN,← hI]
theorem c_state_Valid (l:List Pr):APure Tryz.prog 73 [.slice (l.map Pr.c)] (Bo (qbb l)):=by
 refine qak Tryz.func73 Tryz.ntmps73 rfl (by kernel_rfl) rfl rfl fun E h hN hh hu hb=>?_
 simp -dsimp [go_sem,hN]
 refine qaa (c_state_sorted l) ?_
 simp -dsimp [go_sem,hN]
 refine qaf (c_ContainsFunc_Pair l _ _ c_state_absent) (by simp) ?_
 simp -dsimp [go_sem,hN,qbb]
theorem c_state_Get (l:List Pr) (k:qad):APure Tryz.prog 255 [.slice (l.map Pr.c),S k] (.agg (getP l k).c):=by
 refine qak Tryz.func255 Tryz.ntmps255 rfl (by kernel_rfl) rfl rfl fun E h hN hh hu hb=>?_
 simp [go_sem] at hb
 simp -dsimp [go_sem,hN]
 refine qai l.length (fun n=>getP (l.drop n) k=getP l k) (fun n=>⟨[(0,.slice (l.map Pr.c)),(1,S k),(4,P0 h.length),(7,.slice (l.map Pr.c)),(8,I l.length),(9,I n)],h++[.cells [I 0,I 0,S em]]⟩) (by simp) (Wk.mk (by simp [hh]) (by simp [go_sem]) (by simp [hu,qab hu,go_sem]) (by simp [go_sem])) ?_
 intro n hn hI
 have hw:=qav hn hb.1.1
 simp -dsimp [go_sem,hN]
 refine cnd ?_ ?_<;>intro hc<;>try simp at hc
 ·
  rw [qae hc,getP] at hI
  simp -dsimp [go_sem,hN,hc]
  refine cnd ?_ ?_<;>intro hg<;>try simp at hg
  ·
   simp -dsimp [go_sem,hN]
   simp [← hI,hg]
  ·
   simp -dsimp [go_sem,hN,hw]
   exact ⟨hc,by simpa [hg] using hI,(Wk.mk (by simp [hh]) (by simp [go_sem]) (by simp [hu,qab hu,go_sem]) (by simp [go_sem]))⟩
 ·
  rw [List.drop_eq_nil_of_le (by omega),getP] at hI
  simp -dsimp [go_sem,hN,← hI]
end Go.Proofs.YtdbpbpmikpdjcaaGreatDoor
