/- Part 28 of a proof: Ty, W1 -/
import Derived.Test.YtcjolkgjhcdhcaaGreatDoorProg
import Derived.KernelRfl
import Derived.Test.YtcjolkgjhcdhcaaGreatDoorQ09
import Derived.Test.YtcjolkgjhcdhcaaGreatDoorQ13
import Derived.Test.YtcjolkgjhcdhcaaGreatDoorQ20
set_option linter.all false

namespace Go.Proofs.YtcjolkgjhcdhcaaGreatDoor
open Go Go.Abs
@[simp] theorem tk1:qal Tryz.prog 1=.func:=by kernel_rfl
@[simp] theorem ts1:qau Tryz.prog 1=1:=by kernel_rfl
@[simp] theorem tz1:qa0 Tryz.prog 1=[.val .nilFunc]:=by kernel_rfl
@[simp] theorem tb1:qas Tryz.prog 1=8:=by kernel_rfl
@[simp] theorem tk2:qal Tryz.prog 2=.int .i64:=by kernel_rfl
@[simp] theorem ts2:qau Tryz.prog 2=1:=by kernel_rfl
@[simp] theorem tz2:qa0 Tryz.prog 2=[.val (.int .i64 0)]:=by kernel_rfl
@[simp] theorem tb2:qas Tryz.prog 2=8:=by kernel_rfl
@[simp] theorem tk3:qal Tryz.prog 3=.int .i64:=by kernel_rfl
@[simp] theorem ts3:qau Tryz.prog 3=1:=by kernel_rfl
@[simp] theorem tz3:qa0 Tryz.prog 3=[.val (.int .i64 0)]:=by kernel_rfl
@[simp] theorem tb3:qas Tryz.prog 3=8:=by kernel_rfl
@[simp] theorem tk4:qal Tryz.prog 4=.bool:=by kernel_rfl
@[simp] theorem ts4:qau Tryz.prog 4=1:=by kernel_rfl
@[simp] theorem tz4:qa0 Tryz.prog 4=[.val (.bool false)]:=by kernel_rfl
@[simp] theorem tb4:qas Tryz.prog 4=1:=by kernel_rfl
@[simp] theorem tk5:qal Tryz.prog 5=.int .u8:=by kernel_rfl
@[simp] theorem ts5:qau Tryz.prog 5=1:=by kernel_rfl
@[simp] theorem tz5:qa0 Tryz.prog 5=[.val (.int .u8 0)]:=by kernel_rfl
@[simp] theorem tb5:qas Tryz.prog 5=1:=by kernel_rfl
@[simp] theorem tk9:qal Tryz.prog 9=.string:=by kernel_rfl
@[simp] theorem ts9:qau Tryz.prog 9=1:=by kernel_rfl
@[simp] theorem tz9:qa0 Tryz.prog 9=[.val (.string ⟨#[]⟩)]:=by kernel_rfl
@[simp] theorem tb9:qas Tryz.prog 9=16:=by kernel_rfl
@[simp] theorem tk20:qal Tryz.prog 20=.iface:=by kernel_rfl
@[simp] theorem ts20:qau Tryz.prog 20=1:=by kernel_rfl
@[simp] theorem tz20:qa0 Tryz.prog 20=[.val .nilIface]:=by kernel_rfl
@[simp] theorem tb20:qas Tryz.prog 20=16:=by kernel_rfl
@[simp] theorem tk21:qal Tryz.prog 21=.int .i32:=by kernel_rfl
@[simp] theorem ts21:qau Tryz.prog 21=1:=by kernel_rfl
@[simp] theorem tz21:qa0 Tryz.prog 21=[.val (.int .i32 0)]:=by kernel_rfl
@[simp] theorem tb21:qas Tryz.prog 21=4:=by kernel_rfl
@[simp] theorem tk22:qal Tryz.prog 22=.slice 58 3:=by kernel_rfl
@[simp] theorem ts22:qau Tryz.prog 22=1:=by kernel_rfl
@[simp] theorem tz22:qa0 Tryz.prog 22=[.nils]:=by kernel_rfl
@[simp] theorem tb22:qas Tryz.prog 22=24:=by kernel_rfl
@[simp] theorem tk25:qal Tryz.prog 25=.slice 28 1:=by kernel_rfl
@[simp] theorem ts25:qau Tryz.prog 25=1:=by kernel_rfl
@[simp] theorem tz25:qa0 Tryz.prog 25=[.nils]:=by kernel_rfl
@[simp] theorem tb25:qas Tryz.prog 25=24:=by kernel_rfl
@[simp] theorem tk28:qal Tryz.prog 28=.slice 3 1:=by kernel_rfl
@[simp] theorem ts28:qau Tryz.prog 28=1:=by kernel_rfl
@[simp] theorem tz28:qa0 Tryz.prog 28=[.nils]:=by kernel_rfl
@[simp] theorem tb28:qas Tryz.prog 28=24:=by kernel_rfl
@[simp] theorem tk29:qal Tryz.prog 29=.slice 39 8:=by kernel_rfl
@[simp] theorem ts29:qau Tryz.prog 29=1:=by kernel_rfl
@[simp] theorem tz29:qa0 Tryz.prog 29=[.nils]:=by kernel_rfl
@[simp] theorem tb29:qas Tryz.prog 29=24:=by kernel_rfl
@[simp] theorem tk30:qal Tryz.prog 30=.slice 4 1:=by kernel_rfl
@[simp] theorem ts30:qau Tryz.prog 30=1:=by kernel_rfl
@[simp] theorem tz30:qa0 Tryz.prog 30=[.nils]:=by kernel_rfl
@[simp] theorem tb30:qas Tryz.prog 30=24:=by kernel_rfl
@[simp] theorem tk31:qal Tryz.prog 31=.slice 73 4:=by kernel_rfl
@[simp] theorem ts31:qau Tryz.prog 31=1:=by kernel_rfl
@[simp] theorem tz31:qa0 Tryz.prog 31=[.nils]:=by kernel_rfl
@[simp] theorem tb31:qas Tryz.prog 31=24:=by kernel_rfl
@[simp] theorem tk33:qal Tryz.prog 33=.struct [(0,1),(1,1),(2,1),(3,1)]:=by kernel_rfl
@[simp] theorem ts33:qau Tryz.prog 33=4:=by kernel_rfl
@[simp] theorem tz33:qa0 Tryz.prog 33=[.nils,.nils,.val (.int .i64 0),.nils]:=by kernel_rfl
@[simp] theorem tb33:qas Tryz.prog 33=80:=by kernel_rfl
@[simp] theorem tk34:qal Tryz.prog 34=.slice 71 3:=by kernel_rfl
@[simp] theorem ts34:qau Tryz.prog 34=1:=by kernel_rfl
@[simp] theorem tz34:qa0 Tryz.prog 34=[.nils]:=by kernel_rfl
@[simp] theorem tb34:qas Tryz.prog 34=24:=by kernel_rfl
@[simp] theorem tk36:qal Tryz.prog 36=.struct [(0,1),(1,1),(2,1)]:=by kernel_rfl
@[simp] theorem ts36:qau Tryz.prog 36=3:=by kernel_rfl
@[simp] theorem tz36:qa0 Tryz.prog 36=[.val (.int .i64 0),.val (.int .i64 0),.nils]:=by kernel_rfl
@[simp] theorem tb36:qas Tryz.prog 36=40:=by kernel_rfl
@[simp] theorem tk37:qal Tryz.prog 37=.slice 9 1:=by kernel_rfl
@[simp] theorem ts37:qau Tryz.prog 37=1:=by kernel_rfl
@[simp] theorem tz37:qa0 Tryz.prog 37=[.nils]:=by kernel_rfl
@[simp] theorem tb37:qas Tryz.prog 37=24:=by kernel_rfl
@[simp] theorem tk39:qal Tryz.prog 39=.struct [(0,3),(3,1),(4,1),(5,1),(6,1),(7,1)]:=by kernel_rfl
@[simp] theorem ts39:qau Tryz.prog 39=8:=by kernel_rfl
@[simp] theorem tz39:qa0 Tryz.prog 39=[.val (.int .i64 0),.val (.int .i64 0),.nils,.nils,.nils,.nils,.val (.string ⟨#[]⟩),.val (.int .i64 0)]:=by kernel_rfl
@[simp] theorem tb39:qas Tryz.prog 39=136:=by kernel_rfl
@[simp] theorem tk43:qal Tryz.prog 43=.slice 65 3:=by kernel_rfl
@[simp] theorem ts43:qau Tryz.prog 43=1:=by kernel_rfl
@[simp] theorem tz43:qa0 Tryz.prog 43=[.nils]:=by kernel_rfl
@[simp] theorem tb43:qas Tryz.prog 43=24:=by kernel_rfl
@[simp] theorem tk44:qal Tryz.prog 44=.slice 68 7:=by kernel_rfl
@[simp] theorem ts44:qau Tryz.prog 44=1:=by kernel_rfl
@[simp] theorem tz44:qa0 Tryz.prog 44=[.nils]:=by kernel_rfl
@[simp] theorem tb44:qas Tryz.prog 44=24:=by kernel_rfl
@[simp] theorem tk46:qal Tryz.prog 46=.struct [(0,1),(1,1),(2,1)]:=by kernel_rfl
@[simp] theorem ts46:qau Tryz.prog 46=3:=by kernel_rfl
@[simp] theorem tz46:qa0 Tryz.prog 46=[.nils,.nils,.nils]:=by kernel_rfl
@[simp] theorem tb46:qas Tryz.prog 46=72:=by kernel_rfl
@[simp] theorem tk58:qal Tryz.prog 58=.struct [(0,1),(1,1),(2,1)]:=by kernel_rfl
@[simp] theorem ts58:qau Tryz.prog 58=3:=by kernel_rfl
@[simp] theorem tz58:qa0 Tryz.prog 58=[.val (.bool false),.nils,.nils]:=by kernel_rfl
@[simp] theorem tb58:qas Tryz.prog 58=56:=by kernel_rfl
@[simp] theorem tk62:qal Tryz.prog 62=.slice 98 2:=by kernel_rfl
@[simp] theorem ts62:qau Tryz.prog 62=1:=by kernel_rfl
@[simp] theorem tz62:qa0 Tryz.prog 62=[.nils]:=by kernel_rfl
@[simp] theorem tb62:qas Tryz.prog 62=24:=by kernel_rfl
@[simp] theorem tk63:qal Tryz.prog 63=.slice 100 13:=by kernel_rfl
@[simp] theorem ts63:qau Tryz.prog 63=1:=by kernel_rfl
@[simp] theorem tz63:qa0 Tryz.prog 63=[.nils]:=by kernel_rfl
@[simp] theorem tb63:qas Tryz.prog 63=24:=by kernel_rfl
@[simp] theorem tk65:qal Tryz.prog 65=.struct [(0,1),(1,1),(2,1)]:=by kernel_rfl
@[simp] theorem ts65:qau Tryz.prog 65=3:=by kernel_rfl
@[simp] theorem tz65:qa0 Tryz.prog 65=[.val (.string ⟨#[]⟩),.nils,.nils]:=by kernel_rfl
@[simp] theorem tb65:qas Tryz.prog 65=64:=by kernel_rfl
@[simp] theorem tk68:qal Tryz.prog 68=.struct [(0,1),(1,1),(2,1),(3,3),(6,1)]:=by kernel_rfl
@[simp] theorem ts68:qau Tryz.prog 68=7:=by kernel_rfl
@[simp] theorem tz68:qa0 Tryz.prog 68=[.val (.int .i64 0),.val (.string ⟨#[]⟩),.nils,.val (.bool false),.nils,.nils,.val (.int .i64 0)]:=by kernel_rfl
@[simp] theorem tb68:qas Tryz.prog 68=112:=by kernel_rfl
@[simp] theorem tk71:qal Tryz.prog 71=.struct [(0,1),(1,1),(2,1)]:=by kernel_rfl
@[simp] theorem ts71:qau Tryz.prog 71=3:=by kernel_rfl
@[simp] theorem tz71:qa0 Tryz.prog 71=[.val (.int .i64 0),.val (.int .i64 0),.val (.string ⟨#[]⟩)]:=by kernel_rfl
@[simp] theorem fl71:flatOf Tryz.prog 71=[.int .i64,.int .i64,.string]:=by kernel_rfl
@[simp] theorem tb71:qas Tryz.prog 71=32:=by kernel_rfl
@[simp] theorem tk73:qal Tryz.prog 73=.struct [(0,1),(1,3)]:=by kernel_rfl
@[simp] theorem ts73:qau Tryz.prog 73=4:=by kernel_rfl
@[simp] theorem tz73:qa0 Tryz.prog 73=[.val (.string ⟨#[]⟩),.val (.int .i64 0),.val (.int .i64 0),.val (.string ⟨#[]⟩)]:=by kernel_rfl
@[simp] theorem fl73:flatOf Tryz.prog 73=[.string,.int .i64,.int .i64,.string]:=by kernel_rfl
@[simp] theorem tb73:qas Tryz.prog 73=48:=by kernel_rfl
@[simp] theorem tk76:qal Tryz.prog 76=.int .i64:=by kernel_rfl
@[simp] theorem ts76:qau Tryz.prog 76=1:=by kernel_rfl
@[simp] theorem tz76:qa0 Tryz.prog 76=[.val (.int .i64 0)]:=by kernel_rfl
@[simp] theorem tb76:qas Tryz.prog 76=8:=by kernel_rfl
@[simp] theorem tk81:qal Tryz.prog 81=.func:=by kernel_rfl
@[simp] theorem ts81:qau Tryz.prog 81=1:=by kernel_rfl
@[simp] theorem tz81:qa0 Tryz.prog 81=[.val .nilFunc]:=by kernel_rfl
@[simp] theorem tb81:qas Tryz.prog 81=8:=by kernel_rfl
@[simp] theorem tk89:qal Tryz.prog 89=.func:=by kernel_rfl
@[simp] theorem ts89:qau Tryz.prog 89=1:=by kernel_rfl
@[simp] theorem tz89:qa0 Tryz.prog 89=[.val .nilFunc]:=by kernel_rfl
@[simp] theorem tb89:qas Tryz.prog 89=8:=by kernel_rfl
@[simp] theorem tk91:qal Tryz.prog 91=.struct [(0,1)]:=by kernel_rfl
@[simp] theorem ts91:qau Tryz.prog 91=1:=by kernel_rfl
@[simp] theorem tz91:qa0 Tryz.prog 91=[.val .nilFunc]:=by kernel_rfl
@[simp] theorem tb91:qas Tryz.prog 91=8:=by kernel_rfl
@[simp] theorem tk94:qal Tryz.prog 94=.slice 96 4:=by kernel_rfl
@[simp] theorem ts94:qau Tryz.prog 94=1:=by kernel_rfl
@[simp] theorem tz94:qa0 Tryz.prog 94=[.nils]:=by kernel_rfl
@[simp] theorem tb94:qas Tryz.prog 94=24:=by kernel_rfl
@[simp] theorem tk96:qal Tryz.prog 96=.struct [(0,1),(1,1),(2,1),(3,1)]:=by kernel_rfl
@[simp] theorem ts96:qau Tryz.prog 96=4:=by kernel_rfl
@[simp] theorem tz96:qa0 Tryz.prog 96=[.val (.int .i64 0),.val (.int .i64 0),.val (.string ⟨#[]⟩),.nils]:=by kernel_rfl
@[simp] theorem tb96:qas Tryz.prog 96=56:=by kernel_rfl
@[simp] theorem tk98:qal Tryz.prog 98=.struct [(0,1),(1,1)]:=by kernel_rfl
@[simp] theorem ts98:qau Tryz.prog 98=2:=by kernel_rfl
@[simp] theorem tz98:qa0 Tryz.prog 98=[.val (.string ⟨#[]⟩),.val (.int .i64 0)]:=by kernel_rfl
@[simp] theorem fl98:flatOf Tryz.prog 98=[.string,.int .i64]:=by kernel_rfl
@[simp] theorem tb98:qas Tryz.prog 98=24:=by kernel_rfl
@[simp] theorem tk100:qal Tryz.prog 100=.struct [(0,1),(1,1),(2,1),(3,4),(7,4),(11,1),(12,1)]:=by kernel_rfl
@[simp] theorem ts100:qau Tryz.prog 100=13:=by kernel_rfl
@[simp] theorem tz100:qa0 Tryz.prog 100=[.val (.int .i64 0),.val (.string ⟨#[]⟩),.val (.int .i64 0),.val (.int .i64 0),.val (.int .i64 0),.val (.string ⟨#[]⟩),.nils,.val (.int .i64 0),.val (.int .i64 0),.val (.string ⟨#[]⟩),.nils,.nils,.nils]:=by kernel_rfl
@[simp] theorem tb100:qas Tryz.prog 100=192:=by kernel_rfl
@[simp] theorem tk103:qal Tryz.prog 103=.func:=by kernel_rfl
@[simp] theorem ts103:qau Tryz.prog 103=1:=by kernel_rfl
@[simp] theorem tz103:qa0 Tryz.prog 103=[.val .nilFunc]:=by kernel_rfl
@[simp] theorem tb103:qas Tryz.prog 103=8:=by kernel_rfl
@[simp] theorem tk105:qal Tryz.prog 105=.func:=by kernel_rfl
@[simp] theorem ts105:qau Tryz.prog 105=1:=by kernel_rfl
@[simp] theorem tz105:qa0 Tryz.prog 105=[.val .nilFunc]:=by kernel_rfl
@[simp] theorem tb105:qas Tryz.prog 105=8:=by kernel_rfl
@[simp] theorem tk106:qal Tryz.prog 106=.func:=by kernel_rfl
@[simp] theorem ts106:qau Tryz.prog 106=1:=by kernel_rfl
@[simp] theorem tz106:qa0 Tryz.prog 106=[.val .nilFunc]:=by kernel_rfl
@[simp] theorem tb106:qas Tryz.prog 106=8:=by kernel_rfl
@[simp] theorem tk108:qal Tryz.prog 108=.func:=by kernel_rfl
@[simp] theorem ts108:qau Tryz.prog 108=1:=by kernel_rfl
@[simp] theorem tz108:qa0 Tryz.prog 108=[.val .nilFunc]:=by kernel_rfl
@[simp] theorem tb108:qas Tryz.prog 108=8:=by kernel_rfl
@[simp] theorem tk109:qal Tryz.prog 109=.func:=by kernel_rfl
@[simp] theorem ts109:qau Tryz.prog 109=1:=by kernel_rfl
@[simp] theorem tz109:qa0 Tryz.prog 109=[.val .nilFunc]:=by kernel_rfl
@[simp] theorem tb109:qas Tryz.prog 109=8:=by kernel_rfl
@[simp] theorem tk126:qal Tryz.prog 126=.func:=by kernel_rfl
@[simp] theorem ts126:qau Tryz.prog 126=1:=by kernel_rfl
@[simp] theorem tz126:qa0 Tryz.prog 126=[.val .nilFunc]:=by kernel_rfl
@[simp] theorem tb126:qas Tryz.prog 126=8:=by kernel_rfl
@[simp] theorem tk130:qal Tryz.prog 130=.ptr:=by kernel_rfl
@[simp] theorem ts130:qau Tryz.prog 130=1:=by kernel_rfl
@[simp] theorem tz130:qa0 Tryz.prog 130=[.val (.pointer none)]:=by kernel_rfl
@[simp] theorem tb130:qas Tryz.prog 130=8:=by kernel_rfl
@[simp] theorem tk132:qal Tryz.prog 132=.map 9 71:=by kernel_rfl
@[simp] theorem ts132:qau Tryz.prog 132=1:=by kernel_rfl
@[simp] theorem tz132:qa0 Tryz.prog 132=[.val (.map none)]:=by kernel_rfl
@[simp] theorem tb132:qas Tryz.prog 132=8:=by kernel_rfl
@[simp] theorem tk134:qal Tryz.prog 134=.struct [(0,1),(1,3),(4,1),(5,1),(6,8)]:=by kernel_rfl
@[simp] theorem ts134:qau Tryz.prog 134=14:=by kernel_rfl
@[simp] theorem tz134:qa0 Tryz.prog 134=[.nils,.val (.bool false),.nils,.nils,.val (.map none),.val (.map none),.val (.int .i64 0),.val (.int .i64 0),.nils,.nils,.nils,.nils,.val (.string ⟨#[]⟩),.val (.int .i64 0)]:=by kernel_rfl
@[simp] theorem tb134:qas Tryz.prog 134=232:=by kernel_rfl
@[simp] theorem tk137:qal Tryz.prog 137=.struct [(0,3),(3,1)]:=by kernel_rfl
@[simp] theorem ts137:qau Tryz.prog 137=4:=by kernel_rfl
@[simp] theorem tz137:qa0 Tryz.prog 137=[.val (.int .i64 0),.val (.int .i64 0),.nils,.val (.string ⟨#[]⟩)]:=by kernel_rfl
@[simp] theorem tb137:qas Tryz.prog 137=56:=by kernel_rfl
@[simp] theorem tk146:qal Tryz.prog 146=.func:=by kernel_rfl
@[simp] theorem ts146:qau Tryz.prog 146=1:=by kernel_rfl
@[simp] theorem tz146:qa0 Tryz.prog 146=[.val .nilFunc]:=by kernel_rfl
@[simp] theorem tb146:qas Tryz.prog 146=8:=by kernel_rfl
@[simp] theorem tk148:qal Tryz.prog 148=.array 4 3 1:=by kernel_rfl
@[simp] theorem ts148:qau Tryz.prog 148=4:=by kernel_rfl
@[simp] theorem tz148:qa0 Tryz.prog 148=[.val (.int .i64 0),.val (.int .i64 0),.val (.int .i64 0),.val (.int .i64 0)]:=by kernel_rfl
@[simp] theorem tb148:qas Tryz.prog 148=32:=by kernel_rfl
@[simp] theorem tk153:qal Tryz.prog 153=.struct [(0,1),(1,3),(4,1),(5,1),(6,8)]:=by kernel_rfl
@[simp] theorem ts153:qau Tryz.prog 153=14:=by kernel_rfl
@[simp] theorem tz153:qa0 Tryz.prog 153=[.nils,.val (.bool false),.nils,.nils,.nils,.nils,.val (.int .i64 0),.val (.int .i64 0),.nils,.nils,.nils,.nils,.val (.string ⟨#[]⟩),.val (.int .i64 0)]:=by kernel_rfl
@[simp] theorem tb153:qas Tryz.prog 153=264:=by kernel_rfl
@[simp] theorem tk156:qal Tryz.prog 156=.int .u64:=by kernel_rfl
@[simp] theorem ts156:qau Tryz.prog 156=1:=by kernel_rfl
@[simp] theorem tz156:qa0 Tryz.prog 156=[.val (.int .u64 0)]:=by kernel_rfl
@[simp] theorem tb156:qas Tryz.prog 156=8:=by kernel_rfl
@[simp] theorem tk158:qal Tryz.prog 158=.map 9 3:=by kernel_rfl
@[simp] theorem ts158:qau Tryz.prog 158=1:=by kernel_rfl
@[simp] theorem tz158:qa0 Tryz.prog 158=[.val (.map none)]:=by kernel_rfl
@[simp] theorem tb158:qas Tryz.prog 158=8:=by kernel_rfl
@[simp] theorem tk171:qal Tryz.prog 171=.struct [(0,1),(1,1)]:=by kernel_rfl
@[simp] theorem ts171:qau Tryz.prog 171=2:=by kernel_rfl
@[simp] theorem tz171:qa0 Tryz.prog 171=[.nils,.nils]:=by kernel_rfl
@[simp] theorem tb171:qas Tryz.prog 171=48:=by kernel_rfl
@[simp] theorem tk176:qal Tryz.prog 176=.struct [(0,1),(1,1),(2,1),(3,1)]:=by kernel_rfl
@[simp] theorem ts176:qau Tryz.prog 176=4:=by kernel_rfl
@[simp] theorem tz176:qa0 Tryz.prog 176=[.val (.int .i64 0),.val (.int .i64 0),.val (.int .i64 0),.val (.int .i64 0)]:=by kernel_rfl
@[simp] theorem fl176:flatOf Tryz.prog 176=[.int .i64,.int .i64,.int .i64,.int .i64]:=by kernel_rfl
@[simp] theorem tb176:qas Tryz.prog 176=32:=by kernel_rfl
@[simp] theorem tk181:qal Tryz.prog 181=.ptr:=by kernel_rfl
@[simp] theorem ts181:qau Tryz.prog 181=1:=by kernel_rfl
@[simp] theorem tz181:qa0 Tryz.prog 181=[.val (.pointer none)]:=by kernel_rfl
@[simp] theorem tb181:qas Tryz.prog 181=8:=by kernel_rfl
@[simp] theorem tk182:qal Tryz.prog 182=.map 9 4:=by kernel_rfl
@[simp] theorem ts182:qau Tryz.prog 182=1:=by kernel_rfl
@[simp] theorem tz182:qa0 Tryz.prog 182=[.val (.map none)]:=by kernel_rfl
@[simp] theorem tb182:qas Tryz.prog 182=8:=by kernel_rfl
@[simp] theorem tk184:qal Tryz.prog 184=.struct [(0,1),(1,1),(2,1)]:=by kernel_rfl
@[simp] theorem ts184:qau Tryz.prog 184=3:=by kernel_rfl
@[simp] theorem tz184:qa0 Tryz.prog 184=[.val (.map none),.val (.map none),.val (.map none)]:=by kernel_rfl
@[simp] theorem tb184:qas Tryz.prog 184=24:=by kernel_rfl
@[simp] theorem tk198:qal Tryz.prog 198=.int .u64:=by kernel_rfl
@[simp] theorem ts198:qau Tryz.prog 198=1:=by kernel_rfl
@[simp] theorem tz198:qa0 Tryz.prog 198=[.val (.int .u64 0)]:=by kernel_rfl
@[simp] theorem tb198:qas Tryz.prog 198=8:=by kernel_rfl
@[simp] theorem tk200:qal Tryz.prog 200=.slice 203 20:=by kernel_rfl
@[simp] theorem ts200:qau Tryz.prog 200=1:=by kernel_rfl
@[simp] theorem tz200:qa0 Tryz.prog 200=[.nils]:=by kernel_rfl
@[simp] theorem tb200:qas Tryz.prog 200=24:=by kernel_rfl
@[simp] theorem tk203:qal Tryz.prog 203=.struct [(0,1),(1,13),(14,1),(15,4),(19,1)]:=by kernel_rfl
@[simp] theorem ts203:qau Tryz.prog 203=20:=by kernel_rfl
@[simp] theorem tz203:qa0 Tryz.prog 203=[.val (.bool false),.val (.int .i64 0),.val (.string ⟨#[]⟩),.val (.int .i64 0),.val (.int .i64 0),.val (.int .i64 0),.val (.string ⟨#[]⟩),.nils,.val (.int .i64 0),.val (.int .i64 0),.val (.string ⟨#[]⟩),.nils,.nils,.nils,.val (.int .i64 0),.val (.int .i64 0),.val (.int .i64 0),.val (.string ⟨#[]⟩),.nils,.val (.bool false)]:=by kernel_rfl
@[simp] theorem tb203:qas Tryz.prog 203=272:=by kernel_rfl
@[simp] theorem tk217:qal Tryz.prog 217=.func:=by kernel_rfl
@[simp] theorem ts217:qau Tryz.prog 217=1:=by kernel_rfl
@[simp] theorem tz217:qa0 Tryz.prog 217=[.val .nilFunc]:=by kernel_rfl
@[simp] theorem tb217:qas Tryz.prog 217=8:=by kernel_rfl
@[simp] theorem tk218:qal Tryz.prog 218=.func:=by kernel_rfl
@[simp] theorem ts218:qau Tryz.prog 218=1:=by kernel_rfl
@[simp] theorem tz218:qa0 Tryz.prog 218=[.val .nilFunc]:=by kernel_rfl
@[simp] theorem tb218:qas Tryz.prog 218=8:=by kernel_rfl
@[simp] theorem tk221:qal Tryz.prog 221=.func:=by kernel_rfl
@[simp] theorem ts221:qau Tryz.prog 221=1:=by kernel_rfl
@[simp] theorem tz221:qa0 Tryz.prog 221=[.val .nilFunc]:=by kernel_rfl
@[simp] theorem tb221:qas Tryz.prog 221=8:=by kernel_rfl
@[simp] theorem tk251:qal Tryz.prog 251=.func:=by kernel_rfl
@[simp] theorem ts251:qau Tryz.prog 251=1:=by kernel_rfl
@[simp] theorem tz251:qa0 Tryz.prog 251=[.val .nilFunc]:=by kernel_rfl
@[simp] theorem tb251:qas Tryz.prog 251=8:=by kernel_rfl
@[simp] theorem tk252:qal Tryz.prog 252=.ptr:=by kernel_rfl
@[simp] theorem ts252:qau Tryz.prog 252=1:=by kernel_rfl
@[simp] theorem tz252:qa0 Tryz.prog 252=[.val (.pointer none)]:=by kernel_rfl
@[simp] theorem tb252:qas Tryz.prog 252=8:=by kernel_rfl
@[simp] theorem tk254:qal Tryz.prog 254=.struct [(0,1),(1,1),(2,1)]:=by kernel_rfl
@[simp] theorem ts254:qau Tryz.prog 254=3:=by kernel_rfl
@[simp] theorem tz254:qa0 Tryz.prog 254=[.val (.int .i64 0),.val .nilFunc,.val .nilFunc]:=by kernel_rfl
@[simp] theorem tb254:qas Tryz.prog 254=24:=by kernel_rfl
@[simp] theorem tk257:qal Tryz.prog 257=.struct [(0,1),(1,1),(2,1),(3,1),(4,1),(5,1)]:=by kernel_rfl
@[simp] theorem ts257:qau Tryz.prog 257=6:=by kernel_rfl
@[simp] theorem tz257:qa0 Tryz.prog 257=[.val (.bool false),.val (.bool false),.val (.bool false),.val (.bool false),.val (.bool false),.val (.bool false)]:=by kernel_rfl
@[simp] theorem fl257:flatOf Tryz.prog 257=[.bool,.bool,.bool,.bool,.bool,.bool]:=by kernel_rfl
@[simp] theorem tb257:qas Tryz.prog 257=6:=by kernel_rfl
@[simp] theorem tk274:qal Tryz.prog 274=.struct [(0,3),(3,3)]:=by kernel_rfl
@[simp] theorem ts274:qau Tryz.prog 274=6:=by kernel_rfl
@[simp] theorem tz274:qa0 Tryz.prog 274=[.val (.int .i64 0),.val (.int .i64 0),.val (.string ⟨#[]⟩),.val (.int .i64 0),.val (.int .i64 0),.val (.string ⟨#[]⟩)]:=by kernel_rfl
@[simp] theorem fl274:flatOf Tryz.prog 274=[.int .i64,.int .i64,.string,.int .i64,.int .i64,.string]:=by kernel_rfl
@[simp] theorem tb274:qas Tryz.prog 274=64:=by kernel_rfl
@[simp] theorem tk284:qal Tryz.prog 284=.array 24 5 1:=by kernel_rfl
@[simp] theorem ts284:qau Tryz.prog 284=24:=by kernel_rfl
@[simp] theorem tz284:qa0 Tryz.prog 284=[.val (.int .u8 0),.val (.int .u8 0),.val (.int .u8 0),.val (.int .u8 0),.val (.int .u8 0),.val (.int .u8 0),.val (.int .u8 0),.val (.int .u8 0),.val (.int .u8 0),.val (.int .u8 0),.val (.int .u8 0),.val (.int .u8 0),.val (.int .u8 0),.val (.int .u8 0),.val (.int .u8 0),.val (.int .u8 0),.val (.int .u8 0),.val (.int .u8 0),.val (.int .u8 0),.val (.int .u8 0),.val (.int .u8 0),.val (.int .u8 0),.val (.int .u8 0),.val (.int .u8 0)]:=by kernel_rfl
@[simp] theorem tb284:qas Tryz.prog 284=24:=by kernel_rfl
@[simp] theorem tk287:qal Tryz.prog 287=.slice 5 1:=by kernel_rfl
@[simp] theorem ts287:qau Tryz.prog 287=1:=by kernel_rfl
@[simp] theorem tz287:qa0 Tryz.prog 287=[.nils]:=by kernel_rfl
@[simp] theorem tb287:qas Tryz.prog 287=24:=by kernel_rfl
@[simp] theorem tk294:qal Tryz.prog 294=.array 20 198 1:=by kernel_rfl
@[simp] theorem ts294:qau Tryz.prog 294=20:=by kernel_rfl
@[simp] theorem tz294:qa0 Tryz.prog 294=[.val (.int .u64 0),.val (.int .u64 0),.val (.int .u64 0),.val (.int .u64 0),.val (.int .u64 0),.val (.int .u64 0),.val (.int .u64 0),.val (.int .u64 0),.val (.int .u64 0),.val (.int .u64 0),.val (.int .u64 0),.val (.int .u64 0),.val (.int .u64 0),.val (.int .u64 0),.val (.int .u64 0),.val (.int .u64 0),.val (.int .u64 0),.val (.int .u64 0),.val (.int .u64 0),.val (.int .u64 0)]:=by kernel_rfl
@[simp] theorem tb294:qas Tryz.prog 294=160:=by kernel_rfl
@[simp] theorem tk295:qal Tryz.prog 295=.int .u32:=by kernel_rfl
@[simp] theorem ts295:qau Tryz.prog 295=1:=by kernel_rfl
@[simp] theorem tz295:qa0 Tryz.prog 295=[.val (.int .u32 0)]:=by kernel_rfl
@[simp] theorem tb295:qas Tryz.prog 295=4:=by kernel_rfl
@[simp] theorem tk300:qal Tryz.prog 300=.array 32 5 1:=by kernel_rfl
@[simp] theorem ts300:qau Tryz.prog 300=32:=by kernel_rfl
@[simp] theorem tz300:qa0 Tryz.prog 300=[.val (.int .u8 0),.val (.int .u8 0),.val (.int .u8 0),.val (.int .u8 0),.val (.int .u8 0),.val (.int .u8 0),.val (.int .u8 0),.val (.int .u8 0),.val (.int .u8 0),.val (.int .u8 0),.val (.int .u8 0),.val (.int .u8 0),.val (.int .u8 0),.val (.int .u8 0),.val (.int .u8 0),.val (.int .u8 0),.val (.int .u8 0),.val (.int .u8 0),.val (.int .u8 0),.val (.int .u8 0),.val (.int .u8 0),.val (.int .u8 0),.val (.int .u8 0),.val (.int .u8 0),.val (.int .u8 0),.val (.int .u8 0),.val (.int .u8 0),.val (.int .u8 0),.val (.int .u8 0),.val (.int .u8 0),.val (.int .u8 0),.val (.int .u8 0)]:=by kernel_rfl
@[simp] theorem tb300:qas Tryz.prog 300=32:=by kernel_rfl
@[simp] theorem tk301:qal Tryz.prog 301=.array 64 5 1:=by kernel_rfl
@[simp] theorem ts301:qau Tryz.prog 301=64:=by kernel_rfl
@[simp] theorem tz301:qa0 Tryz.prog 301=[.val (.int .u8 0),.val (.int .u8 0),.val (.int .u8 0),.val (.int .u8 0),.val (.int .u8 0),.val (.int .u8 0),.val (.int .u8 0),.val (.int .u8 0),.val (.int .u8 0),.val (.int .u8 0),.val (.int .u8 0),.val (.int .u8 0),.val (.int .u8 0),.val (.int .u8 0),.val (.int .u8 0),.val (.int .u8 0),.val (.int .u8 0),.val (.int .u8 0),.val (.int .u8 0),.val (.int .u8 0),.val (.int .u8 0),.val (.int .u8 0),.val (.int .u8 0),.val (.int .u8 0),.val (.int .u8 0),.val (.int .u8 0),.val (.int .u8 0),.val (.int .u8 0),.val (.int .u8 0),.val (.int .u8 0),.val (.int .u8 0),.val (.int .u8 0),.val (.int .u8 0),.val (.int .u8 0),.val (.int .u8 0),.val (.int .u8 0),.val (.int .u8 0),.val (.int .u8 0),.val (.int .u8 0),.val (.int .u8 0),.val (.int .u8 0),.val (.int .u8 0),.val (.int .u8 0),.val (.int .u8 0),.val (.int .u8 0),.val (.int .u8 0),.val (.int .u8 0),.val (.int .u8 0),.val (.int .u8 0),.val (.int .u8 0),.val (.int .u8 0),.val (.int .u8 0),.val (.int .u8 0),.val (.int .u8 0),.val (.int .u8 0),.val (.int .u8 0),.val (.int .u8 0),.val (.int .u8 0),.val (.int .u8 0),.val (.int .u8 0),.val (.int .u8 0),.val (.int .u8 0),.val (.int .u8 0),.val (.int .u8 0)]:=by kernel_rfl
@[simp] theorem tb301:qas Tryz.prog 301=64:=by kernel_rfl
end Go.Proofs.YtcjolkgjhcdhcaaGreatDoor

namespace Go.Proofs.YtcjolkgjhcdhcaaGreatDoor
open Go Go.Abs Go.Cw
theorem mixed:Tryz.prog.follows .mixedOrders=true:=by kernel_rfl
theorem c_value_plain (s:qag):APure Tryz.prog 108 [S s] (Bo (qbf s)):=by
 refine qad Tryz.func108 rfl (by kernel_rfl) (by simp [Tryz.ntmps108]) rfl ?_
 intro E h hN hh hu hb
 rw [Tryz.ntmps108] at hN
 refine qab _ _ _ ?_
 simp [go_sem] at hb
 simp -dsimp [go_sem,hN]
 refine qah s.size (fun n=>allL okB ((bl s).drop n)=allL okB (bl s)) (fun n=>⟨[(0,S s),(3,I n)],h⟩) (by simp) (Wk.mk (by simp [hh]) (by simp [go_sem]) (by simp [hu,qaa hu,go_sem]) (by simp [go_sem])) ?_
 intro n hn hI
 have hw:=qax hn hb
 simp -dsimp [go_sem,hN]
 refine cnd ?_ ?_<;>intro hc<;>try simp at hc
 ·
  rw [bdrop hc,allL] at hI
  simp -dsimp [go_sem,hN,hc]
  refine cnd (fun hg=>?_) (fun hg=>?_)
  ·
   simp -dsimp [go_sem,hN]
   simp [qbf,← hI,okB,hg]
  ·
   simp -dsimp [go_sem,hN,hw]
   exact ⟨hc,by simpa [okB,hg] using hI,(Wk.mk (by simp [hh]) (by simp [go_sem]) (by simp [hu,qaa hu,go_sem]) (by simp [go_sem]))⟩
 ·
  rw [bend (by omega),allL] at hI
  simp -dsimp [go_sem,hN,qbf,← hI]
theorem c_value_Valid (k n:Int) (s:qag):APure Tryz.prog 84 [.agg [I k,I n,S s]] (Bo (valOk k n s)):=by
 refine qad Tryz.func84 rfl (by kernel_rfl) (by simp [Tryz.ntmps84]) rfl ?_
 intro E h hN hh hu hb
 rw [Tryz.ntmps84] at hN
 refine qab _ _ _ ?_
 simp -dsimp [go_sem,hN]
 refine cnd ?_ ?_<;>intro h0<;>try simp at h0
 all_goals simp -dsimp [go_sem,hN,valOk,h0]
 refine cnd ?_ ?_<;>intro h1<;>try simp at h1
 all_goals simp -dsimp [go_sem,hN,valOk,h0,h1]
 refine cnd ?_ ?_<;>intro h2<;>try simp at h2
 all_goals simp -dsimp [go_sem,hN,valOk,h0,h1,h2]
 refine qai (c_value_plain s) (by simp) ?_
 simp -dsimp [go_sem,hN,valOk,h0,h1,h2]
theorem c_keys_Valid1 (b:UInt8):APure Tryz.prog 107 [U8 b.toNat] (Bo (keyB b)):=by
 refine qad Tryz.func107 rfl (by kernel_rfl) (by simp [Tryz.ntmps107]) rfl ?_
 intro E h hN hh hu hb
 rw [Tryz.ntmps107] at hN
 refine qab _ _ _ ?_
 simp -dsimp [go_sem,hN,keyB]
 omega
theorem c_keys_consists (s:qag) (f:FuncId) (p:UInt8→Bool) (hp:∀ b:UInt8,APure Tryz.prog f [U8 b.toNat] (Bo (p b))):APure Tryz.prog 106 [S s,.fn (.func f) [] []] (Bo (decide ((s.size:Int)≤24)&&allL p (bl s))):=by
 refine qad Tryz.func106 rfl (by kernel_rfl) (by simp [Tryz.ntmps106]) rfl ?_
 intro E h hN hh hu hb
 rw [Tryz.ntmps106] at hN
 refine qab _ _ _ ?_
 simp [go_sem] at hb
 simp -dsimp [go_sem,hN]
 refine cnd ?_ ?_<;>intro h0<;>try simp at h0
 all_goals simp -dsimp [go_sem,hN,h0]
 · simp [Int.not_le.2 h0]
 refine qah s.size (fun n=>allL p ((bl s).drop n)=allL p (bl s)) (fun n=>⟨[(0,S s),(1,.fn (.func f) [] []),(10,I s.size),(11,I n)],h⟩) (by simp) (Wk.mk (by simp [hh]) (by simp [go_sem]) (by simp [hu,qaa hu,go_sem]) (by simp [go_sem])) ?_
 intro n hn hI
 have hw:=qax hn hb
 simp -dsimp [go_sem,hN]
 refine cnd ?_ ?_<;>intro hc<;>try simp at hc
 ·
  rw [bdrop hc,allL] at hI
  simp -dsimp [go_sem,hN,hc]
  refine qac (hp _) ?_
  simp -dsimp [go_sem,hN]
  refine cnd ?_ ?_<;>intro hg<;>try simp at hg
  ·
   simp -dsimp [go_sem,hN]
   simp [h0,← hI,hg]
  ·
   simp -dsimp [go_sem,hN,hw]
   exact ⟨hc,by simpa [hg] using hI,(Wk.mk (by simp [hh]) (by simp [go_sem]) (by simp [hu,qaa hu,go_sem]) (by simp [go_sem]))⟩
 ·
  rw [bend (by omega),allL] at hI
  simp -dsimp [go_sem,hN,h0,← hI]
theorem c_keys_Valid (s:qag):APure Tryz.prog 83 [S s] (Bo (keyOk s)):=by
 refine qad Tryz.func83 rfl (by kernel_rfl) (by simp [Tryz.ntmps83]) rfl ?_
 intro E h hN hh hu hb
 rw [Tryz.ntmps83] at hN
 refine qab _ _ _ ?_
 simp -dsimp [go_sem,hN]
 refine qai (c_keys_consists s _ keyB c_keys_Valid1) (by simp) ?_
 simp -dsimp [go_sem,hN,keyOk,Bool.and_assoc]
theorem c_interp_ascending (l:List qag):APure Tryz.prog 115 [.slice (l.map qa9)] (Bo (ascK none l&&decide ((l.length:Int)≤64))):=by
 refine qad Tryz.func115 rfl (by kernel_rfl) (by simp [Tryz.ntmps115]) rfl ?_
 intro E h hN hh hu hb
 rw [Tryz.ntmps115] at hN
 refine qab _ _ _ ?_
 simp [go_sem] at hb
 simp -dsimp [go_sem,hN]
 refine qah l.length (fun n=>ascK (qbk l n) (l.drop n)=ascK none l) (fun n=>⟨[(0,.slice (l.map qa9)),(5,.slice (l.map qa9)),(6,I l.length),(7,I n)],h⟩) (by simp [qbk]) (Wk.mk (by simp [hh]) (by simp [go_sem]) (by simp [hu,qaa hu,go_sem]) (by simp [go_sem])) ?_
 intro n hn hI
 have hw:=qax hn hb.1
 simp -dsimp [go_sem,hN]
 refine cnd ?_ ?_<;>intro hc<;>try simp at hc
 ·
  rw [qaj hc,ascK] at hI
  simp -dsimp [go_sem,hN,hc]
  refine qac (c_keys_Valid _) ?_
  cases n with
  | zero =>
   simp -dsimp [go_sem,hN]
   refine cnd ?_ ?_<;>intro hg<;>try simp at hg
   ·
    simp -dsimp [go_sem,hN]
    simp [← hI,hg,qbk,after]
   ·
    simp -dsimp [go_sem,hN,hw]
    exact ⟨hc,by simpa [hg,qbk,hc,after] using hI,(Wk.mk (by simp [hh]) (by simp [go_sem]) (by simp [hu,qaa hu,go_sem]) (by simp [go_sem]))⟩
  | succ m =>
   have hm:m<l.length:=by omega
   have hw2:=wrapN (Nat.le_of_lt hm) hb.1
   simp at hw
   simp -dsimp [go_sem,hN,hw2,hm]
   refine cnd ?_ ?_<;>intro hg<;>try simp at hg
   ·
    simp -dsimp [go_sem,hN]
    rw [← hI]
    rcases hg with h1 | h1<;>simp [qbk,hm,after,h1]
   ·
    simp -dsimp [go_sem,hN,hw]
    simp [hg,qbk,hm,after] at hI
    exact ⟨hc,by simpa [qbk,hc] using hI,(Wk.mk (by simp [hh]) (by simp [go_sem]) (by simp [hu,qaa hu,go_sem]) (by simp [go_sem]))⟩
 ·
  rw [List.drop_eq_nil_of_le (by omega),ascK] at hI
  simp -dsimp [go_sem,hN,← hI]
theorem c_interp_valid (a:Bool) (r w:List qag):APure Tryz.prog 93 [.agg [Bo a,.slice (r.map qa9),.slice (w.map qa9)]] (Bo (qbw a r w)):=by
 refine qad Tryz.func93 rfl (by kernel_rfl) (by simp [Tryz.ntmps93]) rfl ?_
 intro E h hN hh hu hb
 rw [Tryz.ntmps93] at hN
 refine qab _ _ _ ?_
 simp -dsimp [go_sem,hN]
 refine cnd ?_ ?_<;>intro h0<;>try simp at h0
 all_goals simp -dsimp [go_sem,hN,qbw,h0]
 refine qac (c_interp_ascending r) ?_
 simp -dsimp [go_sem,hN]
 refine qai (c_interp_ascending w) (by simp) ?_
 simp -dsimp [go_sem,hN,qbw,h0]
theorem c_state_absent (p:Pr):APure Tryz.prog 61 [.agg p.c] (Bo (decide (p.v.k=0))):=by
 refine qad Tryz.func61 rfl (by kernel_rfl) (by simp [Tryz.ntmps61]) rfl ?_
 intro E h hN hh hu hb
 rw [Tryz.ntmps61] at hN
 refine qab _ _ _ ?_
 simp -dsimp [go_sem,hN]
theorem c_IndexFunc_Pair (l:List Pr) (f:FuncId) (p:Pr→Bool) (hp:∀ x:Pr,APure Tryz.prog f [.agg x.c] (Bo (p x))):APure Tryz.prog 105 [.slice (l.map Pr.c),.fn (.func f) [] []] (I (idxOf p l)):=by
 refine qad Tryz.func105 rfl (by kernel_rfl) (by simp [Tryz.ntmps105]) rfl ?_
 intro E h hN hh hu hb
 rw [Tryz.ntmps105] at hN
 refine qab _ _ _ ?_
 simp [go_sem] at hb
 simp -dsimp [go_sem,hN]
 refine qah l.length (fun n=>qbj p n (l.drop n)=idxOf p l) (fun n=>⟨[(0,.slice (l.map Pr.c)),(1,.fn (.func f) [] []),(7,I l.length),(8,I n)],h⟩) (by simp [idxOf]) (Wk.mk (by simp [hh]) (by simp [go_sem]) (by simp [hu,qaa hu,go_sem]) (by simp [go_sem])) ?_
 intro n hn hI
 have hw:=qax hn hb.1
 simp -dsimp [go_sem,hN]
 refine cnd ?_ ?_<;>intro hc<;>try simp at hc
 ·
  rw [qaj hc,qbj] at hI
  simp -dsimp [go_sem,hN,hc]
  refine qac (hp l[n]) ?_
  simp -dsimp [go_sem,hN]
  refine cnd ?_ ?_<;>intro hg<;>try simp at hg
  ·
   simp -dsimp [go_sem,hN]
   simpa [hg] using hI
  ·
   simp -dsimp [go_sem,hN,hw]
   exact ⟨hc,by simpa [hg] using hI,(Wk.mk (by simp [hh]) (by simp [go_sem]) (by simp [hu,qaa hu,go_sem]) (by simp [go_sem]))⟩
 ·
  rw [List.drop_eq_nil_of_le (by omega),qbj] at hI
  simp -dsimp [go_sem,hN,← hI]
theorem c_ContainsFunc_Pair (l:List Pr) (f:FuncId) (p:Pr→Bool) (hp:∀ x:Pr,APure Tryz.prog f [.agg x.c] (Bo (p x))):APure Tryz.prog 82 [.slice (l.map Pr.c),.fn (.func f) [] []] (Bo (anyL p l)):=by
 refine qad Tryz.func82 rfl (by kernel_rfl) (by simp [Tryz.ntmps82]) rfl ?_
 intro E h hN hh hu hb
 rw [Tryz.ntmps82] at hN
 refine qab _ _ _ ?_
 simp -dsimp [go_sem,hN]
 refine qac (c_IndexFunc_Pair l f p hp) ?_
 simp -dsimp [go_sem,hN,idxOf_nonneg]
theorem c_state_sorted (l:List Pr):APure Tryz.prog 58 [.slice (l.map Pr.c)] (Bo (sortedP none l)):=by
 refine qad Tryz.func58 rfl (by kernel_rfl) (by simp [Tryz.ntmps58]) rfl ?_
 intro E h hN hh hu hb
 rw [Tryz.ntmps58] at hN
 refine qab _ _ _ ?_
 simp [go_sem] at hb
 simp -dsimp [go_sem,hN]
 refine qah l.length (fun n=>sortedP ((qbk l n).map Pr.key) (l.drop n)=sortedP none l) (fun n=>⟨[(0,.slice (l.map Pr.c)),(5,.slice (l.map Pr.c)),(6,I l.length),(7,I n)],h⟩) (by simp [qbk]) (Wk.mk (by simp [hh]) (by simp [go_sem]) (by simp [hu,qaa hu,go_sem]) (by simp [go_sem])) ?_
 intro n hn hI
 have hw:=qax hn hb.1
 simp -dsimp [go_sem,hN]
 refine cnd ?_ ?_<;>intro hc<;>try simp at hc
 ·
  rw [qaj hc,sortedP] at hI
  simp -dsimp [go_sem,hN,hc]
  refine qan 22 mixed (by kernel_rfl) (by kernel_rfl) ?_
  simp -dsimp [go_sem,hN]
  refine qcr (c_keys_Valid _) (by simp) ?_
  simp -dsimp [go_sem,hN]
  refine qcr (c_value_Valid _ _ _) (by simp) ?_
  cases n with
  | zero =>
   simp -dsimp [go_sem,hN]
   refine cnd ?_ ?_<;>intro hg<;>try simp at hg
   ·
    simp -dsimp [go_sem,hN]
    rw [← hI]
    rcases hg with h1 | h1<;>simp [qbk,after,h1]
   ·
    simp -dsimp [go_sem,hN,hw]
    exact ⟨hc,by simpa [hg,qbk,hc,after] using hI,(Wk.mk (by simp [hh]) (by simp [go_sem]) (by simp [hu,qaa hu,go_sem]) (by simp [go_sem]))⟩
  | succ m =>
   have hm:m<l.length:=by omega
   have hw2:=wrapN (Nat.le_of_lt hm) hb.1
   simp at hw
   simp -dsimp [go_sem,hN,hw2,hm]
   refine cnd ?_ ?_<;>intro hg<;>try simp at hg
   ·
    simp -dsimp [go_sem,hN]
    rw [← hI]
    grind [qbk,after]
   ·
    simp -dsimp [go_sem,hN,hw]
    simp [hg,qbk,hm,after] at hI
    exact ⟨hc,by simpa [qbk,hc] using hI,(Wk.mk (by simp [hh]) (by simp [go_sem]) (by simp [hu,qaa hu,go_sem]) (by simp [go_sem]))⟩
 ·
  rw [List.drop_eq_nil_of_le (by omega),sortedP] at hI
  simp -dsimp [go_sem,hN,← hI]
theorem c_state_Valid (l:List Pr):APure Tryz.prog 57 [.slice (l.map Pr.c)] (Bo (qay l)):=by
 refine qad Tryz.func57 rfl (by kernel_rfl) (by simp [Tryz.ntmps57]) rfl ?_
 intro E h hN hh hu hb
 rw [Tryz.ntmps57] at hN
 refine qab _ _ _ ?_
 simp -dsimp [go_sem,hN]
 refine qac (c_state_sorted l) ?_
 simp -dsimp [go_sem,hN]
 refine qai (c_ContainsFunc_Pair l _ _ c_state_absent) (by simp) ?_
 simp -dsimp [go_sem,hN,qay]
theorem c_state_Get (l:List Pr) (k:qag):APure Tryz.prog 239 [.slice (l.map Pr.c),S k] (.agg (getP l k).c):=by
 refine qad Tryz.func239 rfl (by kernel_rfl) (by simp [Tryz.ntmps239]) rfl ?_
 intro E h hN hh hu hb
 rw [Tryz.ntmps239] at hN
 refine qab _ _ _ ?_
 simp [go_sem] at hb
 simp -dsimp [go_sem,hN]
 refine qah l.length (fun n=>getP (l.drop n) k=getP l k) (fun n=>⟨[(0,.slice (l.map Pr.c)),(1,S k),(4,P0 h.length),(7,.slice (l.map Pr.c)),(8,I l.length),(9,I n)],h++[.cells [I 0,I 0,S em]]⟩) (by simp) (Wk.mk (by simp [hh]) (by simp [go_sem]) (by simp [hu,qaa hu,go_sem]) (by simp [go_sem])) ?_
 intro n hn hI
 have hw:=qax hn hb.1.1
 simp -dsimp [go_sem,hN]
 refine cnd ?_ ?_<;>intro hc<;>try simp at hc
 ·
  rw [qaj hc,getP] at hI
  simp -dsimp [go_sem,hN,hc]
  refine cnd ?_ ?_<;>intro hg<;>try simp at hg
  ·
   simp -dsimp [go_sem,hN]
   simp [← hI,hg]
  ·
   simp -dsimp [go_sem,hN,hw]
   exact ⟨hc,by simpa [hg] using hI,(Wk.mk (by simp [hh]) (by simp [go_sem]) (by simp [hu,qaa hu,go_sem]) (by simp [go_sem]))⟩
 ·
  rw [List.drop_eq_nil_of_le (by omega),getP] at hI
  simp -dsimp [go_sem,hN,← hI]
end Go.Proofs.YtcjolkgjhcdhcaaGreatDoor
