/- Part 31 of a proof: Ty, W1 -/
import Derived.Test.YtcjolkgjhcdhcaaGreatDoorProg
import Derived.KernelRfl
import Derived.Test.YtcjolkgjhcdhcaaGreatDoorR09
import Derived.Test.YtcjolkgjhcdhcaaGreatDoorR13
import Derived.Test.YtcjolkgjhcdhcaaGreatDoorR20
set_option linter.all false

namespace Go.Proofs.YtcjolkgjhcdhcaaGreatDoor
open Go Go.Abs
@[simp] theorem tk1:qak Tryz.prog 1=.func:=by kernel_rfl
@[simp] theorem ts1:qau Tryz.prog 1=1:=by kernel_rfl
@[simp] theorem tz1:qa1 Tryz.prog 1=[.val .nilFunc]:=by kernel_rfl
@[simp] theorem tb1:qap Tryz.prog 1=8:=by kernel_rfl
@[simp] theorem tk2:qak Tryz.prog 2=.int .i64:=by kernel_rfl
@[simp] theorem ts2:qau Tryz.prog 2=1:=by kernel_rfl
@[simp] theorem tz2:qa1 Tryz.prog 2=[.val (.int .i64 0)]:=by kernel_rfl
@[simp] theorem tb2:qap Tryz.prog 2=8:=by kernel_rfl
@[simp] theorem tk3:qak Tryz.prog 3=.int .i64:=by kernel_rfl
@[simp] theorem ts3:qau Tryz.prog 3=1:=by kernel_rfl
@[simp] theorem tz3:qa1 Tryz.prog 3=[.val (.int .i64 0)]:=by kernel_rfl
@[simp] theorem tb3:qap Tryz.prog 3=8:=by kernel_rfl
@[simp] theorem tk4:qak Tryz.prog 4=.bool:=by kernel_rfl
@[simp] theorem ts4:qau Tryz.prog 4=1:=by kernel_rfl
@[simp] theorem tz4:qa1 Tryz.prog 4=[.val (.bool false)]:=by kernel_rfl
@[simp] theorem tb4:qap Tryz.prog 4=1:=by kernel_rfl
@[simp] theorem tk5:qak Tryz.prog 5=.int .u8:=by kernel_rfl
@[simp] theorem ts5:qau Tryz.prog 5=1:=by kernel_rfl
@[simp] theorem tz5:qa1 Tryz.prog 5=[.val (.int .u8 0)]:=by kernel_rfl
@[simp] theorem tb5:qap Tryz.prog 5=1:=by kernel_rfl
@[simp] theorem tk9:qak Tryz.prog 9=.string:=by kernel_rfl
@[simp] theorem ts9:qau Tryz.prog 9=1:=by kernel_rfl
@[simp] theorem tz9:qa1 Tryz.prog 9=[.val (.string ⟨#[]⟩)]:=by kernel_rfl
@[simp] theorem tb9:qap Tryz.prog 9=16:=by kernel_rfl
@[simp] theorem tk20:qak Tryz.prog 20=.iface:=by kernel_rfl
@[simp] theorem ts20:qau Tryz.prog 20=1:=by kernel_rfl
@[simp] theorem tz20:qa1 Tryz.prog 20=[.val .nilIface]:=by kernel_rfl
@[simp] theorem tb20:qap Tryz.prog 20=16:=by kernel_rfl
@[simp] theorem tk21:qak Tryz.prog 21=.int .i32:=by kernel_rfl
@[simp] theorem ts21:qau Tryz.prog 21=1:=by kernel_rfl
@[simp] theorem tz21:qa1 Tryz.prog 21=[.val (.int .i32 0)]:=by kernel_rfl
@[simp] theorem tb21:qap Tryz.prog 21=4:=by kernel_rfl
@[simp] theorem tk22:qak Tryz.prog 22=.slice 58 3:=by kernel_rfl
@[simp] theorem ts22:qau Tryz.prog 22=1:=by kernel_rfl
@[simp] theorem tz22:qa1 Tryz.prog 22=[.nils]:=by kernel_rfl
@[simp] theorem tb22:qap Tryz.prog 22=24:=by kernel_rfl
@[simp] theorem tk25:qak Tryz.prog 25=.slice 28 1:=by kernel_rfl
@[simp] theorem ts25:qau Tryz.prog 25=1:=by kernel_rfl
@[simp] theorem tz25:qa1 Tryz.prog 25=[.nils]:=by kernel_rfl
@[simp] theorem tb25:qap Tryz.prog 25=24:=by kernel_rfl
@[simp] theorem tk28:qak Tryz.prog 28=.slice 3 1:=by kernel_rfl
@[simp] theorem ts28:qau Tryz.prog 28=1:=by kernel_rfl
@[simp] theorem tz28:qa1 Tryz.prog 28=[.nils]:=by kernel_rfl
@[simp] theorem tb28:qap Tryz.prog 28=24:=by kernel_rfl
@[simp] theorem tk29:qak Tryz.prog 29=.slice 39 8:=by kernel_rfl
@[simp] theorem ts29:qau Tryz.prog 29=1:=by kernel_rfl
@[simp] theorem tz29:qa1 Tryz.prog 29=[.nils]:=by kernel_rfl
@[simp] theorem tb29:qap Tryz.prog 29=24:=by kernel_rfl
@[simp] theorem tk30:qak Tryz.prog 30=.slice 4 1:=by kernel_rfl
@[simp] theorem ts30:qau Tryz.prog 30=1:=by kernel_rfl
@[simp] theorem tz30:qa1 Tryz.prog 30=[.nils]:=by kernel_rfl
@[simp] theorem tb30:qap Tryz.prog 30=24:=by kernel_rfl
@[simp] theorem tk31:qak Tryz.prog 31=.slice 73 4:=by kernel_rfl
@[simp] theorem ts31:qau Tryz.prog 31=1:=by kernel_rfl
@[simp] theorem tz31:qa1 Tryz.prog 31=[.nils]:=by kernel_rfl
@[simp] theorem tb31:qap Tryz.prog 31=24:=by kernel_rfl
@[simp] theorem tk33:qak Tryz.prog 33=.struct [(0,1),(1,1),(2,1),(3,1)]:=by kernel_rfl
@[simp] theorem ts33:qau Tryz.prog 33=4:=by kernel_rfl
@[simp] theorem tz33:qa1 Tryz.prog 33=[.nils,.nils,.val (.int .i64 0),.nils]:=by kernel_rfl
@[simp] theorem tb33:qap Tryz.prog 33=80:=by kernel_rfl
@[simp] theorem tk34:qak Tryz.prog 34=.slice 71 3:=by kernel_rfl
@[simp] theorem ts34:qau Tryz.prog 34=1:=by kernel_rfl
@[simp] theorem tz34:qa1 Tryz.prog 34=[.nils]:=by kernel_rfl
@[simp] theorem tb34:qap Tryz.prog 34=24:=by kernel_rfl
@[simp] theorem tk36:qak Tryz.prog 36=.struct [(0,1),(1,1),(2,1)]:=by kernel_rfl
@[simp] theorem ts36:qau Tryz.prog 36=3:=by kernel_rfl
@[simp] theorem tz36:qa1 Tryz.prog 36=[.val (.int .i64 0),.val (.int .i64 0),.nils]:=by kernel_rfl
@[simp] theorem tb36:qap Tryz.prog 36=40:=by kernel_rfl
@[simp] theorem tk37:qak Tryz.prog 37=.slice 9 1:=by kernel_rfl
@[simp] theorem ts37:qau Tryz.prog 37=1:=by kernel_rfl
@[simp] theorem tz37:qa1 Tryz.prog 37=[.nils]:=by kernel_rfl
@[simp] theorem tb37:qap Tryz.prog 37=24:=by kernel_rfl
@[simp] theorem tk39:qak Tryz.prog 39=.struct [(0,3),(3,1),(4,1),(5,1),(6,1),(7,1)]:=by kernel_rfl
@[simp] theorem ts39:qau Tryz.prog 39=8:=by kernel_rfl
@[simp] theorem tz39:qa1 Tryz.prog 39=[.val (.int .i64 0),.val (.int .i64 0),.nils,.nils,.nils,.nils,.val (.string ⟨#[]⟩),.val (.int .i64 0)]:=by kernel_rfl
@[simp] theorem tb39:qap Tryz.prog 39=136:=by kernel_rfl
@[simp] theorem tk43:qak Tryz.prog 43=.slice 65 3:=by kernel_rfl
@[simp] theorem ts43:qau Tryz.prog 43=1:=by kernel_rfl
@[simp] theorem tz43:qa1 Tryz.prog 43=[.nils]:=by kernel_rfl
@[simp] theorem tb43:qap Tryz.prog 43=24:=by kernel_rfl
@[simp] theorem tk44:qak Tryz.prog 44=.slice 68 7:=by kernel_rfl
@[simp] theorem ts44:qau Tryz.prog 44=1:=by kernel_rfl
@[simp] theorem tz44:qa1 Tryz.prog 44=[.nils]:=by kernel_rfl
@[simp] theorem tb44:qap Tryz.prog 44=24:=by kernel_rfl
@[simp] theorem tk46:qak Tryz.prog 46=.struct [(0,1),(1,1),(2,1)]:=by kernel_rfl
@[simp] theorem ts46:qau Tryz.prog 46=3:=by kernel_rfl
@[simp] theorem tz46:qa1 Tryz.prog 46=[.nils,.nils,.nils]:=by kernel_rfl
@[simp] theorem tb46:qap Tryz.prog 46=72:=by kernel_rfl
@[simp] theorem tk58:qak Tryz.prog 58=.struct [(0,1),(1,1),(2,1)]:=by kernel_rfl
@[simp] theorem ts58:qau Tryz.prog 58=3:=by kernel_rfl
@[simp] theorem tz58:qa1 Tryz.prog 58=[.val (.bool false),.nils,.nils]:=by kernel_rfl
@[simp] theorem tb58:qap Tryz.prog 58=56:=by kernel_rfl
@[simp] theorem tk62:qak Tryz.prog 62=.slice 98 2:=by kernel_rfl
@[simp] theorem ts62:qau Tryz.prog 62=1:=by kernel_rfl
@[simp] theorem tz62:qa1 Tryz.prog 62=[.nils]:=by kernel_rfl
@[simp] theorem tb62:qap Tryz.prog 62=24:=by kernel_rfl
@[simp] theorem tk63:qak Tryz.prog 63=.slice 100 13:=by kernel_rfl
@[simp] theorem ts63:qau Tryz.prog 63=1:=by kernel_rfl
@[simp] theorem tz63:qa1 Tryz.prog 63=[.nils]:=by kernel_rfl
@[simp] theorem tb63:qap Tryz.prog 63=24:=by kernel_rfl
@[simp] theorem tk65:qak Tryz.prog 65=.struct [(0,1),(1,1),(2,1)]:=by kernel_rfl
@[simp] theorem ts65:qau Tryz.prog 65=3:=by kernel_rfl
@[simp] theorem tz65:qa1 Tryz.prog 65=[.val (.string ⟨#[]⟩),.nils,.nils]:=by kernel_rfl
@[simp] theorem tb65:qap Tryz.prog 65=64:=by kernel_rfl
@[simp] theorem tk68:qak Tryz.prog 68=.struct [(0,1),(1,1),(2,1),(3,3),(6,1)]:=by kernel_rfl
@[simp] theorem ts68:qau Tryz.prog 68=7:=by kernel_rfl
@[simp] theorem tz68:qa1 Tryz.prog 68=[.val (.int .i64 0),.val (.string ⟨#[]⟩),.nils,.val (.bool false),.nils,.nils,.val (.int .i64 0)]:=by kernel_rfl
@[simp] theorem tb68:qap Tryz.prog 68=112:=by kernel_rfl
@[simp] theorem tk71:qak Tryz.prog 71=.struct [(0,1),(1,1),(2,1)]:=by kernel_rfl
@[simp] theorem ts71:qau Tryz.prog 71=3:=by kernel_rfl
@[simp] theorem tz71:qa1 Tryz.prog 71=[.val (.int .i64 0),.val (.int .i64 0),.val (.string ⟨#[]⟩)]:=by kernel_rfl
@[simp] theorem fl71:flatOf Tryz.prog 71=[.int .i64,.int .i64,.string]:=by kernel_rfl
@[simp] theorem tb71:qap Tryz.prog 71=32:=by kernel_rfl
@[simp] theorem tk73:qak Tryz.prog 73=.struct [(0,1),(1,3)]:=by kernel_rfl
@[simp] theorem ts73:qau Tryz.prog 73=4:=by kernel_rfl
@[simp] theorem tz73:qa1 Tryz.prog 73=[.val (.string ⟨#[]⟩),.val (.int .i64 0),.val (.int .i64 0),.val (.string ⟨#[]⟩)]:=by kernel_rfl
@[simp] theorem fl73:flatOf Tryz.prog 73=[.string,.int .i64,.int .i64,.string]:=by kernel_rfl
@[simp] theorem tb73:qap Tryz.prog 73=48:=by kernel_rfl
@[simp] theorem tk76:qak Tryz.prog 76=.int .i64:=by kernel_rfl
@[simp] theorem ts76:qau Tryz.prog 76=1:=by kernel_rfl
@[simp] theorem tz76:qa1 Tryz.prog 76=[.val (.int .i64 0)]:=by kernel_rfl
@[simp] theorem tb76:qap Tryz.prog 76=8:=by kernel_rfl
@[simp] theorem tk81:qak Tryz.prog 81=.func:=by kernel_rfl
@[simp] theorem ts81:qau Tryz.prog 81=1:=by kernel_rfl
@[simp] theorem tz81:qa1 Tryz.prog 81=[.val .nilFunc]:=by kernel_rfl
@[simp] theorem tb81:qap Tryz.prog 81=8:=by kernel_rfl
@[simp] theorem tk89:qak Tryz.prog 89=.func:=by kernel_rfl
@[simp] theorem ts89:qau Tryz.prog 89=1:=by kernel_rfl
@[simp] theorem tz89:qa1 Tryz.prog 89=[.val .nilFunc]:=by kernel_rfl
@[simp] theorem tb89:qap Tryz.prog 89=8:=by kernel_rfl
@[simp] theorem tk91:qak Tryz.prog 91=.struct [(0,1)]:=by kernel_rfl
@[simp] theorem ts91:qau Tryz.prog 91=1:=by kernel_rfl
@[simp] theorem tz91:qa1 Tryz.prog 91=[.val .nilFunc]:=by kernel_rfl
@[simp] theorem tb91:qap Tryz.prog 91=8:=by kernel_rfl
@[simp] theorem tk94:qak Tryz.prog 94=.slice 96 4:=by kernel_rfl
@[simp] theorem ts94:qau Tryz.prog 94=1:=by kernel_rfl
@[simp] theorem tz94:qa1 Tryz.prog 94=[.nils]:=by kernel_rfl
@[simp] theorem tb94:qap Tryz.prog 94=24:=by kernel_rfl
@[simp] theorem tk96:qak Tryz.prog 96=.struct [(0,1),(1,1),(2,1),(3,1)]:=by kernel_rfl
@[simp] theorem ts96:qau Tryz.prog 96=4:=by kernel_rfl
@[simp] theorem tz96:qa1 Tryz.prog 96=[.val (.int .i64 0),.val (.int .i64 0),.val (.string ⟨#[]⟩),.nils]:=by kernel_rfl
@[simp] theorem tb96:qap Tryz.prog 96=56:=by kernel_rfl
@[simp] theorem tk98:qak Tryz.prog 98=.struct [(0,1),(1,1)]:=by kernel_rfl
@[simp] theorem ts98:qau Tryz.prog 98=2:=by kernel_rfl
@[simp] theorem tz98:qa1 Tryz.prog 98=[.val (.string ⟨#[]⟩),.val (.int .i64 0)]:=by kernel_rfl
@[simp] theorem fl98:flatOf Tryz.prog 98=[.string,.int .i64]:=by kernel_rfl
@[simp] theorem tb98:qap Tryz.prog 98=24:=by kernel_rfl
@[simp] theorem tk100:qak Tryz.prog 100=.struct [(0,1),(1,1),(2,1),(3,4),(7,4),(11,1),(12,1)]:=by kernel_rfl
@[simp] theorem ts100:qau Tryz.prog 100=13:=by kernel_rfl
@[simp] theorem tz100:qa1 Tryz.prog 100=[.val (.int .i64 0),.val (.string ⟨#[]⟩),.val (.int .i64 0),.val (.int .i64 0),.val (.int .i64 0),.val (.string ⟨#[]⟩),.nils,.val (.int .i64 0),.val (.int .i64 0),.val (.string ⟨#[]⟩),.nils,.nils,.nils]:=by kernel_rfl
@[simp] theorem tb100:qap Tryz.prog 100=192:=by kernel_rfl
@[simp] theorem tk103:qak Tryz.prog 103=.func:=by kernel_rfl
@[simp] theorem ts103:qau Tryz.prog 103=1:=by kernel_rfl
@[simp] theorem tz103:qa1 Tryz.prog 103=[.val .nilFunc]:=by kernel_rfl
@[simp] theorem tb103:qap Tryz.prog 103=8:=by kernel_rfl
@[simp] theorem tk105:qak Tryz.prog 105=.func:=by kernel_rfl
@[simp] theorem ts105:qau Tryz.prog 105=1:=by kernel_rfl
@[simp] theorem tz105:qa1 Tryz.prog 105=[.val .nilFunc]:=by kernel_rfl
@[simp] theorem tb105:qap Tryz.prog 105=8:=by kernel_rfl
@[simp] theorem tk106:qak Tryz.prog 106=.func:=by kernel_rfl
@[simp] theorem ts106:qau Tryz.prog 106=1:=by kernel_rfl
@[simp] theorem tz106:qa1 Tryz.prog 106=[.val .nilFunc]:=by kernel_rfl
@[simp] theorem tb106:qap Tryz.prog 106=8:=by kernel_rfl
@[simp] theorem tk108:qak Tryz.prog 108=.func:=by kernel_rfl
@[simp] theorem ts108:qau Tryz.prog 108=1:=by kernel_rfl
@[simp] theorem tz108:qa1 Tryz.prog 108=[.val .nilFunc]:=by kernel_rfl
@[simp] theorem tb108:qap Tryz.prog 108=8:=by kernel_rfl
@[simp] theorem tk109:qak Tryz.prog 109=.func:=by kernel_rfl
@[simp] theorem ts109:qau Tryz.prog 109=1:=by kernel_rfl
@[simp] theorem tz109:qa1 Tryz.prog 109=[.val .nilFunc]:=by kernel_rfl
@[simp] theorem tb109:qap Tryz.prog 109=8:=by kernel_rfl
@[simp] theorem tk126:qak Tryz.prog 126=.func:=by kernel_rfl
@[simp] theorem ts126:qau Tryz.prog 126=1:=by kernel_rfl
@[simp] theorem tz126:qa1 Tryz.prog 126=[.val .nilFunc]:=by kernel_rfl
@[simp] theorem tb126:qap Tryz.prog 126=8:=by kernel_rfl
@[simp] theorem tk130:qak Tryz.prog 130=.ptr:=by kernel_rfl
@[simp] theorem ts130:qau Tryz.prog 130=1:=by kernel_rfl
@[simp] theorem tz130:qa1 Tryz.prog 130=[.val (.pointer none)]:=by kernel_rfl
@[simp] theorem tb130:qap Tryz.prog 130=8:=by kernel_rfl
@[simp] theorem tk132:qak Tryz.prog 132=.map 9 71:=by kernel_rfl
@[simp] theorem ts132:qau Tryz.prog 132=1:=by kernel_rfl
@[simp] theorem tz132:qa1 Tryz.prog 132=[.val (.map none)]:=by kernel_rfl
@[simp] theorem tb132:qap Tryz.prog 132=8:=by kernel_rfl
@[simp] theorem tk134:qak Tryz.prog 134=.struct [(0,1),(1,3),(4,1),(5,1),(6,8)]:=by kernel_rfl
@[simp] theorem ts134:qau Tryz.prog 134=14:=by kernel_rfl
@[simp] theorem tz134:qa1 Tryz.prog 134=[.nils,.val (.bool false),.nils,.nils,.val (.map none),.val (.map none),.val (.int .i64 0),.val (.int .i64 0),.nils,.nils,.nils,.nils,.val (.string ⟨#[]⟩),.val (.int .i64 0)]:=by kernel_rfl
@[simp] theorem tb134:qap Tryz.prog 134=232:=by kernel_rfl
@[simp] theorem tk137:qak Tryz.prog 137=.struct [(0,3),(3,1)]:=by kernel_rfl
@[simp] theorem ts137:qau Tryz.prog 137=4:=by kernel_rfl
@[simp] theorem tz137:qa1 Tryz.prog 137=[.val (.int .i64 0),.val (.int .i64 0),.nils,.val (.string ⟨#[]⟩)]:=by kernel_rfl
@[simp] theorem tb137:qap Tryz.prog 137=56:=by kernel_rfl
@[simp] theorem tk146:qak Tryz.prog 146=.func:=by kernel_rfl
@[simp] theorem ts146:qau Tryz.prog 146=1:=by kernel_rfl
@[simp] theorem tz146:qa1 Tryz.prog 146=[.val .nilFunc]:=by kernel_rfl
@[simp] theorem tb146:qap Tryz.prog 146=8:=by kernel_rfl
@[simp] theorem tk148:qak Tryz.prog 148=.array 4 3 1:=by kernel_rfl
@[simp] theorem ts148:qau Tryz.prog 148=4:=by kernel_rfl
@[simp] theorem tz148:qa1 Tryz.prog 148=[.val (.int .i64 0),.val (.int .i64 0),.val (.int .i64 0),.val (.int .i64 0)]:=by kernel_rfl
@[simp] theorem tb148:qap Tryz.prog 148=32:=by kernel_rfl
@[simp] theorem tk153:qak Tryz.prog 153=.struct [(0,1),(1,3),(4,1),(5,1),(6,8)]:=by kernel_rfl
@[simp] theorem ts153:qau Tryz.prog 153=14:=by kernel_rfl
@[simp] theorem tz153:qa1 Tryz.prog 153=[.nils,.val (.bool false),.nils,.nils,.nils,.nils,.val (.int .i64 0),.val (.int .i64 0),.nils,.nils,.nils,.nils,.val (.string ⟨#[]⟩),.val (.int .i64 0)]:=by kernel_rfl
@[simp] theorem tb153:qap Tryz.prog 153=264:=by kernel_rfl
@[simp] theorem tk156:qak Tryz.prog 156=.int .u64:=by kernel_rfl
@[simp] theorem ts156:qau Tryz.prog 156=1:=by kernel_rfl
@[simp] theorem tz156:qa1 Tryz.prog 156=[.val (.int .u64 0)]:=by kernel_rfl
@[simp] theorem tb156:qap Tryz.prog 156=8:=by kernel_rfl
@[simp] theorem tk158:qak Tryz.prog 158=.map 9 3:=by kernel_rfl
@[simp] theorem ts158:qau Tryz.prog 158=1:=by kernel_rfl
@[simp] theorem tz158:qa1 Tryz.prog 158=[.val (.map none)]:=by kernel_rfl
@[simp] theorem tb158:qap Tryz.prog 158=8:=by kernel_rfl
@[simp] theorem tk171:qak Tryz.prog 171=.struct [(0,1),(1,1)]:=by kernel_rfl
@[simp] theorem ts171:qau Tryz.prog 171=2:=by kernel_rfl
@[simp] theorem tz171:qa1 Tryz.prog 171=[.nils,.nils]:=by kernel_rfl
@[simp] theorem tb171:qap Tryz.prog 171=48:=by kernel_rfl
@[simp] theorem tk176:qak Tryz.prog 176=.struct [(0,1),(1,1),(2,1),(3,1)]:=by kernel_rfl
@[simp] theorem ts176:qau Tryz.prog 176=4:=by kernel_rfl
@[simp] theorem tz176:qa1 Tryz.prog 176=[.val (.int .i64 0),.val (.int .i64 0),.val (.int .i64 0),.val (.int .i64 0)]:=by kernel_rfl
@[simp] theorem fl176:flatOf Tryz.prog 176=[.int .i64,.int .i64,.int .i64,.int .i64]:=by kernel_rfl
@[simp] theorem tb176:qap Tryz.prog 176=32:=by kernel_rfl
@[simp] theorem tk181:qak Tryz.prog 181=.ptr:=by kernel_rfl
@[simp] theorem ts181:qau Tryz.prog 181=1:=by kernel_rfl
@[simp] theorem tz181:qa1 Tryz.prog 181=[.val (.pointer none)]:=by kernel_rfl
@[simp] theorem tb181:qap Tryz.prog 181=8:=by kernel_rfl
@[simp] theorem tk182:qak Tryz.prog 182=.map 9 4:=by kernel_rfl
@[simp] theorem ts182:qau Tryz.prog 182=1:=by kernel_rfl
@[simp] theorem tz182:qa1 Tryz.prog 182=[.val (.map none)]:=by kernel_rfl
@[simp] theorem tb182:qap Tryz.prog 182=8:=by kernel_rfl
@[simp] theorem tk184:qak Tryz.prog 184=.struct [(0,1),(1,1),(2,1)]:=by kernel_rfl
@[simp] theorem ts184:qau Tryz.prog 184=3:=by kernel_rfl
@[simp] theorem tz184:qa1 Tryz.prog 184=[.val (.map none),.val (.map none),.val (.map none)]:=by kernel_rfl
@[simp] theorem tb184:qap Tryz.prog 184=24:=by kernel_rfl
@[simp] theorem tk198:qak Tryz.prog 198=.int .u64:=by kernel_rfl
@[simp] theorem ts198:qau Tryz.prog 198=1:=by kernel_rfl
@[simp] theorem tz198:qa1 Tryz.prog 198=[.val (.int .u64 0)]:=by kernel_rfl
@[simp] theorem tb198:qap Tryz.prog 198=8:=by kernel_rfl
@[simp] theorem tk200:qak Tryz.prog 200=.slice 203 20:=by kernel_rfl
@[simp] theorem ts200:qau Tryz.prog 200=1:=by kernel_rfl
@[simp] theorem tz200:qa1 Tryz.prog 200=[.nils]:=by kernel_rfl
@[simp] theorem tb200:qap Tryz.prog 200=24:=by kernel_rfl
@[simp] theorem tk203:qak Tryz.prog 203=.struct [(0,1),(1,13),(14,1),(15,4),(19,1)]:=by kernel_rfl
@[simp] theorem ts203:qau Tryz.prog 203=20:=by kernel_rfl
@[simp] theorem tz203:qa1 Tryz.prog 203=[.val (.bool false),.val (.int .i64 0),.val (.string ⟨#[]⟩),.val (.int .i64 0),.val (.int .i64 0),.val (.int .i64 0),.val (.string ⟨#[]⟩),.nils,.val (.int .i64 0),.val (.int .i64 0),.val (.string ⟨#[]⟩),.nils,.nils,.nils,.val (.int .i64 0),.val (.int .i64 0),.val (.int .i64 0),.val (.string ⟨#[]⟩),.nils,.val (.bool false)]:=by kernel_rfl
@[simp] theorem tb203:qap Tryz.prog 203=272:=by kernel_rfl
@[simp] theorem tk217:qak Tryz.prog 217=.func:=by kernel_rfl
@[simp] theorem ts217:qau Tryz.prog 217=1:=by kernel_rfl
@[simp] theorem tz217:qa1 Tryz.prog 217=[.val .nilFunc]:=by kernel_rfl
@[simp] theorem tb217:qap Tryz.prog 217=8:=by kernel_rfl
@[simp] theorem tk218:qak Tryz.prog 218=.func:=by kernel_rfl
@[simp] theorem ts218:qau Tryz.prog 218=1:=by kernel_rfl
@[simp] theorem tz218:qa1 Tryz.prog 218=[.val .nilFunc]:=by kernel_rfl
@[simp] theorem tb218:qap Tryz.prog 218=8:=by kernel_rfl
@[simp] theorem tk221:qak Tryz.prog 221=.func:=by kernel_rfl
@[simp] theorem ts221:qau Tryz.prog 221=1:=by kernel_rfl
@[simp] theorem tz221:qa1 Tryz.prog 221=[.val .nilFunc]:=by kernel_rfl
@[simp] theorem tb221:qap Tryz.prog 221=8:=by kernel_rfl
@[simp] theorem tk251:qak Tryz.prog 251=.func:=by kernel_rfl
@[simp] theorem ts251:qau Tryz.prog 251=1:=by kernel_rfl
@[simp] theorem tz251:qa1 Tryz.prog 251=[.val .nilFunc]:=by kernel_rfl
@[simp] theorem tb251:qap Tryz.prog 251=8:=by kernel_rfl
@[simp] theorem tk252:qak Tryz.prog 252=.ptr:=by kernel_rfl
@[simp] theorem ts252:qau Tryz.prog 252=1:=by kernel_rfl
@[simp] theorem tz252:qa1 Tryz.prog 252=[.val (.pointer none)]:=by kernel_rfl
@[simp] theorem tb252:qap Tryz.prog 252=8:=by kernel_rfl
@[simp] theorem tk254:qak Tryz.prog 254=.struct [(0,1),(1,1),(2,1)]:=by kernel_rfl
@[simp] theorem ts254:qau Tryz.prog 254=3:=by kernel_rfl
@[simp] theorem tz254:qa1 Tryz.prog 254=[.val (.int .i64 0),.val .nilFunc,.val .nilFunc]:=by kernel_rfl
@[simp] theorem tb254:qap Tryz.prog 254=24:=by kernel_rfl
@[simp] theorem tk257:qak Tryz.prog 257=.struct [(0,1),(1,1),(2,1),(3,1),(4,1),(5,1)]:=by kernel_rfl
@[simp] theorem ts257:qau Tryz.prog 257=6:=by kernel_rfl
@[simp] theorem tz257:qa1 Tryz.prog 257=[.val (.bool false),.val (.bool false),.val (.bool false),.val (.bool false),.val (.bool false),.val (.bool false)]:=by kernel_rfl
@[simp] theorem fl257:flatOf Tryz.prog 257=[.bool,.bool,.bool,.bool,.bool,.bool]:=by kernel_rfl
@[simp] theorem tb257:qap Tryz.prog 257=6:=by kernel_rfl
@[simp] theorem tk274:qak Tryz.prog 274=.struct [(0,3),(3,3)]:=by kernel_rfl
@[simp] theorem ts274:qau Tryz.prog 274=6:=by kernel_rfl
@[simp] theorem tz274:qa1 Tryz.prog 274=[.val (.int .i64 0),.val (.int .i64 0),.val (.string ⟨#[]⟩),.val (.int .i64 0),.val (.int .i64 0),.val (.string ⟨#[]⟩)]:=by kernel_rfl
@[simp] theorem fl274:flatOf Tryz.prog 274=[.int .i64,.int .i64,.string,.int .i64,.int .i64,.string]:=by kernel_rfl
@[simp] theorem tb274:qap Tryz.prog 274=64:=by kernel_rfl
@[simp] theorem tk284:qak Tryz.prog 284=.array 24 5 1:=by kernel_rfl
@[simp] theorem ts284:qau Tryz.prog 284=24:=by kernel_rfl
@[simp] theorem tz284:qa1 Tryz.prog 284=[.val (.int .u8 0),.val (.int .u8 0),.val (.int .u8 0),.val (.int .u8 0),.val (.int .u8 0),.val (.int .u8 0),.val (.int .u8 0),.val (.int .u8 0),.val (.int .u8 0),.val (.int .u8 0),.val (.int .u8 0),.val (.int .u8 0),.val (.int .u8 0),.val (.int .u8 0),.val (.int .u8 0),.val (.int .u8 0),.val (.int .u8 0),.val (.int .u8 0),.val (.int .u8 0),.val (.int .u8 0),.val (.int .u8 0),.val (.int .u8 0),.val (.int .u8 0),.val (.int .u8 0)]:=by kernel_rfl
@[simp] theorem tb284:qap Tryz.prog 284=24:=by kernel_rfl
@[simp] theorem tk287:qak Tryz.prog 287=.slice 5 1:=by kernel_rfl
@[simp] theorem ts287:qau Tryz.prog 287=1:=by kernel_rfl
@[simp] theorem tz287:qa1 Tryz.prog 287=[.nils]:=by kernel_rfl
@[simp] theorem tb287:qap Tryz.prog 287=24:=by kernel_rfl
@[simp] theorem tk294:qak Tryz.prog 294=.array 20 198 1:=by kernel_rfl
@[simp] theorem ts294:qau Tryz.prog 294=20:=by kernel_rfl
@[simp] theorem tz294:qa1 Tryz.prog 294=[.val (.int .u64 0),.val (.int .u64 0),.val (.int .u64 0),.val (.int .u64 0),.val (.int .u64 0),.val (.int .u64 0),.val (.int .u64 0),.val (.int .u64 0),.val (.int .u64 0),.val (.int .u64 0),.val (.int .u64 0),.val (.int .u64 0),.val (.int .u64 0),.val (.int .u64 0),.val (.int .u64 0),.val (.int .u64 0),.val (.int .u64 0),.val (.int .u64 0),.val (.int .u64 0),.val (.int .u64 0)]:=by kernel_rfl
@[simp] theorem tb294:qap Tryz.prog 294=160:=by kernel_rfl
@[simp] theorem tk295:qak Tryz.prog 295=.int .u32:=by kernel_rfl
@[simp] theorem ts295:qau Tryz.prog 295=1:=by kernel_rfl
@[simp] theorem tz295:qa1 Tryz.prog 295=[.val (.int .u32 0)]:=by kernel_rfl
@[simp] theorem tb295:qap Tryz.prog 295=4:=by kernel_rfl
@[simp] theorem tk300:qak Tryz.prog 300=.array 32 5 1:=by kernel_rfl
@[simp] theorem ts300:qau Tryz.prog 300=32:=by kernel_rfl
@[simp] theorem tz300:qa1 Tryz.prog 300=[.val (.int .u8 0),.val (.int .u8 0),.val (.int .u8 0),.val (.int .u8 0),.val (.int .u8 0),.val (.int .u8 0),.val (.int .u8 0),.val (.int .u8 0),.val (.int .u8 0),.val (.int .u8 0),.val (.int .u8 0),.val (.int .u8 0),.val (.int .u8 0),.val (.int .u8 0),.val (.int .u8 0),.val (.int .u8 0),.val (.int .u8 0),.val (.int .u8 0),.val (.int .u8 0),.val (.int .u8 0),.val (.int .u8 0),.val (.int .u8 0),.val (.int .u8 0),.val (.int .u8 0),.val (.int .u8 0),.val (.int .u8 0),.val (.int .u8 0),.val (.int .u8 0),.val (.int .u8 0),.val (.int .u8 0),.val (.int .u8 0),.val (.int .u8 0)]:=by kernel_rfl
@[simp] theorem tb300:qap Tryz.prog 300=32:=by kernel_rfl
@[simp] theorem tk301:qak Tryz.prog 301=.array 64 5 1:=by kernel_rfl
@[simp] theorem ts301:qau Tryz.prog 301=64:=by kernel_rfl
@[simp] theorem tz301:qa1 Tryz.prog 301=[.val (.int .u8 0),.val (.int .u8 0),.val (.int .u8 0),.val (.int .u8 0),.val (.int .u8 0),.val (.int .u8 0),.val (.int .u8 0),.val (.int .u8 0),.val (.int .u8 0),.val (.int .u8 0),.val (.int .u8 0),.val (.int .u8 0),.val (.int .u8 0),.val (.int .u8 0),.val (.int .u8 0),.val (.int .u8 0),.val (.int .u8 0),.val (.int .u8 0),.val (.int .u8 0),.val (.int .u8 0),.val (.int .u8 0),.val (.int .u8 0),.val (.int .u8 0),.val (.int .u8 0),.val (.int .u8 0),.val (.int .u8 0),.val (.int .u8 0),.val (.int .u8 0),.val (.int .u8 0),.val (.int .u8 0),.val (.int .u8 0),.val (.int .u8 0),.val (.int .u8 0),.val (.int .u8 0),.val (.int .u8 0),.val (.int .u8 0),.val (.int .u8 0),.val (.int .u8 0),.val (.int .u8 0),.val (.int .u8 0),.val (.int .u8 0),.val (.int .u8 0),.val (.int .u8 0),.val (.int .u8 0),.val (.int .u8 0),.val (.int .u8 0),.val (.int .u8 0),.val (.int .u8 0),.val (.int .u8 0),.val (.int .u8 0),.val (.int .u8 0),.val (.int .u8 0),.val (.int .u8 0),.val (.int .u8 0),.val (.int .u8 0),.val (.int .u8 0),.val (.int .u8 0),.val (.int .u8 0),.val (.int .u8 0),.val (.int .u8 0),.val (.int .u8 0),.val (.int .u8 0),.val (.int .u8 0),.val (.int .u8 0)]:=by kernel_rfl
@[simp] theorem tb301:qap Tryz.prog 301=64:=by kernel_rfl
end Go.Proofs.YtcjolkgjhcdhcaaGreatDoor

namespace Go.Proofs.YtcjolkgjhcdhcaaGreatDoor
open Go Go.Abs Go.Cw
theorem mixed:Tryz.prog.follows .mixedOrders=true:=by kernel_rfl
theorem c_value_plain (s:qac):APure Tryz.prog 108 [S s] (Bo (qa7 s)):=by
 refine qaj Tryz.func108 Tryz.ntmps108 rfl (by kernel_rfl) rfl rfl fun E h hN hh hu hb=>?_;simp [go_sem] at hb;simp -dsimp [go_sem,hN];refine qaf s.size (fun n=>allL okB ((bl s).drop n)=allL okB (bl s)) (fun n=>⟨[(0,S s),(3,I n)],h⟩) (by simp) wkA ?_;intro n hn hI;have hw:=qaq hn hb;simp -dsimp [go_sem,hN];refine cnd ?_ ?_<;>intro hc<;>try simp at hc
 ·
  rw [bdrop hc,allL] at hI;simp -dsimp [go_sem,hN,hc];refine cnd (fun hg=>?_) (fun hg=>?_)
  ·
   simp -dsimp [go_sem,hN];simp [qa7,← hI,okB,hg]
  ·
   simp -dsimp [go_sem,hN,hw];exact ⟨hc,by simpa [okB,hg] using hI,wkA⟩
 ·
  rw [bend (by omega),allL] at hI;simp -dsimp [go_sem,hN,qa7,← hI]
theorem c_value_Valid (k n:Int) (s:qac):APure Tryz.prog 84 [.agg [I k,I n,S s]] (Bo (valOk k n s)):=by
 refine qaj Tryz.func84 Tryz.ntmps84 rfl (by kernel_rfl) rfl rfl fun E h hN hh hu hb=>?_;simp -dsimp [go_sem,hN];refine cnd ?_ ?_<;>intro h0<;>try simp at h0
 all_goals simp -dsimp [go_sem,hN,valOk,h0]
 refine cnd ?_ ?_<;>intro h1<;>try simp at h1
 all_goals simp -dsimp [go_sem,hN,valOk,h0,h1]
 refine cnd ?_ ?_<;>intro h2<;>try simp at h2
 all_goals simp -dsimp [go_sem,hN,valOk,h0,h1,h2]
 refine qae (c_value_plain s) (by simp) ?_;simp -dsimp [go_sem,hN,valOk,h0,h1,h2]
theorem c_keys_Valid1 (b:UInt8):APure Tryz.prog 107 [U8 b.toNat] (Bo (keyB b)):=by
 refine qaj Tryz.func107 Tryz.ntmps107 rfl (by kernel_rfl) rfl rfl fun E h hN hh hu hb=>?_;simp -dsimp [go_sem,hN,keyB];omega
theorem c_keys_consists (s:qac) (f:FuncId) (p:UInt8→Bool) (hp:∀ b:UInt8,APure Tryz.prog f [U8 b.toNat] (Bo (p b))):APure Tryz.prog 106 [S s,.fn (.func f) [] []] (Bo (decide ((s.size:Int)≤24)&&allL p (bl s))):=by
 refine qaj Tryz.func106 Tryz.ntmps106 rfl (by kernel_rfl) rfl rfl fun E h hN hh hu hb=>?_;simp [go_sem] at hb;simp -dsimp [go_sem,hN];refine cnd ?_ ?_<;>intro h0<;>try simp at h0
 all_goals simp -dsimp [go_sem,hN,h0]
 · simp [Int.not_le.2 h0]
 refine qaf s.size (fun n=>allL p ((bl s).drop n)=allL p (bl s)) (fun n=>⟨[(0,S s),(1,.fn (.func f) [] []),(10,I s.size),(11,I n)],h⟩) (by simp) wkA ?_;intro n hn hI;have hw:=qaq hn hb;simp -dsimp [go_sem,hN];refine cnd ?_ ?_<;>intro hc<;>try simp at hc
 ·
  rw [bdrop hc,allL] at hI;simp -dsimp [go_sem,hN,hc];refine qaa (hp _) ?_;simp -dsimp [go_sem,hN];refine cnd ?_ ?_<;>intro hg<;>try simp at hg
  ·
   simp -dsimp [go_sem,hN];simp [h0,← hI,hg]
  ·
   simp -dsimp [go_sem,hN,hw];exact ⟨hc,by simpa [hg] using hI,wkA⟩
 ·
  rw [bend (by omega),allL] at hI;simp -dsimp [go_sem,hN,h0,← hI]
theorem c_keys_Valid (s:qac):APure Tryz.prog 83 [S s] (Bo (keyOk s)):=by
 refine qaj Tryz.func83 Tryz.ntmps83 rfl (by kernel_rfl) rfl rfl fun E h hN hh hu hb=>?_;simp -dsimp [go_sem,hN];refine qae (c_keys_consists s _ keyB c_keys_Valid1) (by simp) ?_;simp -dsimp [go_sem,hN,keyOk,Bool.and_assoc]
theorem c_interp_ascending (l:List qac):APure Tryz.prog 115 [.slice (l.map qbd)] (Bo (ascK none l&&decide ((l.length:Int)≤64))):=by
 refine qaj Tryz.func115 Tryz.ntmps115 rfl (by kernel_rfl) rfl rfl fun E h hN hh hu hb=>?_;simp [go_sem] at hb;simp -dsimp [go_sem,hN];refine qaf l.length (fun n=>ascK (qbh l n) (l.drop n)=ascK none l) (fun n=>⟨[(0,.slice (l.map qbd)),(5,.slice (l.map qbd)),(6,I l.length),(7,I n)],h⟩) (by simp [qbh]) wkA ?_;intro n hn hI;have hw:=qaq hn hb.1;simp -dsimp [go_sem,hN];refine cnd ?_ ?_<;>intro hc<;>try simp at hc
 ·
  rw [qad hc,ascK] at hI;simp -dsimp [go_sem,hN,hc];refine qaa (c_keys_Valid _) ?_;cases n with
  | zero =>
   simp -dsimp [go_sem,hN];refine cnd ?_ ?_<;>intro hg<;>try simp at hg
   ·
    simp -dsimp [go_sem,hN];simp [← hI,hg,qbh,after]
   ·
    simp -dsimp [go_sem,hN,hw];exact ⟨hc,by simpa [hg,qbh,hc,after] using hI,wkA⟩
  | succ m =>
   have hm:m<l.length:=by omega
   have hw2:=wrapN (Nat.le_of_lt hm) hb.1;simp at hw;simp -dsimp [go_sem,hN,hw2,hm];refine cnd ?_ ?_<;>intro hg<;>try simp at hg
   ·
    simp -dsimp [go_sem,hN];rw [← hI];rcases hg with h1 | h1<;>simp [qbh,hm,after,h1]
   ·
    simp -dsimp [go_sem,hN,hw];simp [hg,qbh,hm,after] at hI;exact ⟨hc,by simpa [qbh,hc] using hI,wkA⟩
 ·
  rw [List.drop_eq_nil_of_le (by omega),ascK] at hI;simp -dsimp [go_sem,hN,← hI]
theorem c_interp_valid (a:Bool) (r w:List qac):APure Tryz.prog 93 [.agg [Bo a,.slice (r.map qbd),.slice (w.map qbd)]] (Bo (qcd a r w)):=by
 refine qaj Tryz.func93 Tryz.ntmps93 rfl (by kernel_rfl) rfl rfl fun E h hN hh hu hb=>?_;simp -dsimp [go_sem,hN];refine cnd ?_ ?_<;>intro h0<;>try simp at h0
 all_goals simp -dsimp [go_sem,hN,qcd,h0]
 refine qaa (c_interp_ascending r) ?_;simp -dsimp [go_sem,hN];refine qae (c_interp_ascending w) (by simp) ?_;simp -dsimp [go_sem,hN,qcd,h0]
theorem c_state_absent (p:Pr):APure Tryz.prog 61 [.agg p.c] (Bo (decide (p.v.k=0))):=by
 refine qaj Tryz.func61 Tryz.ntmps61 rfl (by kernel_rfl) rfl rfl fun E h hN hh hu hb=>?_;simp -dsimp [go_sem,hN]
theorem c_IndexFunc_Pair (l:List Pr) (f:FuncId) (p:Pr→Bool) (hp:∀ x:Pr,APure Tryz.prog f [.agg x.c] (Bo (p x))):APure Tryz.prog 105 [.slice (l.map Pr.c),.fn (.func f) [] []] (I (idxOf p l)):=by
 refine qaj Tryz.func105 Tryz.ntmps105 rfl (by kernel_rfl) rfl rfl fun E h hN hh hu hb=>?_;simp [go_sem] at hb;simp -dsimp [go_sem,hN];refine qaf l.length (fun n=>qbw p n (l.drop n)=idxOf p l) (fun n=>⟨[(0,.slice (l.map Pr.c)),(1,.fn (.func f) [] []),(7,I l.length),(8,I n)],h⟩) (by simp [idxOf]) wkA ?_;intro n hn hI;have hw:=qaq hn hb.1;simp -dsimp [go_sem,hN];refine cnd ?_ ?_<;>intro hc<;>try simp at hc
 ·
  rw [qad hc,qbw] at hI;simp -dsimp [go_sem,hN,hc];refine qaa (hp l[n]) ?_;simp -dsimp [go_sem,hN];refine cnd ?_ ?_<;>intro hg<;>try simp at hg
  ·
   simp -dsimp [go_sem,hN];simpa [hg] using hI
  ·
   simp -dsimp [go_sem,hN,hw];exact ⟨hc,by simpa [hg] using hI,wkA⟩
 ·
  rw [List.drop_eq_nil_of_le (by omega),qbw] at hI;simp -dsimp [go_sem,hN,← hI]
theorem c_ContainsFunc_Pair (l:List Pr) (f:FuncId) (p:Pr→Bool) (hp:∀ x:Pr,APure Tryz.prog f [.agg x.c] (Bo (p x))):APure Tryz.prog 82 [.slice (l.map Pr.c),.fn (.func f) [] []] (Bo (anyL p l)):=by
 refine qaj Tryz.func82 Tryz.ntmps82 rfl (by kernel_rfl) rfl rfl fun E h hN hh hu hb=>?_;simp -dsimp [go_sem,hN];refine qaa (c_IndexFunc_Pair l f p hp) ?_;simp -dsimp [go_sem,hN,idxOf_nonneg]
theorem c_state_sorted (l:List Pr):APure Tryz.prog 58 [.slice (l.map Pr.c)] (Bo (sortedP none l)):=by
 refine qaj Tryz.func58 Tryz.ntmps58 rfl (by kernel_rfl) rfl rfl fun E h hN hh hu hb=>?_;simp [go_sem] at hb;simp -dsimp [go_sem,hN];refine qaf l.length (fun n=>sortedP ((qbh l n).map Pr.key) (l.drop n)=sortedP none l) (fun n=>⟨[(0,.slice (l.map Pr.c)),(5,.slice (l.map Pr.c)),(6,I l.length),(7,I n)],h⟩) (by simp [qbh]) wkA ?_;intro n hn hI;have hw:=qaq hn hb.1;simp -dsimp [go_sem,hN];refine cnd ?_ ?_<;>intro hc<;>try simp at hc
 ·
  rw [qad hc,sortedP] at hI;simp -dsimp [go_sem,hN,hc];refine qah 22 mixed (by kernel_rfl) (by kernel_rfl) ?_;simp -dsimp [go_sem,hN];refine qay (c_keys_Valid _) (by simp) ?_;simp -dsimp [go_sem,hN];refine qay (c_value_Valid _ _ _) (by simp) ?_;cases n with
  | zero =>
   simp -dsimp [go_sem,hN];refine cnd ?_ ?_<;>intro hg<;>try simp at hg
   ·
    simp -dsimp [go_sem,hN];rw [← hI];rcases hg with h1 | h1<;>simp [qbh,after,h1]
   ·
    simp -dsimp [go_sem,hN,hw];exact ⟨hc,by simpa [hg,qbh,hc,after] using hI,wkA⟩
  | succ m =>
   have hm:m<l.length:=by omega
   have hw2:=wrapN (Nat.le_of_lt hm) hb.1;simp at hw;simp -dsimp [go_sem,hN,hw2,hm];refine cnd ?_ ?_<;>intro hg<;>try simp at hg
   ·
    simp -dsimp [go_sem,hN];rw [← hI];grind [qbh,after]
   ·
    simp -dsimp [go_sem,hN,hw];simp [hg,qbh,hm,after] at hI;exact ⟨hc,by simpa [qbh,hc] using hI,wkA⟩
 ·
  rw [List.drop_eq_nil_of_le (by omega),sortedP] at hI;simp -dsimp [go_sem,hN,← hI]
theorem c_state_Valid (l:List Pr):APure Tryz.prog 57 [.slice (l.map Pr.c)] (Bo (qa0 l)):=by
 refine qaj Tryz.func57 Tryz.ntmps57 rfl (by kernel_rfl) rfl rfl fun E h hN hh hu hb=>?_;simp -dsimp [go_sem,hN];refine qaa (c_state_sorted l) ?_;simp -dsimp [go_sem,hN];refine qae (c_ContainsFunc_Pair l _ _ c_state_absent) (by simp) ?_;simp -dsimp [go_sem,hN,qa0]
theorem c_state_Get (l:List Pr) (k:qac):APure Tryz.prog 239 [.slice (l.map Pr.c),S k] (.agg (qeh l k).c):=by
 refine qaj Tryz.func239 Tryz.ntmps239 rfl (by kernel_rfl) rfl rfl fun E h hN hh hu hb=>?_;simp [go_sem] at hb;simp -dsimp [go_sem,hN];refine qaf l.length (fun n=>qeh (l.drop n) k=qeh l k) (fun n=>⟨[(0,.slice (l.map Pr.c)),(1,S k),(4,P0 h.length),(7,.slice (l.map Pr.c)),(8,I l.length),(9,I n)],h++[.cells [I 0,I 0,S em]]⟩) (by simp) wkA ?_;intro n hn hI;have hw:=qaq hn hb.1.1;simp -dsimp [go_sem,hN];refine cnd ?_ ?_<;>intro hc<;>try simp at hc
 ·
  rw [qad hc,qeh] at hI;simp -dsimp [go_sem,hN,hc];refine cnd ?_ ?_<;>intro hg<;>try simp at hg
  ·
   simp -dsimp [go_sem,hN];simp [← hI,hg]
  ·
   simp -dsimp [go_sem,hN,hw];exact ⟨hc,by simpa [hg] using hI,wkA⟩
 ·
  rw [List.drop_eq_nil_of_le (by omega),qeh] at hI;simp -dsimp [go_sem,hN,← hI]
end Go.Proofs.YtcjolkgjhcdhcaaGreatDoor
