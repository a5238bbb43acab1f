/- Part 31 of a proof: Ty, W130, W131 -/
import Derived.Test.YtilhejdbiionhaaGreatDoorProg
import Derived.KernelRfl
import Derived.Test.YtilhejdbiionhaaGreatDoorR09
import Derived.Test.YtilhejdbiionhaaGreatDoorR12
import Derived.Test.YtilhejdbiionhaaGreatDoorR13
import Derived.Test.YtilhejdbiionhaaGreatDoorR15
import Derived.Test.YtilhejdbiionhaaGreatDoorR23
import Derived.Test.YtilhejdbiionhaaGreatDoorR27
set_option linter.all false

namespace Go.Proofs.YtilhejdbiionhaaGreatDoor
open Go Go.Abs
@[simp] theorem tk1:qah Tryz.prog 1=.func:=by kernel_rfl
@[simp] theorem ts1:qat Tryz.prog 1=1:=by kernel_rfl
@[simp] theorem tz1:qba Tryz.prog 1=[.val .nilFunc]:=by kernel_rfl
@[simp] theorem tb1:qaq Tryz.prog 1=8:=by kernel_rfl
@[simp] theorem tk2:qah Tryz.prog 2=.int .i64:=by kernel_rfl
@[simp] theorem ts2:qat Tryz.prog 2=1:=by kernel_rfl
@[simp] theorem tz2:qba Tryz.prog 2=[.val (.int .i64 0)]:=by kernel_rfl
@[simp] theorem tb2:qaq Tryz.prog 2=8:=by kernel_rfl
@[simp] theorem tk3:qah Tryz.prog 3=.int .i64:=by kernel_rfl
@[simp] theorem ts3:qat Tryz.prog 3=1:=by kernel_rfl
@[simp] theorem tz3:qba Tryz.prog 3=[.val (.int .i64 0)]:=by kernel_rfl
@[simp] theorem tb3:qaq Tryz.prog 3=8:=by kernel_rfl
@[simp] theorem tk4:qah Tryz.prog 4=.bool:=by kernel_rfl
@[simp] theorem ts4:qat Tryz.prog 4=1:=by kernel_rfl
@[simp] theorem tz4:qba Tryz.prog 4=[.val (.bool false)]:=by kernel_rfl
@[simp] theorem tb4:qaq Tryz.prog 4=1:=by kernel_rfl
@[simp] theorem tk5:qah Tryz.prog 5=.int .u8:=by kernel_rfl
@[simp] theorem ts5:qat Tryz.prog 5=1:=by kernel_rfl
@[simp] theorem tz5:qba Tryz.prog 5=[.val (.int .u8 0)]:=by kernel_rfl
@[simp] theorem tb5:qaq Tryz.prog 5=1:=by kernel_rfl
@[simp] theorem tk9:qah Tryz.prog 9=.string:=by kernel_rfl
@[simp] theorem ts9:qat Tryz.prog 9=1:=by kernel_rfl
@[simp] theorem tz9:qba Tryz.prog 9=[.val (.string ⟨#[]⟩)]:=by kernel_rfl
@[simp] theorem tb9:qaq Tryz.prog 9=16:=by kernel_rfl
@[simp] theorem tk20:qah Tryz.prog 20=.iface:=by kernel_rfl
@[simp] theorem ts20:qat Tryz.prog 20=1:=by kernel_rfl
@[simp] theorem tz20:qba Tryz.prog 20=[.val .nilIface]:=by kernel_rfl
@[simp] theorem tb20:qaq Tryz.prog 20=16:=by kernel_rfl
@[simp] theorem tk21:qah Tryz.prog 21=.int .i32:=by kernel_rfl
@[simp] theorem ts21:qat Tryz.prog 21=1:=by kernel_rfl
@[simp] theorem tz21:qba Tryz.prog 21=[.val (.int .i32 0)]:=by kernel_rfl
@[simp] theorem tb21:qaq Tryz.prog 21=4:=by kernel_rfl
@[simp] theorem tk22:qah Tryz.prog 22=.slice 62 2:=by kernel_rfl
@[simp] theorem ts22:qat Tryz.prog 22=1:=by kernel_rfl
@[simp] theorem tz22:qba Tryz.prog 22=[.nils]:=by kernel_rfl
@[simp] theorem tb22:qaq Tryz.prog 22=24:=by kernel_rfl
@[simp] theorem tk23:qah Tryz.prog 23=.slice 64 13:=by kernel_rfl
@[simp] theorem ts23:qat Tryz.prog 23=1:=by kernel_rfl
@[simp] theorem tz23:qba Tryz.prog 23=[.nils]:=by kernel_rfl
@[simp] theorem tb23:qaq Tryz.prog 23=24:=by kernel_rfl
@[simp] theorem tk25:qah Tryz.prog 25=.struct [(0,1),(1,1),(2,1)]:=by kernel_rfl
@[simp] theorem ts25:qat Tryz.prog 25=3:=by kernel_rfl
@[simp] theorem tz25:qba Tryz.prog 25=[.val (.string ⟨#[]⟩),.nils,.nils]:=by kernel_rfl
@[simp] theorem tb25:qaq Tryz.prog 25=64:=by kernel_rfl
@[simp] theorem tk26:qah Tryz.prog 26=.slice 54 3:=by kernel_rfl
@[simp] theorem ts26:qat Tryz.prog 26=1:=by kernel_rfl
@[simp] theorem tz26:qba Tryz.prog 26=[.nils]:=by kernel_rfl
@[simp] theorem tb26:qaq Tryz.prog 26=24:=by kernel_rfl
@[simp] theorem tk27:qah Tryz.prog 27=.slice 56 4:=by kernel_rfl
@[simp] theorem ts27:qat Tryz.prog 27=1:=by kernel_rfl
@[simp] theorem tz27:qba Tryz.prog 27=[.nils]:=by kernel_rfl
@[simp] theorem tb27:qaq Tryz.prog 27=24:=by kernel_rfl
@[simp] theorem tk30:qah Tryz.prog 30=.slice 9 1:=by kernel_rfl
@[simp] theorem ts30:qat Tryz.prog 30=1:=by kernel_rfl
@[simp] theorem tz30:qba Tryz.prog 30=[.nils]:=by kernel_rfl
@[simp] theorem tb30:qaq Tryz.prog 30=24:=by kernel_rfl
@[simp] theorem tk32:qah Tryz.prog 32=.struct [(0,1),(1,1),(2,1)]:=by kernel_rfl
@[simp] theorem ts32:qat Tryz.prog 32=3:=by kernel_rfl
@[simp] theorem tz32:qba Tryz.prog 32=[.val (.bool false),.nils,.nils]:=by kernel_rfl
@[simp] theorem tb32:qaq Tryz.prog 32=56:=by kernel_rfl
@[simp] theorem tk33:qah Tryz.prog 33=.int .i64:=by kernel_rfl
@[simp] theorem ts33:qat Tryz.prog 33=1:=by kernel_rfl
@[simp] theorem tz33:qba Tryz.prog 33=[.val (.int .i64 0)]:=by kernel_rfl
@[simp] theorem tb33:qaq Tryz.prog 33=8:=by kernel_rfl
@[simp] theorem tk39:qah Tryz.prog 39=.struct [(0,1),(1,1),(2,1)]:=by kernel_rfl
@[simp] theorem ts39:qat Tryz.prog 39=3:=by kernel_rfl
@[simp] theorem tz39:qba Tryz.prog 39=[.val (.int .i64 0),.val (.int .i64 0),.nils]:=by kernel_rfl
@[simp] theorem tb39:qaq Tryz.prog 39=40:=by kernel_rfl
@[simp] theorem tk41:qah Tryz.prog 41=.struct [(0,3),(3,1),(4,1),(5,1),(6,1),(7,1)]:=by kernel_rfl
@[simp] theorem ts41:qat Tryz.prog 41=8:=by kernel_rfl
@[simp] theorem tz41:qba Tryz.prog 41=[.val (.int .i64 0),.val (.int .i64 0),.nils,.nils,.nils,.nils,.val (.string ⟨#[]⟩),.val (.int .i64 0)]:=by kernel_rfl
@[simp] theorem tb41:qaq Tryz.prog 41=136:=by kernel_rfl
@[simp] theorem tk54:qah Tryz.prog 54=.struct [(0,1),(1,1),(2,1)]:=by kernel_rfl
@[simp] theorem ts54:qat Tryz.prog 54=3:=by kernel_rfl
@[simp] theorem tz54:qba Tryz.prog 54=[.val (.int .i64 0),.val (.int .i64 0),.val (.string ⟨#[]⟩)]:=by kernel_rfl
@[simp] theorem fl54:flatOf Tryz.prog 54=[.int .i64,.int .i64,.string]:=by kernel_rfl
@[simp] theorem tb54:qaq Tryz.prog 54=32:=by kernel_rfl
@[simp] theorem tk56:qah Tryz.prog 56=.struct [(0,1),(1,3)]:=by kernel_rfl
@[simp] theorem ts56:qat Tryz.prog 56=4:=by kernel_rfl
@[simp] theorem tz56:qba Tryz.prog 56=[.val (.string ⟨#[]⟩),.val (.int .i64 0),.val (.int .i64 0),.val (.string ⟨#[]⟩)]:=by kernel_rfl
@[simp] theorem fl56:flatOf Tryz.prog 56=[.string,.int .i64,.int .i64,.string]:=by kernel_rfl
@[simp] theorem tb56:qaq Tryz.prog 56=48:=by kernel_rfl
@[simp] theorem tk57:qah Tryz.prog 57=.slice 59 4:=by kernel_rfl
@[simp] theorem ts57:qat Tryz.prog 57=1:=by kernel_rfl
@[simp] theorem tz57:qba Tryz.prog 57=[.nils]:=by kernel_rfl
@[simp] theorem tb57:qaq Tryz.prog 57=24:=by kernel_rfl
@[simp] theorem tk59:qah Tryz.prog 59=.struct [(0,1),(1,1),(2,1),(3,1)]:=by kernel_rfl
@[simp] theorem ts59:qat Tryz.prog 59=4:=by kernel_rfl
@[simp] theorem tz59:qba Tryz.prog 59=[.val (.int .i64 0),.val (.int .i64 0),.val (.string ⟨#[]⟩),.nils]:=by kernel_rfl
@[simp] theorem tb59:qaq Tryz.prog 59=56:=by kernel_rfl
@[simp] theorem tk62:qah Tryz.prog 62=.struct [(0,1),(1,1)]:=by kernel_rfl
@[simp] theorem ts62:qat Tryz.prog 62=2:=by kernel_rfl
@[simp] theorem tz62:qba Tryz.prog 62=[.val (.string ⟨#[]⟩),.val (.int .i64 0)]:=by kernel_rfl
@[simp] theorem fl62:flatOf Tryz.prog 62=[.string,.int .i64]:=by kernel_rfl
@[simp] theorem tb62:qaq Tryz.prog 62=24:=by kernel_rfl
@[simp] theorem tk64:qah Tryz.prog 64=.struct [(0,1),(1,1),(2,1),(3,4),(7,4),(11,1),(12,1)]:=by kernel_rfl
@[simp] theorem ts64:qat Tryz.prog 64=13:=by kernel_rfl
@[simp] theorem tz64:qba Tryz.prog 64=[.val (.int .i64 0),.val (.string ⟨#[]⟩),.val (.int .i64 0),.val (.int .i64 0),.val (.int .i64 0),.val (.string ⟨#[]⟩),.nils,.val (.int .i64 0),.val (.int .i64 0),.val (.string ⟨#[]⟩),.nils,.nils,.nils]:=by kernel_rfl
@[simp] theorem tb64:qaq Tryz.prog 64=192:=by kernel_rfl
@[simp] theorem tk68:qah Tryz.prog 68=.ptr:=by kernel_rfl
@[simp] theorem ts68:qat Tryz.prog 68=1:=by kernel_rfl
@[simp] theorem tz68:qba Tryz.prog 68=[.val (.pointer none)]:=by kernel_rfl
@[simp] theorem tb68:qaq Tryz.prog 68=8:=by kernel_rfl
@[simp] theorem tk69:qah Tryz.prog 69=.map 9 4:=by kernel_rfl
@[simp] theorem ts69:qat Tryz.prog 69=1:=by kernel_rfl
@[simp] theorem tz69:qba Tryz.prog 69=[.val (.map none)]:=by kernel_rfl
@[simp] theorem tb69:qaq Tryz.prog 69=8:=by kernel_rfl
@[simp] theorem tk71:qah Tryz.prog 71=.struct [(0,1),(1,1),(2,1)]:=by kernel_rfl
@[simp] theorem ts71:qat Tryz.prog 71=3:=by kernel_rfl
@[simp] theorem tz71:qba Tryz.prog 71=[.val (.map none),.val (.map none),.val (.bool false)]:=by kernel_rfl
@[simp] theorem tb71:qaq Tryz.prog 71=24:=by kernel_rfl
@[simp] theorem tk73:qah Tryz.prog 73=.map 9 75:=by kernel_rfl
@[simp] theorem ts73:qat Tryz.prog 73=1:=by kernel_rfl
@[simp] theorem tz73:qba Tryz.prog 73=[.val (.map none)]:=by kernel_rfl
@[simp] theorem tb73:qaq Tryz.prog 73=8:=by kernel_rfl
@[simp] theorem tk75:qah Tryz.prog 75=.struct [(0,1),(1,3)]:=by kernel_rfl
@[simp] theorem ts75:qat Tryz.prog 75=4:=by kernel_rfl
@[simp] theorem tz75:qba Tryz.prog 75=[.val (.bool false),.val (.int .i64 0),.val (.int .i64 0),.val (.string ⟨#[]⟩)]:=by kernel_rfl
@[simp] theorem fl75:flatOf Tryz.prog 75=[.bool,.int .i64,.int .i64,.string]:=by kernel_rfl
@[simp] theorem tb75:qaq Tryz.prog 75=40:=by kernel_rfl
@[simp] theorem tk80:qah Tryz.prog 80=.ptr:=by kernel_rfl
@[simp] theorem ts80:qat Tryz.prog 80=1:=by kernel_rfl
@[simp] theorem tz80:qba Tryz.prog 80=[.val (.pointer none)]:=by kernel_rfl
@[simp] theorem tb80:qaq Tryz.prog 80=8:=by kernel_rfl
@[simp] theorem tk82:qah Tryz.prog 82=.map 9 54:=by kernel_rfl
@[simp] theorem ts82:qat Tryz.prog 82=1:=by kernel_rfl
@[simp] theorem tz82:qba Tryz.prog 82=[.val (.map none)]:=by kernel_rfl
@[simp] theorem tb82:qaq Tryz.prog 82=8:=by kernel_rfl
@[simp] theorem tk84:qah Tryz.prog 84=.struct [(0,1),(1,3),(4,1),(5,1),(6,8)]:=by kernel_rfl
@[simp] theorem ts84:qat Tryz.prog 84=14:=by kernel_rfl
@[simp] theorem tz84:qba Tryz.prog 84=[.nils,.val (.bool false),.nils,.nils,.val (.map none),.val (.map none),.val (.int .i64 0),.val (.int .i64 0),.nils,.nils,.nils,.nils,.val (.string ⟨#[]⟩),.val (.int .i64 0)]:=by kernel_rfl
@[simp] theorem tb84:qaq Tryz.prog 84=232:=by kernel_rfl
@[simp] theorem tk87:qah Tryz.prog 87=.struct [(0,3),(3,1)]:=by kernel_rfl
@[simp] theorem ts87:qat Tryz.prog 87=4:=by kernel_rfl
@[simp] theorem tz87:qba Tryz.prog 87=[.val (.int .i64 0),.val (.int .i64 0),.nils,.val (.string ⟨#[]⟩)]:=by kernel_rfl
@[simp] theorem tb87:qaq Tryz.prog 87=56:=by kernel_rfl
@[simp] theorem tk96:qah Tryz.prog 96=.struct [(0,1),(1,1),(2,1),(3,1)]:=by kernel_rfl
@[simp] theorem ts96:qat Tryz.prog 96=4:=by kernel_rfl
@[simp] theorem tz96:qba Tryz.prog 96=[.val (.int .i64 0),.val (.int .i64 0),.val (.int .i64 0),.val (.int .i64 0)]:=by kernel_rfl
@[simp] theorem fl96:flatOf Tryz.prog 96=[.int .i64,.int .i64,.int .i64,.int .i64]:=by kernel_rfl
@[simp] theorem tb96:qaq Tryz.prog 96=32:=by kernel_rfl
@[simp] theorem tk100:qah Tryz.prog 100=.ptr:=by kernel_rfl
@[simp] theorem ts100:qat Tryz.prog 100=1:=by kernel_rfl
@[simp] theorem tz100:qba Tryz.prog 100=[.val (.pointer none)]:=by kernel_rfl
@[simp] theorem tb100:qaq Tryz.prog 100=8:=by kernel_rfl
@[simp] theorem tk105:qah Tryz.prog 105=.func:=by kernel_rfl
@[simp] theorem ts105:qat Tryz.prog 105=1:=by kernel_rfl
@[simp] theorem tz105:qba Tryz.prog 105=[.val .nilFunc]:=by kernel_rfl
@[simp] theorem tb105:qaq Tryz.prog 105=8:=by kernel_rfl
@[simp] theorem tk109:qah Tryz.prog 109=.array 4 3 1:=by kernel_rfl
@[simp] theorem ts109:qat Tryz.prog 109=4:=by kernel_rfl
@[simp] theorem tz109:qba Tryz.prog 109=[.val (.int .i64 0),.val (.int .i64 0),.val (.int .i64 0),.val (.int .i64 0)]:=by kernel_rfl
@[simp] theorem tb109:qaq Tryz.prog 109=32:=by kernel_rfl
@[simp] theorem tk120:qah Tryz.prog 120=.struct [(0,1),(1,1)]:=by kernel_rfl
@[simp] theorem ts120:qat Tryz.prog 120=2:=by kernel_rfl
@[simp] theorem tz120:qba Tryz.prog 120=[.nils,.nils]:=by kernel_rfl
@[simp] theorem tb120:qaq Tryz.prog 120=48:=by kernel_rfl
@[simp] theorem tk124:qah Tryz.prog 124=.map 9 3:=by kernel_rfl
@[simp] theorem ts124:qat Tryz.prog 124=1:=by kernel_rfl
@[simp] theorem tz124:qba Tryz.prog 124=[.val (.map none)]:=by kernel_rfl
@[simp] theorem tb124:qaq Tryz.prog 124=8:=by kernel_rfl
@[simp] theorem tk128:qah Tryz.prog 128=.struct [(0,3),(3,1)]:=by kernel_rfl
@[simp] theorem ts128:qat Tryz.prog 128=4:=by kernel_rfl
@[simp] theorem tz128:qba Tryz.prog 128=[.val (.string ⟨#[]⟩),.nils,.nils,.val (.map none)]:=by kernel_rfl
@[simp] theorem tb128:qaq Tryz.prog 128=72:=by kernel_rfl
@[simp] theorem tk131:qah Tryz.prog 131=.func:=by kernel_rfl
@[simp] theorem ts131:qat Tryz.prog 131=1:=by kernel_rfl
@[simp] theorem tz131:qba Tryz.prog 131=[.val .nilFunc]:=by kernel_rfl
@[simp] theorem tb131:qaq Tryz.prog 131=8:=by kernel_rfl
@[simp] theorem tk132:qah Tryz.prog 132=.func:=by kernel_rfl
@[simp] theorem ts132:qat Tryz.prog 132=1:=by kernel_rfl
@[simp] theorem tz132:qba Tryz.prog 132=[.val .nilFunc]:=by kernel_rfl
@[simp] theorem tb132:qaq Tryz.prog 132=8:=by kernel_rfl
@[simp] theorem tk136:qah Tryz.prog 136=.struct [(0,1),(1,3),(4,1),(5,1),(6,8)]:=by kernel_rfl
@[simp] theorem ts136:qat Tryz.prog 136=14:=by kernel_rfl
@[simp] theorem tz136:qba Tryz.prog 136=[.nils,.val (.bool false),.nils,.nils,.nils,.nils,.val (.int .i64 0),.val (.int .i64 0),.nils,.nils,.nils,.nils,.val (.string ⟨#[]⟩),.val (.int .i64 0)]:=by kernel_rfl
@[simp] theorem tb136:qaq Tryz.prog 136=264:=by kernel_rfl
@[simp] theorem tk148:qah Tryz.prog 148=.int .u64:=by kernel_rfl
@[simp] theorem ts148:qat Tryz.prog 148=1:=by kernel_rfl
@[simp] theorem tz148:qba Tryz.prog 148=[.val (.int .u64 0)]:=by kernel_rfl
@[simp] theorem tb148:qaq Tryz.prog 148=8:=by kernel_rfl
@[simp] theorem tk157:qah Tryz.prog 157=.func:=by kernel_rfl
@[simp] theorem ts157:qat Tryz.prog 157=1:=by kernel_rfl
@[simp] theorem tz157:qba Tryz.prog 157=[.val .nilFunc]:=by kernel_rfl
@[simp] theorem tb157:qaq Tryz.prog 157=8:=by kernel_rfl
@[simp] theorem tk160:qah Tryz.prog 160=.slice 3 1:=by kernel_rfl
@[simp] theorem ts160:qat Tryz.prog 160=1:=by kernel_rfl
@[simp] theorem tz160:qba Tryz.prog 160=[.nils]:=by kernel_rfl
@[simp] theorem tb160:qaq Tryz.prog 160=24:=by kernel_rfl
@[simp] theorem tk167:qah Tryz.prog 167=.slice 170 20:=by kernel_rfl
@[simp] theorem ts167:qat Tryz.prog 167=1:=by kernel_rfl
@[simp] theorem tz167:qba Tryz.prog 167=[.nils]:=by kernel_rfl
@[simp] theorem tb167:qaq Tryz.prog 167=24:=by kernel_rfl
@[simp] theorem tk170:qah Tryz.prog 170=.struct [(0,1),(1,13),(14,1),(15,4),(19,1)]:=by kernel_rfl
@[simp] theorem ts170:qat Tryz.prog 170=20:=by kernel_rfl
@[simp] theorem tz170:qba Tryz.prog 170=[.val (.bool false),.val (.int .i64 0),.val (.string ⟨#[]⟩),.val (.int .i64 0),.val (.int .i64 0),.val (.int .i64 0),.val (.string ⟨#[]⟩),.nils,.val (.int .i64 0),.val (.int .i64 0),.val (.string ⟨#[]⟩),.nils,.nils,.nils,.val (.int .i64 0),.val (.int .i64 0),.val (.int .i64 0),.val (.string ⟨#[]⟩),.nils,.val (.bool false)]:=by kernel_rfl
@[simp] theorem tb170:qaq Tryz.prog 170=272:=by kernel_rfl
@[simp] theorem tk176:qah Tryz.prog 176=.ptr:=by kernel_rfl
@[simp] theorem ts176:qat Tryz.prog 176=1:=by kernel_rfl
@[simp] theorem tz176:qba Tryz.prog 176=[.val (.pointer none)]:=by kernel_rfl
@[simp] theorem tb176:qaq Tryz.prog 176=8:=by kernel_rfl
@[simp] theorem tk178:qah Tryz.prog 178=.struct [(0,1),(1,1),(2,1)]:=by kernel_rfl
@[simp] theorem ts178:qat Tryz.prog 178=3:=by kernel_rfl
@[simp] theorem tz178:qba Tryz.prog 178=[.val (.map none),.val (.map none),.val (.map none)]:=by kernel_rfl
@[simp] theorem tb178:qaq Tryz.prog 178=24:=by kernel_rfl
@[simp] theorem tk181:qah Tryz.prog 181=.func:=by kernel_rfl
@[simp] theorem ts181:qat Tryz.prog 181=1:=by kernel_rfl
@[simp] theorem tz181:qba Tryz.prog 181=[.val .nilFunc]:=by kernel_rfl
@[simp] theorem tb181:qaq Tryz.prog 181=8:=by kernel_rfl
@[simp] theorem tk182:qah Tryz.prog 182=.func:=by kernel_rfl
@[simp] theorem ts182:qat Tryz.prog 182=1:=by kernel_rfl
@[simp] theorem tz182:qba Tryz.prog 182=[.val .nilFunc]:=by kernel_rfl
@[simp] theorem tb182:qaq Tryz.prog 182=8:=by kernel_rfl
@[simp] theorem tk187:qah Tryz.prog 187=.slice 75 4:=by kernel_rfl
@[simp] theorem ts187:qat Tryz.prog 187=1:=by kernel_rfl
@[simp] theorem tz187:qba Tryz.prog 187=[.nils]:=by kernel_rfl
@[simp] theorem tb187:qaq Tryz.prog 187=24:=by kernel_rfl
@[simp] theorem tk193:qah Tryz.prog 193=.int .i64:=by kernel_rfl
@[simp] theorem ts193:qat Tryz.prog 193=1:=by kernel_rfl
@[simp] theorem tz193:qba Tryz.prog 193=[.val (.int .i64 0)]:=by kernel_rfl
@[simp] theorem tb193:qaq Tryz.prog 193=8:=by kernel_rfl
@[simp] theorem tk200:qah Tryz.prog 200=.int .u32:=by kernel_rfl
@[simp] theorem ts200:qat Tryz.prog 200=1:=by kernel_rfl
@[simp] theorem tz200:qba Tryz.prog 200=[.val (.int .u32 0)]:=by kernel_rfl
@[simp] theorem tb200:qaq Tryz.prog 200=4:=by kernel_rfl
@[simp] theorem tk202:qah Tryz.prog 202=.int .u64:=by kernel_rfl
@[simp] theorem ts202:qat Tryz.prog 202=1:=by kernel_rfl
@[simp] theorem tz202:qba Tryz.prog 202=[.val (.int .u64 0)]:=by kernel_rfl
@[simp] theorem tb202:qaq Tryz.prog 202=8:=by kernel_rfl
@[simp] theorem tk225:qah Tryz.prog 225=.ptr:=by kernel_rfl
@[simp] theorem ts225:qat Tryz.prog 225=1:=by kernel_rfl
@[simp] theorem tz225:qba Tryz.prog 225=[.val (.pointer none)]:=by kernel_rfl
@[simp] theorem tb225:qaq Tryz.prog 225=8:=by kernel_rfl
@[simp] theorem tk227:qah Tryz.prog 227=.struct [(0,1),(1,1),(2,1)]:=by kernel_rfl
@[simp] theorem ts227:qat Tryz.prog 227=3:=by kernel_rfl
@[simp] theorem tz227:qba Tryz.prog 227=[.val (.int .i64 0),.val .nilFunc,.val .nilFunc]:=by kernel_rfl
@[simp] theorem tb227:qaq Tryz.prog 227=24:=by kernel_rfl
@[simp] theorem tk238:qah Tryz.prog 238=.int .u64:=by kernel_rfl
@[simp] theorem ts238:qat Tryz.prog 238=1:=by kernel_rfl
@[simp] theorem tz238:qba Tryz.prog 238=[.val (.int .u64 0)]:=by kernel_rfl
@[simp] theorem tb238:qaq Tryz.prog 238=8:=by kernel_rfl
@[simp] theorem tk242:qah Tryz.prog 242=.ptr:=by kernel_rfl
@[simp] theorem ts242:qat Tryz.prog 242=1:=by kernel_rfl
@[simp] theorem tz242:qba Tryz.prog 242=[.val (.pointer none)]:=by kernel_rfl
@[simp] theorem tb242:qaq Tryz.prog 242=8:=by kernel_rfl
@[simp] theorem tk259:qah Tryz.prog 259=.func:=by kernel_rfl
@[simp] theorem ts259:qat Tryz.prog 259=1:=by kernel_rfl
@[simp] theorem tz259:qba Tryz.prog 259=[.val .nilFunc]:=by kernel_rfl
@[simp] theorem tb259:qaq Tryz.prog 259=8:=by kernel_rfl
@[simp] theorem tk261:qah Tryz.prog 261=.struct [(0,1),(1,1),(2,1),(3,1),(4,1),(5,1)]:=by kernel_rfl
@[simp] theorem ts261:qat Tryz.prog 261=6:=by kernel_rfl
@[simp] theorem tz261:qba Tryz.prog 261=[.val (.bool false),.val (.bool false),.val (.bool false),.val (.bool false),.val (.bool false),.val (.bool false)]:=by kernel_rfl
@[simp] theorem fl261:flatOf Tryz.prog 261=[.bool,.bool,.bool,.bool,.bool,.bool]:=by kernel_rfl
@[simp] theorem tb261:qaq Tryz.prog 261=6:=by kernel_rfl
@[simp] theorem tk284:qah Tryz.prog 284=.struct [(0,3),(3,3)]:=by kernel_rfl
@[simp] theorem ts284:qat Tryz.prog 284=6:=by kernel_rfl
@[simp] theorem tz284:qba Tryz.prog 284=[.val (.int .i64 0),.val (.int .i64 0),.val (.string ⟨#[]⟩),.val (.int .i64 0),.val (.int .i64 0),.val (.string ⟨#[]⟩)]:=by kernel_rfl
@[simp] theorem fl284:flatOf Tryz.prog 284=[.int .i64,.int .i64,.string,.int .i64,.int .i64,.string]:=by kernel_rfl
@[simp] theorem tb284:qaq Tryz.prog 284=64:=by kernel_rfl
@[simp] theorem tk291:qah Tryz.prog 291=.array 24 5 1:=by kernel_rfl
@[simp] theorem ts291:qat Tryz.prog 291=24:=by kernel_rfl
@[simp] theorem tz291:qba Tryz.prog 291=[.val (.int .u8 0),.val (.int .u8 0),.val (.int .u8 0),.val (.int .u8 0),.val (.int .u8 0),.val (.int .u8 0),.val (.int .u8 0),.val (.int .u8 0),.val (.int .u8 0),.val (.int .u8 0),.val (.int .u8 0),.val (.int .u8 0),.val (.int .u8 0),.val (.int .u8 0),.val (.int .u8 0),.val (.int .u8 0),.val (.int .u8 0),.val (.int .u8 0),.val (.int .u8 0),.val (.int .u8 0),.val (.int .u8 0),.val (.int .u8 0),.val (.int .u8 0),.val (.int .u8 0)]:=by kernel_rfl
@[simp] theorem tb291:qaq Tryz.prog 291=24:=by kernel_rfl
@[simp] theorem tk293:qah Tryz.prog 293=.slice 5 1:=by kernel_rfl
@[simp] theorem ts293:qat Tryz.prog 293=1:=by kernel_rfl
@[simp] theorem tz293:qba Tryz.prog 293=[.nils]:=by kernel_rfl
@[simp] theorem tb293:qaq Tryz.prog 293=24:=by kernel_rfl
@[simp] theorem tk300:qah Tryz.prog 300=.array 20 202 1:=by kernel_rfl
@[simp] theorem ts300:qat Tryz.prog 300=20:=by kernel_rfl
@[simp] theorem tz300:qba Tryz.prog 300=[.val (.int .u64 0),.val (.int .u64 0),.val (.int .u64 0),.val (.int .u64 0),.val (.int .u64 0),.val (.int .u64 0),.val (.int .u64 0),.val (.int .u64 0),.val (.int .u64 0),.val (.int .u64 0),.val (.int .u64 0),.val (.int .u64 0),.val (.int .u64 0),.val (.int .u64 0),.val (.int .u64 0),.val (.int .u64 0),.val (.int .u64 0),.val (.int .u64 0),.val (.int .u64 0),.val (.int .u64 0)]:=by kernel_rfl
@[simp] theorem tb300:qaq Tryz.prog 300=160:=by kernel_rfl
@[simp] theorem tk303:qah Tryz.prog 303=.array 32 5 1:=by kernel_rfl
@[simp] theorem ts303:qat Tryz.prog 303=32:=by kernel_rfl
@[simp] theorem tz303:qba Tryz.prog 303=[.val (.int .u8 0),.val (.int .u8 0),.val (.int .u8 0),.val (.int .u8 0),.val (.int .u8 0),.val (.int .u8 0),.val (.int .u8 0),.val (.int .u8 0),.val (.int .u8 0),.val (.int .u8 0),.val (.int .u8 0),.val (.int .u8 0),.val (.int .u8 0),.val (.int .u8 0),.val (.int .u8 0),.val (.int .u8 0),.val (.int .u8 0),.val (.int .u8 0),.val (.int .u8 0),.val (.int .u8 0),.val (.int .u8 0),.val (.int .u8 0),.val (.int .u8 0),.val (.int .u8 0),.val (.int .u8 0),.val (.int .u8 0),.val (.int .u8 0),.val (.int .u8 0),.val (.int .u8 0),.val (.int .u8 0),.val (.int .u8 0),.val (.int .u8 0)]:=by kernel_rfl
@[simp] theorem tb303:qaq Tryz.prog 303=32:=by kernel_rfl
@[simp] theorem tk304:qah Tryz.prog 304=.array 64 5 1:=by kernel_rfl
@[simp] theorem ts304:qat Tryz.prog 304=64:=by kernel_rfl
@[simp] theorem tz304:qba Tryz.prog 304=[.val (.int .u8 0),.val (.int .u8 0),.val (.int .u8 0),.val (.int .u8 0),.val (.int .u8 0),.val (.int .u8 0),.val (.int .u8 0),.val (.int .u8 0),.val (.int .u8 0),.val (.int .u8 0),.val (.int .u8 0),.val (.int .u8 0),.val (.int .u8 0),.val (.int .u8 0),.val (.int .u8 0),.val (.int .u8 0),.val (.int .u8 0),.val (.int .u8 0),.val (.int .u8 0),.val (.int .u8 0),.val (.int .u8 0),.val (.int .u8 0),.val (.int .u8 0),.val (.int .u8 0),.val (.int .u8 0),.val (.int .u8 0),.val (.int .u8 0),.val (.int .u8 0),.val (.int .u8 0),.val (.int .u8 0),.val (.int .u8 0),.val (.int .u8 0),.val (.int .u8 0),.val (.int .u8 0),.val (.int .u8 0),.val (.int .u8 0),.val (.int .u8 0),.val (.int .u8 0),.val (.int .u8 0),.val (.int .u8 0),.val (.int .u8 0),.val (.int .u8 0),.val (.int .u8 0),.val (.int .u8 0),.val (.int .u8 0),.val (.int .u8 0),.val (.int .u8 0),.val (.int .u8 0),.val (.int .u8 0),.val (.int .u8 0),.val (.int .u8 0),.val (.int .u8 0),.val (.int .u8 0),.val (.int .u8 0),.val (.int .u8 0),.val (.int .u8 0),.val (.int .u8 0),.val (.int .u8 0),.val (.int .u8 0),.val (.int .u8 0),.val (.int .u8 0),.val (.int .u8 0),.val (.int .u8 0),.val (.int .u8 0)]:=by kernel_rfl
@[simp] theorem tb304:qaq Tryz.prog 304=64:=by kernel_rfl
end Go.Proofs.YtilhejdbiionhaaGreatDoor

set_option maxRecDepth 4000
set_option maxHeartbeats 2000000
namespace Go.Proofs.YtilhejdbiionhaaGreatDoor
open Go Go.Abs Go.Cw
theorem c_pr_clone(l:List (qac×AX))(hn:(keysM l).Nodup)(h:qab)(i:Nat)(hi:h[i]?=some (.map (kAV qc7 l))) :
  ACalls Tryz.prog 105 [.mapr i] h fun r h'=>∃l',l'.Perm l∧r=.ret (.mapr h.length)∧h'=h++[.map (kAV qc7 l')]:=by
 refine acalls_introB Tryz.func105 rfl (by kernel_rfl) (by simp[Tryz.ntmps105]) ?_;intro E hN hh hu hb hb' hua;rw[Tryz.ntmps105]at hN;have hil:i<h.length:=(List.getElem?_eq_some_iff.1 hi).1;refine qbj (awp_ops ?_);simp[go_sem,hN];refine qbj (qay _ _ _ ?_);simp-dsimp[go_sem,hN];refine qbj ?_;refine qbj (awp_opsT [_] _ ?_);simp[go_sem,hN];refine aops_rangeM (i:=i) (kt:=9) (et:=75) (l:=l.map fun p=>(p.1,qc7 p.2)) rfl (by simp[qee,hN]) rfl (by simp[go_sem]) (by simp[go_sem]) (by simp[go_sem]) (by simp only[];rw[List.getElem?_append_left hil];exact hi) ?_;intro mb bs clock g hf;refine aops_nil ?_;simp[go_sem,AExit.then];refine awp_mloop hf (i:=i) (k0:=h.length+1) (mb:=mb) (g:=g) (fun js=>⟨[(3,.mapr h.length),(8,.ptr (h.length+1) 0)],h.set i (frzO mb (l.map fun p=>(p.1,qc7 p.2)) bs clock)++[.map (kAV qc7 (pickL l js)),itO g mb clock (js.map fun j=>bs.getD j 0) clock]⟩) (by omega) (by omega) (by omega) (fun js=>?_) ?_ (fun js hp=>?_) (fun js j hj hnd hlt hno=>?_)
 ·refine⟨by simp[go_sem],?_,?_⟩
  ·simp only[];rw[List.getElem?_append_left (by simpa using hil),List.getElem?_set_self hil]
  ·simp
 ·rw[List.set_append_left _ _ hil,List.append_assoc];exact Wk.same rfl (by simp[wkZ,go_sem])
 ·have hperm:=pickL_perm (l:=l) (js:=js) (by simpa using hp);simp[go_sem,AExit.then];refine AWp.wk (thaw_wk _ (i:=i) hf (by simp only[];rw[List.getElem?_append_left (by simpa using hil),List.getElem?_set_self hil])) ?_;simp only[];rw[List.set_append_left _ _ (by simpa using hil),List.set_set,show(AObj.map (qb5 (l.map fun p=>(p.1,qc7 p.2))))=.map (kAV qc7 l)from rfl,qdc hi];apply qay;simp-dsimp[go_sem,hN];exact⟨_,.refl _,h++[.map (kAV qc7 (pickL l js))],by simp[go_sem],by simp[go_sem],by simp,by simp[qan hu,go_sem];exact kAV_under _ _,_,hperm,rfl,rfl⟩
 ·have hj2:j<l.length:=by simpa using hj
  have hset:∀{A B C:AObj},(h.set i (frzO mb (l.map fun p=>(p.1,qc7 p.2)) bs clock)++[A,B]).set (h.length+1) C=h.set i (frzO mb (l.map fun p=>(p.1,qc7 p.2)) bs clock)++[A,C]:=fun {A B C}=>by simp[List.set_append]
  have hfi:∀{A:List AObj},(h.set i (frzO mb (l.map fun p=>(p.1,qc7 p.2)) bs clock)++A)[i]?=some (frzO mb (l.map fun p=>(p.1,qc7 p.2)) bs clock):=fun {A}=>by rw[List.getElem?_append_left (by simpa using hil),List.getElem?_set_self hil]
  have hw:∀{A B:AObj},(h.set i (frzO mb (l.map fun p=>(p.1,qc7 p.2)) bs clock)++[A,B])[h.length+1]?=some B:=fun {A B}=>by simp
  simp only[hset];refine awp_block ?_;refine qbj (qd7 ?_);refine aops_entryM (i:=i) (k0:=h.length+1) (mb:=mb) (g:=g) (since:=clock) (clock:=clock) (seen:=js.map fun j=>bs.getD j 0) rfl (by simp[qee,hN]) rfl (by simp[go_sem,hN]) (by simp[go_sem]) hf hfi j hj (by rw[hf.len];exact hj) (by
   have:bs.getD j 0=bs[j]'(by rw[hf.len];exact hj):=by rw[List.getD_eq_getElem?_getD,List.getElem?_eq_getElem (by rw[hf.len];exact hj)];rfl
   rw[←this];simp only[Env.put,hw];simp) ?_
  refine qcf [_,_,_,_,_] [_] _ rfl ?_;have hkn:=pickL_new hn hj2 (js:=js) (by simpa using hlt) hno;have hks:∀v,qbr (pickL l js) l[j].1 v=pickL l js++[(l[j].1,v)]:=fun v=>kSet_new hkn;simp only[List.getElem_map];rw[show qc7 l[j].2=.agg [Bo l[j].2.known,I l[j].2.v.k,I l[j].2.v.n,S l[j].2.v.s]from rfl];simp[go_sem,hN,AExit.then];apply qay;simp-dsimp[go_sem,hN];rw[pickL_snoc hj2,show(AObj.map (qb5 (kvSet ((pickL l js).map fun p=>(p.1,qc7 p.2)) l[j].1 (.agg [Bo l[j].2.known,I l[j].2.v.k,I l[j].2.v.n,S l[j].2.v.s]))))=.map (kAV qc7 (pickL l js++[l[j]]))from by rw[←hks l[j].2];exact congrArg _ (kvSet_map qc7 (pickL l js) l[j].1 l[j].2)];refine Wk.mk (by simp[hh]) (by simp[go_sem,hwk_app]) ?_ (by simp[go_sem]);have h1:hUnder (h.length+2) (h.set i (frzO mb (l.map fun p=>(p.1,qc7 p.2)) bs clock))=true:=qcg (qau (by omega) hu) (by
   simp[AObj.under,qbk,qc7,AX.c,go_sem];rintro x _ _ _ rfl;simp[go_sem])
  rw[qar];simp[h1,go_sem];exact kAV_under _ _
end Go.Proofs.YtilhejdbiionhaaGreatDoor

set_option maxRecDepth 4000
set_option maxHeartbeats 2000000
namespace Go.Proofs.YtilhejdbiionhaaGreatDoor
open Go Go.Abs Go.Cw
@[go_sem] theorem zero_abs:zeroAV Tryz.prog 75=some (.agg [Bo false,I 0,I 0,S ⟨#[]⟩]):=by kernel_rfl
def pickJ(la lb:List (qac×AX))(js:List Nat):List (qac×AX):=(pickL la js).map fun p=>(p.1,jn p.2 (qbg lb p.1))
theorem c_pr_join(la lb:List (qac×AX))(hn:(keysM la).Nodup)(h:qab)(i k:Nat)(hne:i≠k)(hi:h[i]?=some (.map (kAV qc7 la)))(hk:h[k]?=some (.map (kAV qc7 lb))) :
  ACalls Tryz.prog 155 [.mapr i,.mapr k] h fun r h'=>∃l',l'.Perm (la.map fun p=>(p.1,jn p.2 (qbg lb p.1)))∧r=.ret (.mapr h.length)∧h'=h++[.map (kAV qc7 l')]:=by
 refine acalls_introB Tryz.func155 rfl (by kernel_rfl) (by simp[Tryz.ntmps155]) ?_;intro E hN hh hu hb hb' hua;rw[Tryz.ntmps155]at hN;have hil:i<h.length:=(List.getElem?_eq_some_iff.1 hi).1;refine qbj (awp_ops ?_);simp[go_sem,hN];refine qbj (qay _ _ _ ?_);simp-dsimp[go_sem,hN];refine qbj ?_;refine qbj (awp_opsT [_] _ ?_);simp[go_sem,hN];refine aops_rangeM (i:=i) (kt:=9) (et:=75) (l:=la.map fun p=>(p.1,qc7 p.2)) rfl (by simp[qee,hN]) rfl (by simp[go_sem]) (by simp[go_sem]) (by simp[go_sem]) (by simp only[];rw[List.getElem?_append_left hil];exact hi) ?_;intro mb bs clock g hf;refine aops_nil ?_;simp[go_sem,AExit.then];refine awp_mloop hf (i:=i) (k0:=h.length+1) (mb:=mb) (g:=g) (fun js=>⟨[(1,.mapr k),(5,.mapr h.length),(12,.ptr (h.length+1) 0)],h.set i (frzO mb (la.map fun p=>(p.1,qc7 p.2)) bs clock)++[.map (kAV qc7 (pickJ la lb js)),itO g mb clock (js.map fun j=>bs.getD j 0) clock]⟩) (by omega) (by omega) (by omega) (fun js=>?_) ?_ (fun js hp=>?_) (fun js j hj hnd hlt hno=>?_)
 ·refine⟨by simp[go_sem],?_,?_⟩
  ·simp only[];rw[List.getElem?_append_left (by simpa using hil),List.getElem?_set_self hil]
  ·simp
 ·rw[List.set_append_left _ _ hil,List.append_assoc];exact Wk.same rfl (by simp[wkZ,go_sem])
 ·have hperm:=pickL_perm (l:=la) (js:=js) (by simpa using hp);simp[go_sem,AExit.then];refine AWp.wk (thaw_wk _ (i:=i) hf (by simp only[];rw[List.getElem?_append_left (by simpa using hil),List.getElem?_set_self hil])) ?_;simp only[];rw[List.set_append_left _ _ (by simpa using hil),List.set_set,show(AObj.map (qb5 (la.map fun p=>(p.1,qc7 p.2))))=.map (kAV qc7 la)from rfl,qdc hi];apply qay;simp-dsimp[go_sem,hN];exact⟨_,.refl _,h++[.map (kAV qc7 (pickJ la lb js))],by simp[go_sem],by simp[go_sem],by simp,by simp[qan hu,go_sem];exact kAV_under _ _,_,hperm.map _,rfl,rfl⟩
 ·have hj2:j<la.length:=by simpa using hj
  have hset:∀{A B C:AObj},(h.set i (frzO mb (la.map fun p=>(p.1,qc7 p.2)) bs clock)++[A,B]).set (h.length+1) C=h.set i (frzO mb (la.map fun p=>(p.1,qc7 p.2)) bs clock)++[A,C]:=fun {A B C}=>by simp[List.set_append]
  have hfi:∀{A:List AObj},(h.set i (frzO mb (la.map fun p=>(p.1,qc7 p.2)) bs clock)++A)[i]?=some (frzO mb (la.map fun p=>(p.1,qc7 p.2)) bs clock):=fun {A}=>by rw[List.getElem?_append_left (by simpa using hil),List.getElem?_set_self hil]
  have hw:∀{A B:AObj},(h.set i (frzO mb (la.map fun p=>(p.1,qc7 p.2)) bs clock)++[A,B])[h.length+1]?=some B:=fun {A B}=>by simp
  simp only[hset];refine awp_block ?_;refine qbj (qd7 ?_);refine aops_entryM (i:=i) (k0:=h.length+1) (mb:=mb) (g:=g) (since:=clock) (clock:=clock) (seen:=js.map fun j=>bs.getD j 0) rfl (by simp[qee,hN]) rfl (by simp[go_sem,hN]) (by simp[go_sem]) hf hfi j hj (by rw[hf.len];exact hj) (by
   have:bs.getD j 0=bs[j]'(by rw[hf.len];exact hj):=by rw[List.getD_eq_getElem?_getD,List.getElem?_eq_getElem (by rw[hf.len];exact hj)];rfl
   rw[←this];simp only[Env.put,hw];simp) ?_
  refine qcf [_,_,_,_,_] [_] _ rfl ?_;have hkk:∀{A:List AObj},(h.set i (frzO mb (la.map fun p=>(p.1,qc7 p.2)) bs clock)++A)[k]?=some (.map (kAV qc7 lb)):=fun {A}=>by
   rw[List.getElem?_append_left (by simpa using(List.getElem?_eq_some_iff.1 hk).1),List.getElem?_set_ne hne,hk]
  have hkn0:=pickL_new hn hj2 (js:=js) (by simpa using hlt) hno;have hkn:la[j].1∉keysM (pickJ la lb js):=by simpa[pickJ,keysM]using hkn0
  have hsn:∀z,jn la[j].2 (qbg lb la[j].1)=z→pickJ la lb (js++[j])=qbr (pickJ la lb js) la[j].1 z:=fun z hz=>by
   rw[kSet_new hkn,pickJ,pickL_snoc hj2,List.map_append,pickJ,←hz];rfl
  have h1:hUnder (h.length+2) (h.set i (frzO mb (la.map fun p=>(p.1,qc7 p.2)) bs clock))=true:=qcg (qau (by omega) hu) (by
   simp[AObj.under,qbk,qc7,AX.c,go_sem];rintro x _ _ _ rfl;simp[go_sem])
  have hend:∀(z:AX) (t:List (Nat×AV)) (L:qab),jn la[j].2 (qbg lb la[j].1)=z→wkT (h.length+2) t [(1,.mapr k),(5,.mapr h.length),(12,.ptr (h.length+1) 0)]→Wk E
    ⟨t,h.set i (frzO mb (la.map fun p=>(p.1,qc7 p.2)) bs clock)++.map (qb5 (kvSet ((pickJ la lb js).map fun p=>(p.1,qc7 p.2)) la[j].1 (qc7 z)))::itO g mb clock (js.map (fun j=>bs[j]?.getD 0)++[bs[j]?.getD 0]) clock::L⟩
    ⟨[(1,.mapr k),(5,.mapr h.length),(12,.ptr (h.length+1) 0)],h.set i (frzO mb (la.map fun p=>(p.1,qc7 p.2)) bs clock)++[.map (kAV qc7 (pickJ la lb (js++[j]))),itO g mb clock (js.map (fun j=>bs[j]?.getD 0)++[bs[j]?.getD 0]) clock]⟩:=fun z t L hz ht=>by
   rw[hsn z hz,kvSet_map];refine Wk.mk (by simp[hh]) (by simp[go_sem,hwk_app]) ?_ (by simpa using ht);rw[qar];simp[h1,go_sem];exact kAV_under _ _
  simp only[List.getElem_map];rw[show qc7 la[j].2=.agg [Bo la[j].2.known,I la[j].2.v.k,I la[j].2.v.n,S la[j].2.v.s]from rfl];simp[go_sem,hN,AExit.then];apply qay;have hkl:k<h.length+2:=by have:=(List.getElem?_eq_some_iff.1 hk).1;omega
  rcases hB:qbg lb la[j].1 with _|y
  ·rw[hB]at hend;simp-dsimp[go_sem,hN,hkk,hB];exact hend unk _ _ rfl (by simp[go_sem,hkl])
  ·rw[hB]at hend;simp-dsimp[go_sem,hN,hkk,hB];obtain⟨yk,yv,yn,ys⟩:=y;simp-dsimp[go_sem,hN,qc7,AX.c];refine cnd ?_ ?_<;>intro h3<;>simp at h3
   ·simp-dsimp[go_sem,hN];refine hend la[j].2 _ _ (by simp[jn,axEq,eqVal,h3]) (by simp[go_sem,hkl])
   ·simp-dsimp[go_sem,hN];refine hend unk _ _ (by
     simp only[jn];rw[if_neg fun e=>?_];rw[axEq_iff.1 e]at h3;simp at h3) (by simp[go_sem,hkl])
end Go.Proofs.YtilhejdbiionhaaGreatDoor
