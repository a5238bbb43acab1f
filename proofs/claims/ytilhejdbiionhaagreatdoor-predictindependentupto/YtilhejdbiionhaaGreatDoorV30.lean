/- Part 30 of a proof: Ty, W130, W131 -/
import Derived.Test.YtilhejdbiionhaaGreatDoorProg
import Derived.KernelRfl
import Derived.Test.YtilhejdbiionhaaGreatDoorV09
import Derived.Test.YtilhejdbiionhaaGreatDoorV12
import Derived.Test.YtilhejdbiionhaaGreatDoorV13
import Derived.Test.YtilhejdbiionhaaGreatDoorV15
import Derived.Test.YtilhejdbiionhaaGreatDoorV24
import Derived.Test.YtilhejdbiionhaaGreatDoorV26
set_option linter.all false

namespace Go.Proofs.YtilhejdbiionhaaGreatDoor
open Go Go.Abs
@[simp] theorem tk1:qah Tryz.prog 1=.func:=by kernel_rfl
@[simp] theorem ts1:qav Tryz.prog 1=1:=by kernel_rfl
@[simp] theorem tz1:qa7 Tryz.prog 1=[.val .nilFunc]:=by kernel_rfl
@[simp] theorem tb1:qar Tryz.prog 1=8:=by kernel_rfl
@[simp] theorem tk2:qah Tryz.prog 2=.int .i64:=by kernel_rfl
@[simp] theorem ts2:qav Tryz.prog 2=1:=by kernel_rfl
@[simp] theorem tz2:qa7 Tryz.prog 2=[.val (.int .i64 0)]:=by kernel_rfl
@[simp] theorem tb2:qar Tryz.prog 2=8:=by kernel_rfl
@[simp] theorem tk3:qah Tryz.prog 3=.int .i64:=by kernel_rfl
@[simp] theorem ts3:qav Tryz.prog 3=1:=by kernel_rfl
@[simp] theorem tz3:qa7 Tryz.prog 3=[.val (.int .i64 0)]:=by kernel_rfl
@[simp] theorem tb3:qar Tryz.prog 3=8:=by kernel_rfl
@[simp] theorem tk4:qah Tryz.prog 4=.bool:=by kernel_rfl
@[simp] theorem ts4:qav Tryz.prog 4=1:=by kernel_rfl
@[simp] theorem tz4:qa7 Tryz.prog 4=[.val (.bool false)]:=by kernel_rfl
@[simp] theorem tb4:qar Tryz.prog 4=1:=by kernel_rfl
@[simp] theorem tk5:qah Tryz.prog 5=.int .u8:=by kernel_rfl
@[simp] theorem ts5:qav Tryz.prog 5=1:=by kernel_rfl
@[simp] theorem tz5:qa7 Tryz.prog 5=[.val (.int .u8 0)]:=by kernel_rfl
@[simp] theorem tb5:qar Tryz.prog 5=1:=by kernel_rfl
@[simp] theorem tk9:qah Tryz.prog 9=.string:=by kernel_rfl
@[simp] theorem ts9:qav Tryz.prog 9=1:=by kernel_rfl
@[simp] theorem tz9:qa7 Tryz.prog 9=[.val (.string ⟨#[]⟩)]:=by kernel_rfl
@[simp] theorem tb9:qar Tryz.prog 9=16:=by kernel_rfl
@[simp] theorem tk20:qah Tryz.prog 20=.iface:=by kernel_rfl
@[simp] theorem ts20:qav Tryz.prog 20=1:=by kernel_rfl
@[simp] theorem tz20:qa7 Tryz.prog 20=[.val .nilIface]:=by kernel_rfl
@[simp] theorem tb20:qar Tryz.prog 20=16:=by kernel_rfl
@[simp] theorem tk21:qah Tryz.prog 21=.int .i32:=by kernel_rfl
@[simp] theorem ts21:qav Tryz.prog 21=1:=by kernel_rfl
@[simp] theorem tz21:qa7 Tryz.prog 21=[.val (.int .i32 0)]:=by kernel_rfl
@[simp] theorem tb21:qar Tryz.prog 21=4:=by kernel_rfl
@[simp] theorem tk22:qah Tryz.prog 22=.slice 62 2:=by kernel_rfl
@[simp] theorem ts22:qav Tryz.prog 22=1:=by kernel_rfl
@[simp] theorem tz22:qa7 Tryz.prog 22=[.nils]:=by kernel_rfl
@[simp] theorem tb22:qar Tryz.prog 22=24:=by kernel_rfl
@[simp] theorem tk23:qah Tryz.prog 23=.slice 64 13:=by kernel_rfl
@[simp] theorem ts23:qav Tryz.prog 23=1:=by kernel_rfl
@[simp] theorem tz23:qa7 Tryz.prog 23=[.nils]:=by kernel_rfl
@[simp] theorem tb23:qar Tryz.prog 23=24:=by kernel_rfl
@[simp] theorem tk25:qah Tryz.prog 25=.struct [(0,1),(1,1),(2,1)]:=by kernel_rfl
@[simp] theorem ts25:qav Tryz.prog 25=3:=by kernel_rfl
@[simp] theorem tz25:qa7 Tryz.prog 25=[.val (.string ⟨#[]⟩),.nils,.nils]:=by kernel_rfl
@[simp] theorem tb25:qar Tryz.prog 25=64:=by kernel_rfl
@[simp] theorem tk26:qah Tryz.prog 26=.slice 54 3:=by kernel_rfl
@[simp] theorem ts26:qav Tryz.prog 26=1:=by kernel_rfl
@[simp] theorem tz26:qa7 Tryz.prog 26=[.nils]:=by kernel_rfl
@[simp] theorem tb26:qar Tryz.prog 26=24:=by kernel_rfl
@[simp] theorem tk27:qah Tryz.prog 27=.slice 56 4:=by kernel_rfl
@[simp] theorem ts27:qav Tryz.prog 27=1:=by kernel_rfl
@[simp] theorem tz27:qa7 Tryz.prog 27=[.nils]:=by kernel_rfl
@[simp] theorem tb27:qar Tryz.prog 27=24:=by kernel_rfl
@[simp] theorem tk30:qah Tryz.prog 30=.slice 9 1:=by kernel_rfl
@[simp] theorem ts30:qav Tryz.prog 30=1:=by kernel_rfl
@[simp] theorem tz30:qa7 Tryz.prog 30=[.nils]:=by kernel_rfl
@[simp] theorem tb30:qar Tryz.prog 30=24:=by kernel_rfl
@[simp] theorem tk32:qah Tryz.prog 32=.struct [(0,1),(1,1),(2,1)]:=by kernel_rfl
@[simp] theorem ts32:qav Tryz.prog 32=3:=by kernel_rfl
@[simp] theorem tz32:qa7 Tryz.prog 32=[.val (.bool false),.nils,.nils]:=by kernel_rfl
@[simp] theorem tb32:qar Tryz.prog 32=56:=by kernel_rfl
@[simp] theorem tk33:qah Tryz.prog 33=.int .i64:=by kernel_rfl
@[simp] theorem ts33:qav Tryz.prog 33=1:=by kernel_rfl
@[simp] theorem tz33:qa7 Tryz.prog 33=[.val (.int .i64 0)]:=by kernel_rfl
@[simp] theorem tb33:qar Tryz.prog 33=8:=by kernel_rfl
@[simp] theorem tk39:qah Tryz.prog 39=.struct [(0,1),(1,1),(2,1)]:=by kernel_rfl
@[simp] theorem ts39:qav Tryz.prog 39=3:=by kernel_rfl
@[simp] theorem tz39:qa7 Tryz.prog 39=[.val (.int .i64 0),.val (.int .i64 0),.nils]:=by kernel_rfl
@[simp] theorem tb39:qar Tryz.prog 39=40:=by kernel_rfl
@[simp] theorem tk41:qah Tryz.prog 41=.struct [(0,3),(3,1),(4,1),(5,1),(6,1),(7,1)]:=by kernel_rfl
@[simp] theorem ts41:qav Tryz.prog 41=8:=by kernel_rfl
@[simp] theorem tz41:qa7 Tryz.prog 41=[.val (.int .i64 0),.val (.int .i64 0),.nils,.nils,.nils,.nils,.val (.string ⟨#[]⟩),.val (.int .i64 0)]:=by kernel_rfl
@[simp] theorem tb41:qar Tryz.prog 41=136:=by kernel_rfl
@[simp] theorem tk54:qah Tryz.prog 54=.struct [(0,1),(1,1),(2,1)]:=by kernel_rfl
@[simp] theorem ts54:qav Tryz.prog 54=3:=by kernel_rfl
@[simp] theorem tz54:qa7 Tryz.prog 54=[.val (.int .i64 0),.val (.int .i64 0),.val (.string ⟨#[]⟩)]:=by kernel_rfl
@[simp] theorem fl54:flatOf Tryz.prog 54=[.int .i64,.int .i64,.string]:=by kernel_rfl
@[simp] theorem tb54:qar Tryz.prog 54=32:=by kernel_rfl
@[simp] theorem tk56:qah Tryz.prog 56=.struct [(0,1),(1,3)]:=by kernel_rfl
@[simp] theorem ts56:qav Tryz.prog 56=4:=by kernel_rfl
@[simp] theorem tz56:qa7 Tryz.prog 56=[.val (.string ⟨#[]⟩),.val (.int .i64 0),.val (.int .i64 0),.val (.string ⟨#[]⟩)]:=by kernel_rfl
@[simp] theorem fl56:flatOf Tryz.prog 56=[.string,.int .i64,.int .i64,.string]:=by kernel_rfl
@[simp] theorem tb56:qar Tryz.prog 56=48:=by kernel_rfl
@[simp] theorem tk57:qah Tryz.prog 57=.slice 59 4:=by kernel_rfl
@[simp] theorem ts57:qav Tryz.prog 57=1:=by kernel_rfl
@[simp] theorem tz57:qa7 Tryz.prog 57=[.nils]:=by kernel_rfl
@[simp] theorem tb57:qar Tryz.prog 57=24:=by kernel_rfl
@[simp] theorem tk59:qah Tryz.prog 59=.struct [(0,1),(1,1),(2,1),(3,1)]:=by kernel_rfl
@[simp] theorem ts59:qav Tryz.prog 59=4:=by kernel_rfl
@[simp] theorem tz59:qa7 Tryz.prog 59=[.val (.int .i64 0),.val (.int .i64 0),.val (.string ⟨#[]⟩),.nils]:=by kernel_rfl
@[simp] theorem tb59:qar Tryz.prog 59=56:=by kernel_rfl
@[simp] theorem tk62:qah Tryz.prog 62=.struct [(0,1),(1,1)]:=by kernel_rfl
@[simp] theorem ts62:qav Tryz.prog 62=2:=by kernel_rfl
@[simp] theorem tz62:qa7 Tryz.prog 62=[.val (.string ⟨#[]⟩),.val (.int .i64 0)]:=by kernel_rfl
@[simp] theorem fl62:flatOf Tryz.prog 62=[.string,.int .i64]:=by kernel_rfl
@[simp] theorem tb62:qar Tryz.prog 62=24:=by kernel_rfl
@[simp] theorem tk64:qah Tryz.prog 64=.struct [(0,1),(1,1),(2,1),(3,4),(7,4),(11,1),(12,1)]:=by kernel_rfl
@[simp] theorem ts64:qav Tryz.prog 64=13:=by kernel_rfl
@[simp] theorem tz64:qa7 Tryz.prog 64=[.val (.int .i64 0),.val (.string ⟨#[]⟩),.val (.int .i64 0),.val (.int .i64 0),.val (.int .i64 0),.val (.string ⟨#[]⟩),.nils,.val (.int .i64 0),.val (.int .i64 0),.val (.string ⟨#[]⟩),.nils,.nils,.nils]:=by kernel_rfl
@[simp] theorem tb64:qar Tryz.prog 64=192:=by kernel_rfl
@[simp] theorem tk68:qah Tryz.prog 68=.ptr:=by kernel_rfl
@[simp] theorem ts68:qav Tryz.prog 68=1:=by kernel_rfl
@[simp] theorem tz68:qa7 Tryz.prog 68=[.val (.pointer none)]:=by kernel_rfl
@[simp] theorem tb68:qar Tryz.prog 68=8:=by kernel_rfl
@[simp] theorem tk69:qah Tryz.prog 69=.map 9 4:=by kernel_rfl
@[simp] theorem ts69:qav Tryz.prog 69=1:=by kernel_rfl
@[simp] theorem tz69:qa7 Tryz.prog 69=[.val (.map none)]:=by kernel_rfl
@[simp] theorem tb69:qar Tryz.prog 69=8:=by kernel_rfl
@[simp] theorem tk71:qah Tryz.prog 71=.struct [(0,1),(1,1),(2,1)]:=by kernel_rfl
@[simp] theorem ts71:qav Tryz.prog 71=3:=by kernel_rfl
@[simp] theorem tz71:qa7 Tryz.prog 71=[.val (.map none),.val (.map none),.val (.bool false)]:=by kernel_rfl
@[simp] theorem tb71:qar Tryz.prog 71=24:=by kernel_rfl
@[simp] theorem tk73:qah Tryz.prog 73=.map 9 75:=by kernel_rfl
@[simp] theorem ts73:qav Tryz.prog 73=1:=by kernel_rfl
@[simp] theorem tz73:qa7 Tryz.prog 73=[.val (.map none)]:=by kernel_rfl
@[simp] theorem tb73:qar Tryz.prog 73=8:=by kernel_rfl
@[simp] theorem tk75:qah Tryz.prog 75=.struct [(0,1),(1,3)]:=by kernel_rfl
@[simp] theorem ts75:qav Tryz.prog 75=4:=by kernel_rfl
@[simp] theorem tz75:qa7 Tryz.prog 75=[.val (.bool false),.val (.int .i64 0),.val (.int .i64 0),.val (.string ⟨#[]⟩)]:=by kernel_rfl
@[simp] theorem fl75:flatOf Tryz.prog 75=[.bool,.int .i64,.int .i64,.string]:=by kernel_rfl
@[simp] theorem tb75:qar Tryz.prog 75=40:=by kernel_rfl
@[simp] theorem tk80:qah Tryz.prog 80=.ptr:=by kernel_rfl
@[simp] theorem ts80:qav Tryz.prog 80=1:=by kernel_rfl
@[simp] theorem tz80:qa7 Tryz.prog 80=[.val (.pointer none)]:=by kernel_rfl
@[simp] theorem tb80:qar Tryz.prog 80=8:=by kernel_rfl
@[simp] theorem tk82:qah Tryz.prog 82=.map 9 54:=by kernel_rfl
@[simp] theorem ts82:qav Tryz.prog 82=1:=by kernel_rfl
@[simp] theorem tz82:qa7 Tryz.prog 82=[.val (.map none)]:=by kernel_rfl
@[simp] theorem tb82:qar Tryz.prog 82=8:=by kernel_rfl
@[simp] theorem tk84:qah Tryz.prog 84=.struct [(0,1),(1,3),(4,1),(5,1),(6,8)]:=by kernel_rfl
@[simp] theorem ts84:qav Tryz.prog 84=14:=by kernel_rfl
@[simp] theorem tz84:qa7 Tryz.prog 84=[.nils,.val (.bool false),.nils,.nils,.val (.map none),.val (.map none),.val (.int .i64 0),.val (.int .i64 0),.nils,.nils,.nils,.nils,.val (.string ⟨#[]⟩),.val (.int .i64 0)]:=by kernel_rfl
@[simp] theorem tb84:qar Tryz.prog 84=232:=by kernel_rfl
@[simp] theorem tk87:qah Tryz.prog 87=.struct [(0,3),(3,1)]:=by kernel_rfl
@[simp] theorem ts87:qav Tryz.prog 87=4:=by kernel_rfl
@[simp] theorem tz87:qa7 Tryz.prog 87=[.val (.int .i64 0),.val (.int .i64 0),.nils,.val (.string ⟨#[]⟩)]:=by kernel_rfl
@[simp] theorem tb87:qar Tryz.prog 87=56:=by kernel_rfl
@[simp] theorem tk96:qah Tryz.prog 96=.struct [(0,1),(1,1),(2,1),(3,1)]:=by kernel_rfl
@[simp] theorem ts96:qav Tryz.prog 96=4:=by kernel_rfl
@[simp] theorem tz96:qa7 Tryz.prog 96=[.val (.int .i64 0),.val (.int .i64 0),.val (.int .i64 0),.val (.int .i64 0)]:=by kernel_rfl
@[simp] theorem fl96:flatOf Tryz.prog 96=[.int .i64,.int .i64,.int .i64,.int .i64]:=by kernel_rfl
@[simp] theorem tb96:qar Tryz.prog 96=32:=by kernel_rfl
@[simp] theorem tk100:qah Tryz.prog 100=.ptr:=by kernel_rfl
@[simp] theorem ts100:qav Tryz.prog 100=1:=by kernel_rfl
@[simp] theorem tz100:qa7 Tryz.prog 100=[.val (.pointer none)]:=by kernel_rfl
@[simp] theorem tb100:qar Tryz.prog 100=8:=by kernel_rfl
@[simp] theorem tk105:qah Tryz.prog 105=.func:=by kernel_rfl
@[simp] theorem ts105:qav Tryz.prog 105=1:=by kernel_rfl
@[simp] theorem tz105:qa7 Tryz.prog 105=[.val .nilFunc]:=by kernel_rfl
@[simp] theorem tb105:qar Tryz.prog 105=8:=by kernel_rfl
@[simp] theorem tk109:qah Tryz.prog 109=.array 4 3 1:=by kernel_rfl
@[simp] theorem ts109:qav Tryz.prog 109=4:=by kernel_rfl
@[simp] theorem tz109:qa7 Tryz.prog 109=[.val (.int .i64 0),.val (.int .i64 0),.val (.int .i64 0),.val (.int .i64 0)]:=by kernel_rfl
@[simp] theorem tb109:qar Tryz.prog 109=32:=by kernel_rfl
@[simp] theorem tk120:qah Tryz.prog 120=.struct [(0,1),(1,1)]:=by kernel_rfl
@[simp] theorem ts120:qav Tryz.prog 120=2:=by kernel_rfl
@[simp] theorem tz120:qa7 Tryz.prog 120=[.nils,.nils]:=by kernel_rfl
@[simp] theorem tb120:qar Tryz.prog 120=48:=by kernel_rfl
@[simp] theorem tk124:qah Tryz.prog 124=.map 9 3:=by kernel_rfl
@[simp] theorem ts124:qav Tryz.prog 124=1:=by kernel_rfl
@[simp] theorem tz124:qa7 Tryz.prog 124=[.val (.map none)]:=by kernel_rfl
@[simp] theorem tb124:qar Tryz.prog 124=8:=by kernel_rfl
@[simp] theorem tk128:qah Tryz.prog 128=.struct [(0,3),(3,1)]:=by kernel_rfl
@[simp] theorem ts128:qav Tryz.prog 128=4:=by kernel_rfl
@[simp] theorem tz128:qa7 Tryz.prog 128=[.val (.string ⟨#[]⟩),.nils,.nils,.val (.map none)]:=by kernel_rfl
@[simp] theorem tb128:qar Tryz.prog 128=72:=by kernel_rfl
@[simp] theorem tk131:qah Tryz.prog 131=.func:=by kernel_rfl
@[simp] theorem ts131:qav Tryz.prog 131=1:=by kernel_rfl
@[simp] theorem tz131:qa7 Tryz.prog 131=[.val .nilFunc]:=by kernel_rfl
@[simp] theorem tb131:qar Tryz.prog 131=8:=by kernel_rfl
@[simp] theorem tk132:qah Tryz.prog 132=.func:=by kernel_rfl
@[simp] theorem ts132:qav Tryz.prog 132=1:=by kernel_rfl
@[simp] theorem tz132:qa7 Tryz.prog 132=[.val .nilFunc]:=by kernel_rfl
@[simp] theorem tb132:qar Tryz.prog 132=8:=by kernel_rfl
@[simp] theorem tk136:qah Tryz.prog 136=.struct [(0,1),(1,3),(4,1),(5,1),(6,8)]:=by kernel_rfl
@[simp] theorem ts136:qav Tryz.prog 136=14:=by kernel_rfl
@[simp] theorem tz136:qa7 Tryz.prog 136=[.nils,.val (.bool false),.nils,.nils,.nils,.nils,.val (.int .i64 0),.val (.int .i64 0),.nils,.nils,.nils,.nils,.val (.string ⟨#[]⟩),.val (.int .i64 0)]:=by kernel_rfl
@[simp] theorem tb136:qar Tryz.prog 136=264:=by kernel_rfl
@[simp] theorem tk148:qah Tryz.prog 148=.int .u64:=by kernel_rfl
@[simp] theorem ts148:qav Tryz.prog 148=1:=by kernel_rfl
@[simp] theorem tz148:qa7 Tryz.prog 148=[.val (.int .u64 0)]:=by kernel_rfl
@[simp] theorem tb148:qar Tryz.prog 148=8:=by kernel_rfl
@[simp] theorem tk157:qah Tryz.prog 157=.func:=by kernel_rfl
@[simp] theorem ts157:qav Tryz.prog 157=1:=by kernel_rfl
@[simp] theorem tz157:qa7 Tryz.prog 157=[.val .nilFunc]:=by kernel_rfl
@[simp] theorem tb157:qar Tryz.prog 157=8:=by kernel_rfl
@[simp] theorem tk160:qah Tryz.prog 160=.slice 3 1:=by kernel_rfl
@[simp] theorem ts160:qav Tryz.prog 160=1:=by kernel_rfl
@[simp] theorem tz160:qa7 Tryz.prog 160=[.nils]:=by kernel_rfl
@[simp] theorem tb160:qar Tryz.prog 160=24:=by kernel_rfl
@[simp] theorem tk167:qah Tryz.prog 167=.slice 170 20:=by kernel_rfl
@[simp] theorem ts167:qav Tryz.prog 167=1:=by kernel_rfl
@[simp] theorem tz167:qa7 Tryz.prog 167=[.nils]:=by kernel_rfl
@[simp] theorem tb167:qar Tryz.prog 167=24:=by kernel_rfl
@[simp] theorem tk170:qah Tryz.prog 170=.struct [(0,1),(1,13),(14,1),(15,4),(19,1)]:=by kernel_rfl
@[simp] theorem ts170:qav Tryz.prog 170=20:=by kernel_rfl
@[simp] theorem tz170:qa7 Tryz.prog 170=[.val (.bool false),.val (.int .i64 0),.val (.string ⟨#[]⟩),.val (.int .i64 0),.val (.int .i64 0),.val (.int .i64 0),.val (.string ⟨#[]⟩),.nils,.val (.int .i64 0),.val (.int .i64 0),.val (.string ⟨#[]⟩),.nils,.nils,.nils,.val (.int .i64 0),.val (.int .i64 0),.val (.int .i64 0),.val (.string ⟨#[]⟩),.nils,.val (.bool false)]:=by kernel_rfl
@[simp] theorem tb170:qar Tryz.prog 170=272:=by kernel_rfl
@[simp] theorem tk176:qah Tryz.prog 176=.ptr:=by kernel_rfl
@[simp] theorem ts176:qav Tryz.prog 176=1:=by kernel_rfl
@[simp] theorem tz176:qa7 Tryz.prog 176=[.val (.pointer none)]:=by kernel_rfl
@[simp] theorem tb176:qar Tryz.prog 176=8:=by kernel_rfl
@[simp] theorem tk178:qah Tryz.prog 178=.struct [(0,1),(1,1),(2,1)]:=by kernel_rfl
@[simp] theorem ts178:qav Tryz.prog 178=3:=by kernel_rfl
@[simp] theorem tz178:qa7 Tryz.prog 178=[.val (.map none),.val (.map none),.val (.map none)]:=by kernel_rfl
@[simp] theorem tb178:qar Tryz.prog 178=24:=by kernel_rfl
@[simp] theorem tk181:qah Tryz.prog 181=.func:=by kernel_rfl
@[simp] theorem ts181:qav Tryz.prog 181=1:=by kernel_rfl
@[simp] theorem tz181:qa7 Tryz.prog 181=[.val .nilFunc]:=by kernel_rfl
@[simp] theorem tb181:qar Tryz.prog 181=8:=by kernel_rfl
@[simp] theorem tk182:qah Tryz.prog 182=.func:=by kernel_rfl
@[simp] theorem ts182:qav Tryz.prog 182=1:=by kernel_rfl
@[simp] theorem tz182:qa7 Tryz.prog 182=[.val .nilFunc]:=by kernel_rfl
@[simp] theorem tb182:qar Tryz.prog 182=8:=by kernel_rfl
@[simp] theorem tk187:qah Tryz.prog 187=.slice 75 4:=by kernel_rfl
@[simp] theorem ts187:qav Tryz.prog 187=1:=by kernel_rfl
@[simp] theorem tz187:qa7 Tryz.prog 187=[.nils]:=by kernel_rfl
@[simp] theorem tb187:qar Tryz.prog 187=24:=by kernel_rfl
@[simp] theorem tk193:qah Tryz.prog 193=.int .i64:=by kernel_rfl
@[simp] theorem ts193:qav Tryz.prog 193=1:=by kernel_rfl
@[simp] theorem tz193:qa7 Tryz.prog 193=[.val (.int .i64 0)]:=by kernel_rfl
@[simp] theorem tb193:qar Tryz.prog 193=8:=by kernel_rfl
@[simp] theorem tk200:qah Tryz.prog 200=.int .u32:=by kernel_rfl
@[simp] theorem ts200:qav Tryz.prog 200=1:=by kernel_rfl
@[simp] theorem tz200:qa7 Tryz.prog 200=[.val (.int .u32 0)]:=by kernel_rfl
@[simp] theorem tb200:qar Tryz.prog 200=4:=by kernel_rfl
@[simp] theorem tk202:qah Tryz.prog 202=.int .u64:=by kernel_rfl
@[simp] theorem ts202:qav Tryz.prog 202=1:=by kernel_rfl
@[simp] theorem tz202:qa7 Tryz.prog 202=[.val (.int .u64 0)]:=by kernel_rfl
@[simp] theorem tb202:qar Tryz.prog 202=8:=by kernel_rfl
@[simp] theorem tk225:qah Tryz.prog 225=.ptr:=by kernel_rfl
@[simp] theorem ts225:qav Tryz.prog 225=1:=by kernel_rfl
@[simp] theorem tz225:qa7 Tryz.prog 225=[.val (.pointer none)]:=by kernel_rfl
@[simp] theorem tb225:qar Tryz.prog 225=8:=by kernel_rfl
@[simp] theorem tk227:qah Tryz.prog 227=.struct [(0,1),(1,1),(2,1)]:=by kernel_rfl
@[simp] theorem ts227:qav Tryz.prog 227=3:=by kernel_rfl
@[simp] theorem tz227:qa7 Tryz.prog 227=[.val (.int .i64 0),.val .nilFunc,.val .nilFunc]:=by kernel_rfl
@[simp] theorem tb227:qar Tryz.prog 227=24:=by kernel_rfl
@[simp] theorem tk238:qah Tryz.prog 238=.int .u64:=by kernel_rfl
@[simp] theorem ts238:qav Tryz.prog 238=1:=by kernel_rfl
@[simp] theorem tz238:qa7 Tryz.prog 238=[.val (.int .u64 0)]:=by kernel_rfl
@[simp] theorem tb238:qar Tryz.prog 238=8:=by kernel_rfl
@[simp] theorem tk242:qah Tryz.prog 242=.ptr:=by kernel_rfl
@[simp] theorem ts242:qav Tryz.prog 242=1:=by kernel_rfl
@[simp] theorem tz242:qa7 Tryz.prog 242=[.val (.pointer none)]:=by kernel_rfl
@[simp] theorem tb242:qar Tryz.prog 242=8:=by kernel_rfl
@[simp] theorem tk259:qah Tryz.prog 259=.func:=by kernel_rfl
@[simp] theorem ts259:qav Tryz.prog 259=1:=by kernel_rfl
@[simp] theorem tz259:qa7 Tryz.prog 259=[.val .nilFunc]:=by kernel_rfl
@[simp] theorem tb259:qar Tryz.prog 259=8:=by kernel_rfl
@[simp] theorem tk261:qah Tryz.prog 261=.struct [(0,1),(1,1),(2,1),(3,1),(4,1),(5,1)]:=by kernel_rfl
@[simp] theorem ts261:qav Tryz.prog 261=6:=by kernel_rfl
@[simp] theorem tz261:qa7 Tryz.prog 261=[.val (.bool false),.val (.bool false),.val (.bool false),.val (.bool false),.val (.bool false),.val (.bool false)]:=by kernel_rfl
@[simp] theorem fl261:flatOf Tryz.prog 261=[.bool,.bool,.bool,.bool,.bool,.bool]:=by kernel_rfl
@[simp] theorem tb261:qar Tryz.prog 261=6:=by kernel_rfl
@[simp] theorem tk284:qah Tryz.prog 284=.struct [(0,3),(3,3)]:=by kernel_rfl
@[simp] theorem ts284:qav Tryz.prog 284=6:=by kernel_rfl
@[simp] theorem tz284:qa7 Tryz.prog 284=[.val (.int .i64 0),.val (.int .i64 0),.val (.string ⟨#[]⟩),.val (.int .i64 0),.val (.int .i64 0),.val (.string ⟨#[]⟩)]:=by kernel_rfl
@[simp] theorem fl284:flatOf Tryz.prog 284=[.int .i64,.int .i64,.string,.int .i64,.int .i64,.string]:=by kernel_rfl
@[simp] theorem tb284:qar Tryz.prog 284=64:=by kernel_rfl
@[simp] theorem tk291:qah Tryz.prog 291=.array 24 5 1:=by kernel_rfl
@[simp] theorem ts291:qav Tryz.prog 291=24:=by kernel_rfl
@[simp] theorem tz291:qa7 Tryz.prog 291=[.val (.int .u8 0),.val (.int .u8 0),.val (.int .u8 0),.val (.int .u8 0),.val (.int .u8 0),.val (.int .u8 0),.val (.int .u8 0),.val (.int .u8 0),.val (.int .u8 0),.val (.int .u8 0),.val (.int .u8 0),.val (.int .u8 0),.val (.int .u8 0),.val (.int .u8 0),.val (.int .u8 0),.val (.int .u8 0),.val (.int .u8 0),.val (.int .u8 0),.val (.int .u8 0),.val (.int .u8 0),.val (.int .u8 0),.val (.int .u8 0),.val (.int .u8 0),.val (.int .u8 0)]:=by kernel_rfl
@[simp] theorem tb291:qar Tryz.prog 291=24:=by kernel_rfl
@[simp] theorem tk293:qah Tryz.prog 293=.slice 5 1:=by kernel_rfl
@[simp] theorem ts293:qav Tryz.prog 293=1:=by kernel_rfl
@[simp] theorem tz293:qa7 Tryz.prog 293=[.nils]:=by kernel_rfl
@[simp] theorem tb293:qar Tryz.prog 293=24:=by kernel_rfl
@[simp] theorem tk300:qah Tryz.prog 300=.array 20 202 1:=by kernel_rfl
@[simp] theorem ts300:qav Tryz.prog 300=20:=by kernel_rfl
@[simp] theorem tz300:qa7 Tryz.prog 300=[.val (.int .u64 0),.val (.int .u64 0),.val (.int .u64 0),.val (.int .u64 0),.val (.int .u64 0),.val (.int .u64 0),.val (.int .u64 0),.val (.int .u64 0),.val (.int .u64 0),.val (.int .u64 0),.val (.int .u64 0),.val (.int .u64 0),.val (.int .u64 0),.val (.int .u64 0),.val (.int .u64 0),.val (.int .u64 0),.val (.int .u64 0),.val (.int .u64 0),.val (.int .u64 0),.val (.int .u64 0)]:=by kernel_rfl
@[simp] theorem tb300:qar Tryz.prog 300=160:=by kernel_rfl
@[simp] theorem tk303:qah Tryz.prog 303=.array 32 5 1:=by kernel_rfl
@[simp] theorem ts303:qav Tryz.prog 303=32:=by kernel_rfl
@[simp] theorem tz303:qa7 Tryz.prog 303=[.val (.int .u8 0),.val (.int .u8 0),.val (.int .u8 0),.val (.int .u8 0),.val (.int .u8 0),.val (.int .u8 0),.val (.int .u8 0),.val (.int .u8 0),.val (.int .u8 0),.val (.int .u8 0),.val (.int .u8 0),.val (.int .u8 0),.val (.int .u8 0),.val (.int .u8 0),.val (.int .u8 0),.val (.int .u8 0),.val (.int .u8 0),.val (.int .u8 0),.val (.int .u8 0),.val (.int .u8 0),.val (.int .u8 0),.val (.int .u8 0),.val (.int .u8 0),.val (.int .u8 0),.val (.int .u8 0),.val (.int .u8 0),.val (.int .u8 0),.val (.int .u8 0),.val (.int .u8 0),.val (.int .u8 0),.val (.int .u8 0),.val (.int .u8 0)]:=by kernel_rfl
@[simp] theorem tb303:qar Tryz.prog 303=32:=by kernel_rfl
@[simp] theorem tk304:qah Tryz.prog 304=.array 64 5 1:=by kernel_rfl
@[simp] theorem ts304:qav Tryz.prog 304=64:=by kernel_rfl
@[simp] theorem tz304:qa7 Tryz.prog 304=[.val (.int .u8 0),.val (.int .u8 0),.val (.int .u8 0),.val (.int .u8 0),.val (.int .u8 0),.val (.int .u8 0),.val (.int .u8 0),.val (.int .u8 0),.val (.int .u8 0),.val (.int .u8 0),.val (.int .u8 0),.val (.int .u8 0),.val (.int .u8 0),.val (.int .u8 0),.val (.int .u8 0),.val (.int .u8 0),.val (.int .u8 0),.val (.int .u8 0),.val (.int .u8 0),.val (.int .u8 0),.val (.int .u8 0),.val (.int .u8 0),.val (.int .u8 0),.val (.int .u8 0),.val (.int .u8 0),.val (.int .u8 0),.val (.int .u8 0),.val (.int .u8 0),.val (.int .u8 0),.val (.int .u8 0),.val (.int .u8 0),.val (.int .u8 0),.val (.int .u8 0),.val (.int .u8 0),.val (.int .u8 0),.val (.int .u8 0),.val (.int .u8 0),.val (.int .u8 0),.val (.int .u8 0),.val (.int .u8 0),.val (.int .u8 0),.val (.int .u8 0),.val (.int .u8 0),.val (.int .u8 0),.val (.int .u8 0),.val (.int .u8 0),.val (.int .u8 0),.val (.int .u8 0),.val (.int .u8 0),.val (.int .u8 0),.val (.int .u8 0),.val (.int .u8 0),.val (.int .u8 0),.val (.int .u8 0),.val (.int .u8 0),.val (.int .u8 0),.val (.int .u8 0),.val (.int .u8 0),.val (.int .u8 0),.val (.int .u8 0),.val (.int .u8 0),.val (.int .u8 0),.val (.int .u8 0),.val (.int .u8 0)]:=by kernel_rfl
@[simp] theorem tb304:qar Tryz.prog 304=64:=by kernel_rfl
end Go.Proofs.YtilhejdbiionhaaGreatDoor

set_option maxRecDepth 4000
set_option maxHeartbeats 2000000
namespace Go.Proofs.YtilhejdbiionhaaGreatDoor
open Go Go.Abs Go.Cw
theorem c_pr_clone (l:List (qac×AX)) (hn:(keysM l).Nodup) (h:qab) (i:Nat) (hi:h[i]?=some (.map (kAV qcu l))) :
  ACalls Tryz.prog 105 [.mapr i] h fun r h'=>∃ l',l'.Perm l∧r=.ret (.mapr h.length)∧h'=h++[.map (kAV qcu l')]:=by
 refine acalls_introB Tryz.func105 rfl (by kernel_rfl) (by simp [Tryz.ntmps105]) ?_;intro E hN hh hu hb hb' hua;rw [Tryz.ntmps105] at hN;have hil:i<h.length:=(List.getElem?_eq_some_iff.1 hi).1;refine qbg (awp_ops ?_);simp [go_sem,hN];refine qbg (qay _ _ _ ?_);simp -dsimp [go_sem,hN];refine qbg ?_;refine qbg (awp_opsT [_] _ ?_);simp [go_sem,hN];refine aops_rangeM (i:=i) (kt:=9) (et:=75) (l:=l.map fun p=>(p.1,qcu p.2)) rfl (by simp [qdy,hN]) rfl (by simp [go_sem]) (by simp [go_sem]) (by simp [go_sem]) (by simp only [];rw [List.getElem?_append_left hil];exact hi) ?_;intro mb bs clock g hf;refine aops_nil ?_;simp [go_sem,AExit.then];refine awp_mloop hf (i:=i) (k0:=h.length+1) (mb:=mb) (g:=g) (fun js=>⟨[(3,.mapr h.length),(8,.ptr (h.length+1) 0)],h.set i (frzO mb (l.map fun p=>(p.1,qcu p.2)) bs clock)++[.map (kAV qcu (pickL l js)),itO g mb clock (js.map fun j=>bs.getD j 0) clock]⟩) (by omega) (by omega) (by omega) (fun js=>?_) ?_ (fun js hp=>?_) (fun js j hj hnd hlt hno=>?_)
 ·
  refine ⟨by simp [go_sem],?_,?_⟩
  ·
   simp only [];rw [List.getElem?_append_left (by simpa using hil),List.getElem?_set_self hil]
  · simp
 ·
  rw [List.set_append_left _ _ hil,List.append_assoc];exact Wk.same rfl (by simp [wkZ,go_sem])
 ·
  have hperm:=pickL_perm (l:=l) (js:=js) (by simpa using hp);simp [go_sem,AExit.then];refine AWp.wk (thaw_wk _ (i:=i) hf (by simp only [];rw [List.getElem?_append_left (by simpa using hil),List.getElem?_set_self hil])) ?_;simp only [];rw [List.set_append_left _ _ (by simpa using hil),List.set_set,show (AObj.map (qbv (l.map fun p=>(p.1,qcu p.2))))=.map (kAV qcu l) from rfl,qcz hi];apply qay;simp -dsimp [go_sem,hN];exact ⟨_,.refl _,h++[.map (kAV qcu (pickL l js))],by simp [go_sem],by simp [go_sem],by simp,by simp [qal hu,go_sem];exact kAV_under _ _,_,hperm,rfl,rfl⟩
 ·
  have hj2:j<l.length:=by simpa using hj
  have hset:∀ {A B C:AObj},(h.set i (frzO mb (l.map fun p=>(p.1,qcu p.2)) bs clock)++[A,B]).set (h.length+1) C=h.set i (frzO mb (l.map fun p=>(p.1,qcu p.2)) bs clock)++[A,C]:=fun {A B C}=>by simp [List.set_append]
  have hfi:∀ {A:List AObj},(h.set i (frzO mb (l.map fun p=>(p.1,qcu p.2)) bs clock)++A)[i]?=some (frzO mb (l.map fun p=>(p.1,qcu p.2)) bs clock):=fun {A}=>by rw [List.getElem?_append_left (by simpa using hil),List.getElem?_set_self hil]
  have hw:∀ {A B:AObj},(h.set i (frzO mb (l.map fun p=>(p.1,qcu p.2)) bs clock)++[A,B])[h.length+1]?=some B:=fun {A B}=>by simp
  simp only [hset];refine awp_block ?_;refine qbg (qdw ?_);refine aops_entryM (i:=i) (k0:=h.length+1) (mb:=mb) (g:=g) (since:=clock) (clock:=clock) (seen:=js.map fun j=>bs.getD j 0) rfl (by simp [qdy,hN]) rfl (by simp [go_sem,hN]) (by simp [go_sem]) hf hfi j hj (by rw [hf.len];exact hj) (by
   have:bs.getD j 0=bs[j]'(by rw [hf.len];exact hj):=by rw [List.getD_eq_getElem?_getD,List.getElem?_eq_getElem (by rw [hf.len];exact hj)];rfl
   rw [← this];simp only [Env.put,hw];simp) ?_
  refine qcb [_,_,_,_,_] [_] _ rfl ?_;have hkn:=pickL_new hn hj2 (js:=js) (by simpa using hlt) hno;have hks:∀ v,qbz (pickL l js) l[j].1 v=pickL l js++[(l[j].1,v)]:=fun v=>kSet_new hkn;simp only [List.getElem_map];rw [show qcu l[j].2=.agg [Bo l[j].2.known,I l[j].2.v.k,I l[j].2.v.n,S l[j].2.v.s] from rfl];simp [go_sem,hN,AExit.then];apply qay;simp -dsimp [go_sem,hN];rw [pickL_snoc hj2,show (AObj.map (qbv (kvSet ((pickL l js).map fun p=>(p.1,qcu p.2)) l[j].1 (.agg [Bo l[j].2.known,I l[j].2.v.k,I l[j].2.v.n,S l[j].2.v.s]))))=.map (kAV qcu (pickL l js++[l[j]])) from by rw [← hks l[j].2];exact congrArg _ (kvSet_map qcu (pickL l js) l[j].1 l[j].2)];refine Wk.mk (by simp [hh]) (by simp [go_sem,hwk_app]) ?_ (by simp [go_sem]);have h1:hUnder (h.length+2) (h.set i (frzO mb (l.map fun p=>(p.1,qcu p.2)) bs clock))=true:=qcc (qas (by omega) hu) (by
   simp [AObj.under,qbh,qcu,AX.c,go_sem];rintro x _ _ _ rfl;simp [go_sem])
  rw [qan];simp [h1,go_sem];exact kAV_under _ _
end Go.Proofs.YtilhejdbiionhaaGreatDoor

set_option maxRecDepth 4000
set_option maxHeartbeats 2000000
namespace Go.Proofs.YtilhejdbiionhaaGreatDoor
open Go Go.Abs Go.Cw
@[go_sem] theorem zero_abs:zeroAV Tryz.prog 75=some (.agg [Bo false,I 0,I 0,S ⟨#[]⟩]):=by kernel_rfl
def pickJ (la lb:List (qac×AX)) (js:List Nat):List (qac×AX):=(pickL la js).map fun p=>(p.1,jn p.2 (qbm lb p.1))
theorem c_pr_join (la lb:List (qac×AX)) (hn:(keysM la).Nodup) (h:qab) (i k:Nat) (hne:i≠k) (hi:h[i]?=some (.map (kAV qcu la))) (hk:h[k]?=some (.map (kAV qcu lb))) :
  ACalls Tryz.prog 155 [.mapr i,.mapr k] h fun r h'=>∃ l',l'.Perm (la.map fun p=>(p.1,jn p.2 (qbm lb p.1)))∧r=.ret (.mapr h.length)∧h'=h++[.map (kAV qcu l')]:=by
 refine acalls_introB Tryz.func155 rfl (by kernel_rfl) (by simp [Tryz.ntmps155]) ?_;intro E hN hh hu hb hb' hua;rw [Tryz.ntmps155] at hN;have hil:i<h.length:=(List.getElem?_eq_some_iff.1 hi).1;refine qbg (awp_ops ?_);simp [go_sem,hN];refine qbg (qay _ _ _ ?_);simp -dsimp [go_sem,hN];refine qbg ?_;refine qbg (awp_opsT [_] _ ?_);simp [go_sem,hN];refine aops_rangeM (i:=i) (kt:=9) (et:=75) (l:=la.map fun p=>(p.1,qcu p.2)) rfl (by simp [qdy,hN]) rfl (by simp [go_sem]) (by simp [go_sem]) (by simp [go_sem]) (by simp only [];rw [List.getElem?_append_left hil];exact hi) ?_;intro mb bs clock g hf;refine aops_nil ?_;simp [go_sem,AExit.then];refine awp_mloop hf (i:=i) (k0:=h.length+1) (mb:=mb) (g:=g) (fun js=>⟨[(1,.mapr k),(5,.mapr h.length),(12,.ptr (h.length+1) 0)],h.set i (frzO mb (la.map fun p=>(p.1,qcu p.2)) bs clock)++[.map (kAV qcu (pickJ la lb js)),itO g mb clock (js.map fun j=>bs.getD j 0) clock]⟩) (by omega) (by omega) (by omega) (fun js=>?_) ?_ (fun js hp=>?_) (fun js j hj hnd hlt hno=>?_)
 ·
  refine ⟨by simp [go_sem],?_,?_⟩
  ·
   simp only [];rw [List.getElem?_append_left (by simpa using hil),List.getElem?_set_self hil]
  · simp
 ·
  rw [List.set_append_left _ _ hil,List.append_assoc];exact Wk.same rfl (by simp [wkZ,go_sem])
 ·
  have hperm:=pickL_perm (l:=la) (js:=js) (by simpa using hp);simp [go_sem,AExit.then];refine AWp.wk (thaw_wk _ (i:=i) hf (by simp only [];rw [List.getElem?_append_left (by simpa using hil),List.getElem?_set_self hil])) ?_;simp only [];rw [List.set_append_left _ _ (by simpa using hil),List.set_set,show (AObj.map (qbv (la.map fun p=>(p.1,qcu p.2))))=.map (kAV qcu la) from rfl,qcz hi];apply qay;simp -dsimp [go_sem,hN];exact ⟨_,.refl _,h++[.map (kAV qcu (pickJ la lb js))],by simp [go_sem],by simp [go_sem],by simp,by simp [qal hu,go_sem];exact kAV_under _ _,_,hperm.map _,rfl,rfl⟩
 ·
  have hj2:j<la.length:=by simpa using hj
  have hset:∀ {A B C:AObj},(h.set i (frzO mb (la.map fun p=>(p.1,qcu p.2)) bs clock)++[A,B]).set (h.length+1) C=h.set i (frzO mb (la.map fun p=>(p.1,qcu p.2)) bs clock)++[A,C]:=fun {A B C}=>by simp [List.set_append]
  have hfi:∀ {A:List AObj},(h.set i (frzO mb (la.map fun p=>(p.1,qcu p.2)) bs clock)++A)[i]?=some (frzO mb (la.map fun p=>(p.1,qcu p.2)) bs clock):=fun {A}=>by rw [List.getElem?_append_left (by simpa using hil),List.getElem?_set_self hil]
  have hw:∀ {A B:AObj},(h.set i (frzO mb (la.map fun p=>(p.1,qcu p.2)) bs clock)++[A,B])[h.length+1]?=some B:=fun {A B}=>by simp
  simp only [hset];refine awp_block ?_;refine qbg (qdw ?_);refine aops_entryM (i:=i) (k0:=h.length+1) (mb:=mb) (g:=g) (since:=clock) (clock:=clock) (seen:=js.map fun j=>bs.getD j 0) rfl (by simp [qdy,hN]) rfl (by simp [go_sem,hN]) (by simp [go_sem]) hf hfi j hj (by rw [hf.len];exact hj) (by
   have:bs.getD j 0=bs[j]'(by rw [hf.len];exact hj):=by rw [List.getD_eq_getElem?_getD,List.getElem?_eq_getElem (by rw [hf.len];exact hj)];rfl
   rw [← this];simp only [Env.put,hw];simp) ?_
  refine qcb [_,_,_,_,_] [_] _ rfl ?_;have hkk:∀ {A:List AObj},(h.set i (frzO mb (la.map fun p=>(p.1,qcu p.2)) bs clock)++A)[k]?=some (.map (kAV qcu lb)):=fun {A}=>by
   rw [List.getElem?_append_left (by simpa using (List.getElem?_eq_some_iff.1 hk).1),List.getElem?_set_ne hne,hk]
  have hkn0:=pickL_new hn hj2 (js:=js) (by simpa using hlt) hno;have hkn:la[j].1∉keysM (pickJ la lb js):=by simpa [pickJ,keysM] using hkn0
  have hsn:∀ z,jn la[j].2 (qbm lb la[j].1)=z→pickJ la lb (js++[j])=qbz (pickJ la lb js) la[j].1 z:=fun z hz=>by
   rw [kSet_new hkn,pickJ,pickL_snoc hj2,List.map_append,pickJ,← hz];rfl
  have h1:hUnder (h.length+2) (h.set i (frzO mb (la.map fun p=>(p.1,qcu p.2)) bs clock))=true:=qcc (qas (by omega) hu) (by
   simp [AObj.under,qbh,qcu,AX.c,go_sem];rintro x _ _ _ rfl;simp [go_sem])
  have hend:∀ (z:AX) (t:List (Nat×AV)) (L:qab),jn la[j].2 (qbm lb la[j].1)=z→wkT (h.length+2) t [(1,.mapr k),(5,.mapr h.length),(12,.ptr (h.length+1) 0)]→Wk E
    ⟨t,h.set i (frzO mb (la.map fun p=>(p.1,qcu p.2)) bs clock)++.map (qbv (kvSet ((pickJ la lb js).map fun p=>(p.1,qcu p.2)) la[j].1 (qcu z)))::itO g mb clock (js.map (fun j=>bs[j]?.getD 0)++[bs[j]?.getD 0]) clock::L⟩
    ⟨[(1,.mapr k),(5,.mapr h.length),(12,.ptr (h.length+1) 0)],h.set i (frzO mb (la.map fun p=>(p.1,qcu p.2)) bs clock)++[.map (kAV qcu (pickJ la lb (js++[j]))),itO g mb clock (js.map (fun j=>bs[j]?.getD 0)++[bs[j]?.getD 0]) clock]⟩:=fun z t L hz ht=>by
   rw [hsn z hz,kvSet_map];refine Wk.mk (by simp [hh]) (by simp [go_sem,hwk_app]) ?_ (by simpa using ht);rw [qan];simp [h1,go_sem];exact kAV_under _ _
  simp only [List.getElem_map];rw [show qcu la[j].2=.agg [Bo la[j].2.known,I la[j].2.v.k,I la[j].2.v.n,S la[j].2.v.s] from rfl];simp [go_sem,hN,AExit.then];apply qay;have hkl:k<h.length+2:=by have:=(List.getElem?_eq_some_iff.1 hk).1;omega
  rcases hB:qbm lb la[j].1 with _ | y
  ·
   rw [hB] at hend;simp -dsimp [go_sem,hN,hkk,hB];exact hend unk _ _ rfl (by simp [go_sem,hkl])
  ·
   rw [hB] at hend;simp -dsimp [go_sem,hN,hkk,hB];obtain ⟨yk,yv,yn,ys⟩:=y;simp -dsimp [go_sem,hN,qcu,AX.c];refine cnd ?_ ?_<;>intro h3<;>simp at h3
   ·
    simp -dsimp [go_sem,hN];refine hend la[j].2 _ _ (by simp [jn,axEq,eqVal,h3]) (by simp [go_sem,hkl])
   ·
    simp -dsimp [go_sem,hN];refine hend unk _ _ (by
     simp only [jn];rw [if_neg fun e=>?_];rw [axEq_iff.1 e] at h3;simp at h3) (by simp [go_sem,hkl])
end Go.Proofs.YtilhejdbiionhaaGreatDoor
