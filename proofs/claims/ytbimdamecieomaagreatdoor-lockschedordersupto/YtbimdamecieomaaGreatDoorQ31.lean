/- Part 31 of a proof: Ty, W1 -/
import Derived.Test.YtbimdamecieomaaGreatDoorProg
import Derived.KernelRfl
import Derived.Test.YtbimdamecieomaaGreatDoorQ09
import Derived.Test.YtbimdamecieomaaGreatDoorQ13
import Derived.Test.YtbimdamecieomaaGreatDoorQ21
set_option linter.all false

namespace Go.Proofs.YtbimdamecieomaaGreatDoor
open Go Go.Abs
@[simp] theorem tk1:qae Tryz.prog 1=.func:=by kernel_rfl
@[simp] theorem ts1:qao Tryz.prog 1=1:=by kernel_rfl
@[simp] theorem tz1:qay Tryz.prog 1=[.val .nilFunc]:=by kernel_rfl
@[simp] theorem tb1:qal Tryz.prog 1=8:=by kernel_rfl
@[simp] theorem tk2:qae Tryz.prog 2=.int .i64:=by kernel_rfl
@[simp] theorem ts2:qao Tryz.prog 2=1:=by kernel_rfl
@[simp] theorem tz2:qay Tryz.prog 2=[.val (.int .i64 0)]:=by kernel_rfl
@[simp] theorem tb2:qal Tryz.prog 2=8:=by kernel_rfl
@[simp] theorem tk3:qae Tryz.prog 3=.int .i64:=by kernel_rfl
@[simp] theorem ts3:qao Tryz.prog 3=1:=by kernel_rfl
@[simp] theorem tz3:qay Tryz.prog 3=[.val (.int .i64 0)]:=by kernel_rfl
@[simp] theorem tb3:qal Tryz.prog 3=8:=by kernel_rfl
@[simp] theorem tk4:qae Tryz.prog 4=.bool:=by kernel_rfl
@[simp] theorem ts4:qao Tryz.prog 4=1:=by kernel_rfl
@[simp] theorem tz4:qay Tryz.prog 4=[.val (.bool false)]:=by kernel_rfl
@[simp] theorem tb4:qal Tryz.prog 4=1:=by kernel_rfl
@[simp] theorem tk5:qae Tryz.prog 5=.int .u8:=by kernel_rfl
@[simp] theorem ts5:qao Tryz.prog 5=1:=by kernel_rfl
@[simp] theorem tz5:qay Tryz.prog 5=[.val (.int .u8 0)]:=by kernel_rfl
@[simp] theorem tb5:qal Tryz.prog 5=1:=by kernel_rfl
@[simp] theorem tk9:qae Tryz.prog 9=.string:=by kernel_rfl
@[simp] theorem ts9:qao Tryz.prog 9=1:=by kernel_rfl
@[simp] theorem tz9:qay Tryz.prog 9=[.val (.string ⟨#[]⟩)]:=by kernel_rfl
@[simp] theorem tb9:qal Tryz.prog 9=16:=by kernel_rfl
@[simp] theorem tk20:qae Tryz.prog 20=.iface:=by kernel_rfl
@[simp] theorem ts20:qao Tryz.prog 20=1:=by kernel_rfl
@[simp] theorem tz20:qay Tryz.prog 20=[.val .nilIface]:=by kernel_rfl
@[simp] theorem tb20:qal Tryz.prog 20=16:=by kernel_rfl
@[simp] theorem tk21:qae Tryz.prog 21=.int .i32:=by kernel_rfl
@[simp] theorem ts21:qao Tryz.prog 21=1:=by kernel_rfl
@[simp] theorem tz21:qay Tryz.prog 21=[.val (.int .i32 0)]:=by kernel_rfl
@[simp] theorem tb21:qal Tryz.prog 21=4:=by kernel_rfl
@[simp] theorem tk22:qae Tryz.prog 22=.slice 78 3:=by kernel_rfl
@[simp] theorem ts22:qao Tryz.prog 22=1:=by kernel_rfl
@[simp] theorem tz22:qay Tryz.prog 22=[.nils]:=by kernel_rfl
@[simp] theorem tb22:qal Tryz.prog 22=24:=by kernel_rfl
@[simp] theorem tk23:qae Tryz.prog 23=.slice 73 4:=by kernel_rfl
@[simp] theorem ts23:qao Tryz.prog 23=1:=by kernel_rfl
@[simp] theorem tz23:qay Tryz.prog 23=[.nils]:=by kernel_rfl
@[simp] theorem tb23:qal Tryz.prog 23=24:=by kernel_rfl
@[simp] theorem tk24:qae Tryz.prog 24=.slice 50 7:=by kernel_rfl
@[simp] theorem ts24:qao Tryz.prog 24=1:=by kernel_rfl
@[simp] theorem tz24:qay Tryz.prog 24=[.nils]:=by kernel_rfl
@[simp] theorem tb24:qal Tryz.prog 24=24:=by kernel_rfl
@[simp] theorem tk25:qae Tryz.prog 25=.struct [(0,1),(1,1),(2,1)]:=by kernel_rfl
@[simp] theorem ts25:qao Tryz.prog 25=3:=by kernel_rfl
@[simp] theorem tz25:qay Tryz.prog 25=[.nils,.nils,.nils]:=by kernel_rfl
@[simp] theorem tb25:qal Tryz.prog 25=72:=by kernel_rfl
@[simp] theorem tk26:qae Tryz.prog 26=.struct [(0,1),(1,1),(2,1)]:=by kernel_rfl
@[simp] theorem ts26:qao Tryz.prog 26=3:=by kernel_rfl
@[simp] theorem tz26:qay Tryz.prog 26=[.nils,.nils,.nils]:=by kernel_rfl
@[simp] theorem tb26:qal Tryz.prog 26=72:=by kernel_rfl
@[simp] theorem tk27:qae Tryz.prog 27=.slice 3 1:=by kernel_rfl
@[simp] theorem ts27:qao Tryz.prog 27=1:=by kernel_rfl
@[simp] theorem tz27:qay Tryz.prog 27=[.nils]:=by kernel_rfl
@[simp] theorem tb27:qal Tryz.prog 27=24:=by kernel_rfl
@[simp] theorem tk28:qae Tryz.prog 28=.slice 63 8:=by kernel_rfl
@[simp] theorem ts28:qao Tryz.prog 28=1:=by kernel_rfl
@[simp] theorem tz28:qay Tryz.prog 28=[.nils]:=by kernel_rfl
@[simp] theorem tb28:qal Tryz.prog 28=24:=by kernel_rfl
@[simp] theorem tk38:qae Tryz.prog 38=.slice 43 3:=by kernel_rfl
@[simp] theorem ts38:qao Tryz.prog 38=1:=by kernel_rfl
@[simp] theorem tz38:qay Tryz.prog 38=[.nils]:=by kernel_rfl
@[simp] theorem tb38:qal Tryz.prog 38=24:=by kernel_rfl
@[simp] theorem tk41:qae Tryz.prog 41=.slice 9 1:=by kernel_rfl
@[simp] theorem ts41:qao Tryz.prog 41=1:=by kernel_rfl
@[simp] theorem tz41:qay Tryz.prog 41=[.nils]:=by kernel_rfl
@[simp] theorem tb41:qal Tryz.prog 41=24:=by kernel_rfl
@[simp] theorem tk43:qae Tryz.prog 43=.struct [(0,1),(1,1),(2,1)]:=by kernel_rfl
@[simp] theorem ts43:qao Tryz.prog 43=3:=by kernel_rfl
@[simp] theorem tz43:qay Tryz.prog 43=[.val (.bool false),.nils,.nils]:=by kernel_rfl
@[simp] theorem tb43:qal Tryz.prog 43=56:=by kernel_rfl
@[simp] theorem tk45:qae Tryz.prog 45=.int .i64:=by kernel_rfl
@[simp] theorem ts45:qao Tryz.prog 45=1:=by kernel_rfl
@[simp] theorem tz45:qay Tryz.prog 45=[.val (.int .i64 0)]:=by kernel_rfl
@[simp] theorem tb45:qal Tryz.prog 45=8:=by kernel_rfl
@[simp] theorem tk48:qae Tryz.prog 48=.slice 71 3:=by kernel_rfl
@[simp] theorem ts48:qao Tryz.prog 48=1:=by kernel_rfl
@[simp] theorem tz48:qay Tryz.prog 48=[.nils]:=by kernel_rfl
@[simp] theorem tb48:qal Tryz.prog 48=24:=by kernel_rfl
@[simp] theorem tk50:qae Tryz.prog 50=.struct [(0,1),(1,1),(2,1),(3,3),(6,1)]:=by kernel_rfl
@[simp] theorem ts50:qao Tryz.prog 50=7:=by kernel_rfl
@[simp] theorem tz50:qay Tryz.prog 50=[.val (.int .i64 0),.val (.string ⟨#[]⟩),.nils,.val (.bool false),.nils,.nils,.val (.int .i64 0)]:=by kernel_rfl
@[simp] theorem tb50:qal Tryz.prog 50=112:=by kernel_rfl
@[simp] theorem tk53:qae Tryz.prog 53=.slice 95 2:=by kernel_rfl
@[simp] theorem ts53:qao Tryz.prog 53=1:=by kernel_rfl
@[simp] theorem tz53:qay Tryz.prog 53=[.nils]:=by kernel_rfl
@[simp] theorem tb53:qal Tryz.prog 53=24:=by kernel_rfl
@[simp] theorem tk54:qae Tryz.prog 54=.slice 107 2:=by kernel_rfl
@[simp] theorem ts54:qao Tryz.prog 54=1:=by kernel_rfl
@[simp] theorem tz54:qay Tryz.prog 54=[.nils]:=by kernel_rfl
@[simp] theorem tb54:qal Tryz.prog 54=24:=by kernel_rfl
@[simp] theorem tk56:qae Tryz.prog 56=.struct [(0,1),(1,1)]:=by kernel_rfl
@[simp] theorem ts56:qao Tryz.prog 56=2:=by kernel_rfl
@[simp] theorem tz56:qay Tryz.prog 56=[.nils,.nils]:=by kernel_rfl
@[simp] theorem tb56:qal Tryz.prog 56=48:=by kernel_rfl
@[simp] theorem tk61:qae Tryz.prog 61=.struct [(0,1),(1,1),(2,1)]:=by kernel_rfl
@[simp] theorem ts61:qao Tryz.prog 61=3:=by kernel_rfl
@[simp] theorem tz61:qay Tryz.prog 61=[.val (.int .i64 0),.val (.int .i64 0),.nils]:=by kernel_rfl
@[simp] theorem tb61:qal Tryz.prog 61=40:=by kernel_rfl
@[simp] theorem tk63:qae Tryz.prog 63=.struct [(0,3),(3,1),(4,1),(5,1),(6,1),(7,1)]:=by kernel_rfl
@[simp] theorem ts63:qao Tryz.prog 63=8:=by kernel_rfl
@[simp] theorem tz63:qay Tryz.prog 63=[.val (.int .i64 0),.val (.int .i64 0),.nils,.nils,.nils,.nils,.val (.string ⟨#[]⟩),.val (.int .i64 0)]:=by kernel_rfl
@[simp] theorem tb63:qal Tryz.prog 63=136:=by kernel_rfl
@[simp] theorem tk71:qae Tryz.prog 71=.struct [(0,1),(1,1),(2,1)]:=by kernel_rfl
@[simp] theorem ts71:qao Tryz.prog 71=3:=by kernel_rfl
@[simp] theorem tz71:qay Tryz.prog 71=[.val (.int .i64 0),.val (.int .i64 0),.val (.string ⟨#[]⟩)]:=by kernel_rfl
@[simp] theorem fl71:flatOf Tryz.prog 71=[.int .i64,.int .i64,.string]:=by kernel_rfl
@[simp] theorem tb71:qal Tryz.prog 71=32:=by kernel_rfl
@[simp] theorem tk73:qae Tryz.prog 73=.struct [(0,1),(1,3)]:=by kernel_rfl
@[simp] theorem ts73:qao Tryz.prog 73=4:=by kernel_rfl
@[simp] theorem tz73:qay Tryz.prog 73=[.val (.string ⟨#[]⟩),.val (.int .i64 0),.val (.int .i64 0),.val (.string ⟨#[]⟩)]:=by kernel_rfl
@[simp] theorem fl73:flatOf Tryz.prog 73=[.string,.int .i64,.int .i64,.string]:=by kernel_rfl
@[simp] theorem tb73:qal Tryz.prog 73=48:=by kernel_rfl
@[simp] theorem tk75:qae Tryz.prog 75=.slice 116 2:=by kernel_rfl
@[simp] theorem ts75:qao Tryz.prog 75=1:=by kernel_rfl
@[simp] theorem tz75:qay Tryz.prog 75=[.nils]:=by kernel_rfl
@[simp] theorem tb75:qal Tryz.prog 75=24:=by kernel_rfl
@[simp] theorem tk76:qae Tryz.prog 76=.slice 121 13:=by kernel_rfl
@[simp] theorem ts76:qao Tryz.prog 76=1:=by kernel_rfl
@[simp] theorem tz76:qay Tryz.prog 76=[.nils]:=by kernel_rfl
@[simp] theorem tb76:qal Tryz.prog 76=24:=by kernel_rfl
@[simp] theorem tk78:qae Tryz.prog 78=.struct [(0,1),(1,1),(2,1)]:=by kernel_rfl
@[simp] theorem ts78:qao Tryz.prog 78=3:=by kernel_rfl
@[simp] theorem tz78:qay Tryz.prog 78=[.val (.string ⟨#[]⟩),.nils,.nils]:=by kernel_rfl
@[simp] theorem tb78:qal Tryz.prog 78=64:=by kernel_rfl
@[simp] theorem tk81:qae Tryz.prog 81=.func:=by kernel_rfl
@[simp] theorem ts81:qao Tryz.prog 81=1:=by kernel_rfl
@[simp] theorem tz81:qay Tryz.prog 81=[.val .nilFunc]:=by kernel_rfl
@[simp] theorem tb81:qal Tryz.prog 81=8:=by kernel_rfl
@[simp] theorem tk83:qae Tryz.prog 83=.struct [(0,1)]:=by kernel_rfl
@[simp] theorem ts83:qao Tryz.prog 83=1:=by kernel_rfl
@[simp] theorem tz83:qay Tryz.prog 83=[.val .nilFunc]:=by kernel_rfl
@[simp] theorem tb83:qal Tryz.prog 83=8:=by kernel_rfl
@[simp] theorem tk95:qae Tryz.prog 95=.struct [(0,1),(1,1)]:=by kernel_rfl
@[simp] theorem ts95:qao Tryz.prog 95=2:=by kernel_rfl
@[simp] theorem tz95:qay Tryz.prog 95=[.val (.int .i64 0),.val (.bool false)]:=by kernel_rfl
@[simp] theorem fl95:flatOf Tryz.prog 95=[.int .i64,.bool]:=by kernel_rfl
@[simp] theorem tb95:qal Tryz.prog 95=16:=by kernel_rfl
@[simp] theorem tk98:qae Tryz.prog 98=.ptr:=by kernel_rfl
@[simp] theorem ts98:qao Tryz.prog 98=1:=by kernel_rfl
@[simp] theorem tz98:qay Tryz.prog 98=[.val (.pointer none)]:=by kernel_rfl
@[simp] theorem tb98:qal Tryz.prog 98=8:=by kernel_rfl
@[simp] theorem tk107:qae Tryz.prog 107=.struct [(0,1),(1,1)]:=by kernel_rfl
@[simp] theorem ts107:qao Tryz.prog 107=2:=by kernel_rfl
@[simp] theorem tz107:qay Tryz.prog 107=[.val (.string ⟨#[]⟩),.nils]:=by kernel_rfl
@[simp] theorem tb107:qal Tryz.prog 107=40:=by kernel_rfl
@[simp] theorem tk116:qae Tryz.prog 116=.struct [(0,1),(1,1)]:=by kernel_rfl
@[simp] theorem ts116:qao Tryz.prog 116=2:=by kernel_rfl
@[simp] theorem tz116:qay Tryz.prog 116=[.val (.string ⟨#[]⟩),.val (.int .i64 0)]:=by kernel_rfl
@[simp] theorem fl116:flatOf Tryz.prog 116=[.string,.int .i64]:=by kernel_rfl
@[simp] theorem tb116:qal Tryz.prog 116=24:=by kernel_rfl
@[simp] theorem tk117:qae Tryz.prog 117=.slice 119 4:=by kernel_rfl
@[simp] theorem ts117:qao Tryz.prog 117=1:=by kernel_rfl
@[simp] theorem tz117:qay Tryz.prog 117=[.nils]:=by kernel_rfl
@[simp] theorem tb117:qal Tryz.prog 117=24:=by kernel_rfl
@[simp] theorem tk119:qae Tryz.prog 119=.struct [(0,1),(1,1),(2,1),(3,1)]:=by kernel_rfl
@[simp] theorem ts119:qao Tryz.prog 119=4:=by kernel_rfl
@[simp] theorem tz119:qay Tryz.prog 119=[.val (.int .i64 0),.val (.int .i64 0),.val (.string ⟨#[]⟩),.nils]:=by kernel_rfl
@[simp] theorem tb119:qal Tryz.prog 119=56:=by kernel_rfl
@[simp] theorem tk121:qae Tryz.prog 121=.struct [(0,1),(1,1),(2,1),(3,4),(7,4),(11,1),(12,1)]:=by kernel_rfl
@[simp] theorem ts121:qao Tryz.prog 121=13:=by kernel_rfl
@[simp] theorem tz121:qay Tryz.prog 121=[.val (.int .i64 0),.val (.string ⟨#[]⟩),.val (.int .i64 0),.val (.int .i64 0),.val (.int .i64 0),.val (.string ⟨#[]⟩),.nils,.val (.int .i64 0),.val (.int .i64 0),.val (.string ⟨#[]⟩),.nils,.nils,.nils]:=by kernel_rfl
@[simp] theorem tb121:qal Tryz.prog 121=192:=by kernel_rfl
@[simp] theorem tk128:qae Tryz.prog 128=.func:=by kernel_rfl
@[simp] theorem ts128:qao Tryz.prog 128=1:=by kernel_rfl
@[simp] theorem tz128:qay Tryz.prog 128=[.val .nilFunc]:=by kernel_rfl
@[simp] theorem tb128:qal Tryz.prog 128=8:=by kernel_rfl
@[simp] theorem tk131:qae Tryz.prog 131=.func:=by kernel_rfl
@[simp] theorem ts131:qao Tryz.prog 131=1:=by kernel_rfl
@[simp] theorem tz131:qay Tryz.prog 131=[.val .nilFunc]:=by kernel_rfl
@[simp] theorem tb131:qal Tryz.prog 131=8:=by kernel_rfl
@[simp] theorem tk135:qae Tryz.prog 135=.func:=by kernel_rfl
@[simp] theorem ts135:qao Tryz.prog 135=1:=by kernel_rfl
@[simp] theorem tz135:qay Tryz.prog 135=[.val .nilFunc]:=by kernel_rfl
@[simp] theorem tb135:qal Tryz.prog 135=8:=by kernel_rfl
@[simp] theorem tk139:qae Tryz.prog 139=.ptr:=by kernel_rfl
@[simp] theorem ts139:qao Tryz.prog 139=1:=by kernel_rfl
@[simp] theorem tz139:qay Tryz.prog 139=[.val (.pointer none)]:=by kernel_rfl
@[simp] theorem tb139:qal Tryz.prog 139=8:=by kernel_rfl
@[simp] theorem tk141:qae Tryz.prog 141=.map 9 71:=by kernel_rfl
@[simp] theorem ts141:qao Tryz.prog 141=1:=by kernel_rfl
@[simp] theorem tz141:qay Tryz.prog 141=[.val (.map none)]:=by kernel_rfl
@[simp] theorem tb141:qal Tryz.prog 141=8:=by kernel_rfl
@[simp] theorem tk143:qae Tryz.prog 143=.struct [(0,1),(1,3),(4,1),(5,1),(6,8)]:=by kernel_rfl
@[simp] theorem ts143:qao Tryz.prog 143=14:=by kernel_rfl
@[simp] theorem tz143:qay Tryz.prog 143=[.nils,.val (.bool false),.nils,.nils,.val (.map none),.val (.map none),.val (.int .i64 0),.val (.int .i64 0),.nils,.nils,.nils,.nils,.val (.string ⟨#[]⟩),.val (.int .i64 0)]:=by kernel_rfl
@[simp] theorem tb143:qal Tryz.prog 143=232:=by kernel_rfl
@[simp] theorem tk146:qae Tryz.prog 146=.struct [(0,3),(3,1)]:=by kernel_rfl
@[simp] theorem ts146:qao Tryz.prog 146=4:=by kernel_rfl
@[simp] theorem tz146:qay Tryz.prog 146=[.val (.int .i64 0),.val (.int .i64 0),.nils,.val (.string ⟨#[]⟩)]:=by kernel_rfl
@[simp] theorem tb146:qal Tryz.prog 146=56:=by kernel_rfl
@[simp] theorem tk150:qae Tryz.prog 150=.func:=by kernel_rfl
@[simp] theorem ts150:qao Tryz.prog 150=1:=by kernel_rfl
@[simp] theorem tz150:qay Tryz.prog 150=[.val .nilFunc]:=by kernel_rfl
@[simp] theorem tb150:qal Tryz.prog 150=8:=by kernel_rfl
@[simp] theorem tk151:qae Tryz.prog 151=.func:=by kernel_rfl
@[simp] theorem ts151:qao Tryz.prog 151=1:=by kernel_rfl
@[simp] theorem tz151:qay Tryz.prog 151=[.val .nilFunc]:=by kernel_rfl
@[simp] theorem tb151:qal Tryz.prog 151=8:=by kernel_rfl
@[simp] theorem tk153:qae Tryz.prog 153=.func:=by kernel_rfl
@[simp] theorem ts153:qao Tryz.prog 153=1:=by kernel_rfl
@[simp] theorem tz153:qay Tryz.prog 153=[.val .nilFunc]:=by kernel_rfl
@[simp] theorem tb153:qal Tryz.prog 153=8:=by kernel_rfl
@[simp] theorem tk154:qae Tryz.prog 154=.func:=by kernel_rfl
@[simp] theorem ts154:qao Tryz.prog 154=1:=by kernel_rfl
@[simp] theorem tz154:qay Tryz.prog 154=[.val .nilFunc]:=by kernel_rfl
@[simp] theorem tb154:qal Tryz.prog 154=8:=by kernel_rfl
@[simp] theorem tk162:qae Tryz.prog 162=.struct [(0,1),(1,3),(4,1),(5,1),(6,8)]:=by kernel_rfl
@[simp] theorem ts162:qao Tryz.prog 162=14:=by kernel_rfl
@[simp] theorem tz162:qay Tryz.prog 162=[.nils,.val (.bool false),.nils,.nils,.nils,.nils,.val (.int .i64 0),.val (.int .i64 0),.nils,.nils,.nils,.nils,.val (.string ⟨#[]⟩),.val (.int .i64 0)]:=by kernel_rfl
@[simp] theorem tb162:qal Tryz.prog 162=264:=by kernel_rfl
@[simp] theorem tk167:qae Tryz.prog 167=.int .u64:=by kernel_rfl
@[simp] theorem ts167:qao Tryz.prog 167=1:=by kernel_rfl
@[simp] theorem tz167:qay Tryz.prog 167=[.val (.int .u64 0)]:=by kernel_rfl
@[simp] theorem tb167:qal Tryz.prog 167=8:=by kernel_rfl
@[simp] theorem tk170:qae Tryz.prog 170=.func:=by kernel_rfl
@[simp] theorem ts170:qao Tryz.prog 170=1:=by kernel_rfl
@[simp] theorem tz170:qay Tryz.prog 170=[.val .nilFunc]:=by kernel_rfl
@[simp] theorem tb170:qal Tryz.prog 170=8:=by kernel_rfl
@[simp] theorem tk174:qae Tryz.prog 174=.array 4 3 1:=by kernel_rfl
@[simp] theorem ts174:qao Tryz.prog 174=4:=by kernel_rfl
@[simp] theorem tz174:qay Tryz.prog 174=[.val (.int .i64 0),.val (.int .i64 0),.val (.int .i64 0),.val (.int .i64 0)]:=by kernel_rfl
@[simp] theorem tb174:qal Tryz.prog 174=32:=by kernel_rfl
@[simp] theorem tk187:qae Tryz.prog 187=.struct [(0,1),(1,1)]:=by kernel_rfl
@[simp] theorem ts187:qao Tryz.prog 187=2:=by kernel_rfl
@[simp] theorem tz187:qay Tryz.prog 187=[.nils,.nils]:=by kernel_rfl
@[simp] theorem tb187:qal Tryz.prog 187=48:=by kernel_rfl
@[simp] theorem tk192:qae Tryz.prog 192=.struct [(0,1),(1,1),(2,1),(3,1)]:=by kernel_rfl
@[simp] theorem ts192:qao Tryz.prog 192=4:=by kernel_rfl
@[simp] theorem tz192:qay Tryz.prog 192=[.val (.int .i64 0),.val (.int .i64 0),.val (.int .i64 0),.val (.int .i64 0)]:=by kernel_rfl
@[simp] theorem fl192:flatOf Tryz.prog 192=[.int .i64,.int .i64,.int .i64,.int .i64]:=by kernel_rfl
@[simp] theorem tb192:qal Tryz.prog 192=32:=by kernel_rfl
@[simp] theorem tk197:qae Tryz.prog 197=.map 9 3:=by kernel_rfl
@[simp] theorem ts197:qao Tryz.prog 197=1:=by kernel_rfl
@[simp] theorem tz197:qay Tryz.prog 197=[.val (.map none)]:=by kernel_rfl
@[simp] theorem tb197:qal Tryz.prog 197=8:=by kernel_rfl
@[simp] theorem tk210:qae Tryz.prog 210=.int .i64:=by kernel_rfl
@[simp] theorem ts210:qao Tryz.prog 210=1:=by kernel_rfl
@[simp] theorem tz210:qay Tryz.prog 210=[.val (.int .i64 0)]:=by kernel_rfl
@[simp] theorem tb210:qal Tryz.prog 210=8:=by kernel_rfl
@[simp] theorem tk218:qae Tryz.prog 218=.int .u32:=by kernel_rfl
@[simp] theorem ts218:qao Tryz.prog 218=1:=by kernel_rfl
@[simp] theorem tz218:qay Tryz.prog 218=[.val (.int .u32 0)]:=by kernel_rfl
@[simp] theorem tb218:qal Tryz.prog 218=4:=by kernel_rfl
@[simp] theorem tk220:qae Tryz.prog 220=.int .u64:=by kernel_rfl
@[simp] theorem ts220:qao Tryz.prog 220=1:=by kernel_rfl
@[simp] theorem tz220:qay Tryz.prog 220=[.val (.int .u64 0)]:=by kernel_rfl
@[simp] theorem tb220:qal Tryz.prog 220=8:=by kernel_rfl
@[simp] theorem tk222:qae Tryz.prog 222=.slice 225 20:=by kernel_rfl
@[simp] theorem ts222:qao Tryz.prog 222=1:=by kernel_rfl
@[simp] theorem tz222:qay Tryz.prog 222=[.nils]:=by kernel_rfl
@[simp] theorem tb222:qal Tryz.prog 222=24:=by kernel_rfl
@[simp] theorem tk225:qae Tryz.prog 225=.struct [(0,1),(1,13),(14,1),(15,4),(19,1)]:=by kernel_rfl
@[simp] theorem ts225:qao Tryz.prog 225=20:=by kernel_rfl
@[simp] theorem tz225:qay Tryz.prog 225=[.val (.bool false),.val (.int .i64 0),.val (.string ⟨#[]⟩),.val (.int .i64 0),.val (.int .i64 0),.val (.int .i64 0),.val (.string ⟨#[]⟩),.nils,.val (.int .i64 0),.val (.int .i64 0),.val (.string ⟨#[]⟩),.nils,.nils,.nils,.val (.int .i64 0),.val (.int .i64 0),.val (.int .i64 0),.val (.string ⟨#[]⟩),.nils,.val (.bool false)]:=by kernel_rfl
@[simp] theorem tb225:qal Tryz.prog 225=272:=by kernel_rfl
@[simp] theorem tk239:qae Tryz.prog 239=.ptr:=by kernel_rfl
@[simp] theorem ts239:qao Tryz.prog 239=1:=by kernel_rfl
@[simp] theorem tz239:qay Tryz.prog 239=[.val (.pointer none)]:=by kernel_rfl
@[simp] theorem tb239:qal Tryz.prog 239=8:=by kernel_rfl
@[simp] theorem tk240:qae Tryz.prog 240=.map 9 4:=by kernel_rfl
@[simp] theorem ts240:qao Tryz.prog 240=1:=by kernel_rfl
@[simp] theorem tz240:qay Tryz.prog 240=[.val (.map none)]:=by kernel_rfl
@[simp] theorem tb240:qal Tryz.prog 240=8:=by kernel_rfl
@[simp] theorem tk242:qae Tryz.prog 242=.struct [(0,1),(1,1),(2,1)]:=by kernel_rfl
@[simp] theorem ts242:qao Tryz.prog 242=3:=by kernel_rfl
@[simp] theorem tz242:qay Tryz.prog 242=[.val (.map none),.val (.map none),.val (.map none)]:=by kernel_rfl
@[simp] theorem tb242:qal Tryz.prog 242=24:=by kernel_rfl
@[simp] theorem tk256:qae Tryz.prog 256=.int .u64:=by kernel_rfl
@[simp] theorem ts256:qao Tryz.prog 256=1:=by kernel_rfl
@[simp] theorem tz256:qay Tryz.prog 256=[.val (.int .u64 0)]:=by kernel_rfl
@[simp] theorem tb256:qal Tryz.prog 256=8:=by kernel_rfl
@[simp] theorem tk260:qae Tryz.prog 260=.ptr:=by kernel_rfl
@[simp] theorem ts260:qao Tryz.prog 260=1:=by kernel_rfl
@[simp] theorem tz260:qay Tryz.prog 260=[.val (.pointer none)]:=by kernel_rfl
@[simp] theorem tb260:qal Tryz.prog 260=8:=by kernel_rfl
@[simp] theorem tk266:qae Tryz.prog 266=.func:=by kernel_rfl
@[simp] theorem ts266:qao Tryz.prog 266=1:=by kernel_rfl
@[simp] theorem tz266:qay Tryz.prog 266=[.val .nilFunc]:=by kernel_rfl
@[simp] theorem tb266:qal Tryz.prog 266=8:=by kernel_rfl
@[simp] theorem tk282:qae Tryz.prog 282=.func:=by kernel_rfl
@[simp] theorem ts282:qao Tryz.prog 282=1:=by kernel_rfl
@[simp] theorem tz282:qay Tryz.prog 282=[.val .nilFunc]:=by kernel_rfl
@[simp] theorem tb282:qal Tryz.prog 282=8:=by kernel_rfl
@[simp] theorem tk283:qae Tryz.prog 283=.func:=by kernel_rfl
@[simp] theorem ts283:qao Tryz.prog 283=1:=by kernel_rfl
@[simp] theorem tz283:qay Tryz.prog 283=[.val .nilFunc]:=by kernel_rfl
@[simp] theorem tb283:qal Tryz.prog 283=8:=by kernel_rfl
@[simp] theorem tk306:qae Tryz.prog 306=.func:=by kernel_rfl
@[simp] theorem ts306:qao Tryz.prog 306=1:=by kernel_rfl
@[simp] theorem tz306:qay Tryz.prog 306=[.val .nilFunc]:=by kernel_rfl
@[simp] theorem tb306:qal Tryz.prog 306=8:=by kernel_rfl
@[simp] theorem tk307:qae Tryz.prog 307=.ptr:=by kernel_rfl
@[simp] theorem ts307:qao Tryz.prog 307=1:=by kernel_rfl
@[simp] theorem tz307:qay Tryz.prog 307=[.val (.pointer none)]:=by kernel_rfl
@[simp] theorem tb307:qal Tryz.prog 307=8:=by kernel_rfl
@[simp] theorem tk309:qae Tryz.prog 309=.struct [(0,1),(1,1),(2,1)]:=by kernel_rfl
@[simp] theorem ts309:qao Tryz.prog 309=3:=by kernel_rfl
@[simp] theorem tz309:qay Tryz.prog 309=[.val (.int .i64 0),.val .nilFunc,.val .nilFunc]:=by kernel_rfl
@[simp] theorem tb309:qal Tryz.prog 309=24:=by kernel_rfl
@[simp] theorem tk312:qae Tryz.prog 312=.struct [(0,1),(1,1),(2,1),(3,1),(4,1),(5,1)]:=by kernel_rfl
@[simp] theorem ts312:qao Tryz.prog 312=6:=by kernel_rfl
@[simp] theorem tz312:qay Tryz.prog 312=[.val (.bool false),.val (.bool false),.val (.bool false),.val (.bool false),.val (.bool false),.val (.bool false)]:=by kernel_rfl
@[simp] theorem fl312:flatOf Tryz.prog 312=[.bool,.bool,.bool,.bool,.bool,.bool]:=by kernel_rfl
@[simp] theorem tb312:qal Tryz.prog 312=6:=by kernel_rfl
@[simp] theorem tk328:qae Tryz.prog 328=.struct [(0,3),(3,3)]:=by kernel_rfl
@[simp] theorem ts328:qao Tryz.prog 328=6:=by kernel_rfl
@[simp] theorem tz328:qay Tryz.prog 328=[.val (.int .i64 0),.val (.int .i64 0),.val (.string ⟨#[]⟩),.val (.int .i64 0),.val (.int .i64 0),.val (.string ⟨#[]⟩)]:=by kernel_rfl
@[simp] theorem fl328:flatOf Tryz.prog 328=[.int .i64,.int .i64,.string,.int .i64,.int .i64,.string]:=by kernel_rfl
@[simp] theorem tb328:qal Tryz.prog 328=64:=by kernel_rfl
@[simp] theorem tk331:qae Tryz.prog 331=.slice 5 1:=by kernel_rfl
@[simp] theorem ts331:qao Tryz.prog 331=1:=by kernel_rfl
@[simp] theorem tz331:qay Tryz.prog 331=[.nils]:=by kernel_rfl
@[simp] theorem tb331:qal Tryz.prog 331=24:=by kernel_rfl
@[simp] theorem tk333:qae Tryz.prog 333=.array 24 5 1:=by kernel_rfl
@[simp] theorem ts333:qao Tryz.prog 333=24:=by kernel_rfl
@[simp] theorem tz333:qay Tryz.prog 333=[.val (.int .u8 0),.val (.int .u8 0),.val (.int .u8 0),.val (.int .u8 0),.val (.int .u8 0),.val (.int .u8 0),.val (.int .u8 0),.val (.int .u8 0),.val (.int .u8 0),.val (.int .u8 0),.val (.int .u8 0),.val (.int .u8 0),.val (.int .u8 0),.val (.int .u8 0),.val (.int .u8 0),.val (.int .u8 0),.val (.int .u8 0),.val (.int .u8 0),.val (.int .u8 0),.val (.int .u8 0),.val (.int .u8 0),.val (.int .u8 0),.val (.int .u8 0),.val (.int .u8 0)]:=by kernel_rfl
@[simp] theorem tb333:qal Tryz.prog 333=24:=by kernel_rfl
@[simp] theorem tk340:qae Tryz.prog 340=.array 20 220 1:=by kernel_rfl
@[simp] theorem ts340:qao Tryz.prog 340=20:=by kernel_rfl
@[simp] theorem tz340:qay Tryz.prog 340=[.val (.int .u64 0),.val (.int .u64 0),.val (.int .u64 0),.val (.int .u64 0),.val (.int .u64 0),.val (.int .u64 0),.val (.int .u64 0),.val (.int .u64 0),.val (.int .u64 0),.val (.int .u64 0),.val (.int .u64 0),.val (.int .u64 0),.val (.int .u64 0),.val (.int .u64 0),.val (.int .u64 0),.val (.int .u64 0),.val (.int .u64 0),.val (.int .u64 0),.val (.int .u64 0),.val (.int .u64 0)]:=by kernel_rfl
@[simp] theorem tb340:qal Tryz.prog 340=160:=by kernel_rfl
@[simp] theorem tk343:qae Tryz.prog 343=.array 32 5 1:=by kernel_rfl
@[simp] theorem ts343:qao Tryz.prog 343=32:=by kernel_rfl
@[simp] theorem tz343:qay Tryz.prog 343=[.val (.int .u8 0),.val (.int .u8 0),.val (.int .u8 0),.val (.int .u8 0),.val (.int .u8 0),.val (.int .u8 0),.val (.int .u8 0),.val (.int .u8 0),.val (.int .u8 0),.val (.int .u8 0),.val (.int .u8 0),.val (.int .u8 0),.val (.int .u8 0),.val (.int .u8 0),.val (.int .u8 0),.val (.int .u8 0),.val (.int .u8 0),.val (.int .u8 0),.val (.int .u8 0),.val (.int .u8 0),.val (.int .u8 0),.val (.int .u8 0),.val (.int .u8 0),.val (.int .u8 0),.val (.int .u8 0),.val (.int .u8 0),.val (.int .u8 0),.val (.int .u8 0),.val (.int .u8 0),.val (.int .u8 0),.val (.int .u8 0),.val (.int .u8 0)]:=by kernel_rfl
@[simp] theorem tb343:qal Tryz.prog 343=32:=by kernel_rfl
@[simp] theorem tk344:qae Tryz.prog 344=.array 64 5 1:=by kernel_rfl
@[simp] theorem ts344:qao Tryz.prog 344=64:=by kernel_rfl
@[simp] theorem tz344:qay Tryz.prog 344=[.val (.int .u8 0),.val (.int .u8 0),.val (.int .u8 0),.val (.int .u8 0),.val (.int .u8 0),.val (.int .u8 0),.val (.int .u8 0),.val (.int .u8 0),.val (.int .u8 0),.val (.int .u8 0),.val (.int .u8 0),.val (.int .u8 0),.val (.int .u8 0),.val (.int .u8 0),.val (.int .u8 0),.val (.int .u8 0),.val (.int .u8 0),.val (.int .u8 0),.val (.int .u8 0),.val (.int .u8 0),.val (.int .u8 0),.val (.int .u8 0),.val (.int .u8 0),.val (.int .u8 0),.val (.int .u8 0),.val (.int .u8 0),.val (.int .u8 0),.val (.int .u8 0),.val (.int .u8 0),.val (.int .u8 0),.val (.int .u8 0),.val (.int .u8 0),.val (.int .u8 0),.val (.int .u8 0),.val (.int .u8 0),.val (.int .u8 0),.val (.int .u8 0),.val (.int .u8 0),.val (.int .u8 0),.val (.int .u8 0),.val (.int .u8 0),.val (.int .u8 0),.val (.int .u8 0),.val (.int .u8 0),.val (.int .u8 0),.val (.int .u8 0),.val (.int .u8 0),.val (.int .u8 0),.val (.int .u8 0),.val (.int .u8 0),.val (.int .u8 0),.val (.int .u8 0),.val (.int .u8 0),.val (.int .u8 0),.val (.int .u8 0),.val (.int .u8 0),.val (.int .u8 0),.val (.int .u8 0),.val (.int .u8 0),.val (.int .u8 0),.val (.int .u8 0),.val (.int .u8 0),.val (.int .u8 0),.val (.int .u8 0)]:=by kernel_rfl
@[simp] theorem tb344:qal Tryz.prog 344=64:=by kernel_rfl
end Go.Proofs.YtbimdamecieomaaGreatDoor

namespace Go.Proofs.YtbimdamecieomaaGreatDoor
open Go Go.Abs Go.Cw
theorem mixed:Tryz.prog.follows .mixedOrders=true:=by kernel_rfl
theorem c_value_plain (s:qac):APure Tryz.prog 173 [S s] (Bo (qbm s)):=by
 refine qaz Tryz.func173 Tryz.ntmps173 rfl (by kernel_rfl) rfl rfl fun E h hN hh hu hb=>?_;simp [go_sem] at hb;simp -dsimp [go_sem,hN];refine qaj s.size (fun n=>allL okB ((bl s).drop n)=allL okB (bl s)) (fun n=>⟨[(0,S s),(3,I n)],h⟩) (by simp) wkA ?_;intro n hn hI;have hw:=qa6 hn hb;simp -dsimp [go_sem,hN];refine cnd ?_ ?_<;>intro hc<;>try simp at hc
 ·
  rw [bdrop hc,allL] at hI;simp -dsimp [go_sem,hN,hc];refine cnd (fun hg=>?_) (fun hg=>?_)
  ·
   simp -dsimp [go_sem,hN];simp [qbm,← hI,okB,hg]
  ·
   simp -dsimp [go_sem,hN,hw];exact ⟨hc,by simpa [okB,hg] using hI,wkA⟩
 ·
  rw [bend (by omega),allL] at hI;simp -dsimp [go_sem,hN,qbm,← hI]
theorem c_value_Valid (k n:Int) (s:qac):APure Tryz.prog 140 [.agg [I k,I n,S s]] (Bo (valOk k n s)):=by
 refine qaz Tryz.func140 Tryz.ntmps140 rfl (by kernel_rfl) rfl rfl fun E h hN hh hu hb=>?_;simp -dsimp [go_sem,hN];refine cnd ?_ ?_<;>intro h0<;>try simp at h0
 all_goals simp -dsimp [go_sem,hN,valOk,h0]
 refine cnd ?_ ?_<;>intro h1<;>try simp at h1
 all_goals simp -dsimp [go_sem,hN,valOk,h0,h1]
 refine cnd ?_ ?_<;>intro h2<;>try simp at h2
 all_goals simp -dsimp [go_sem,hN,valOk,h0,h1,h2]
 refine qag (c_value_plain s) (by simp) ?_;simp -dsimp [go_sem,hN,valOk,h0,h1,h2]
theorem c_keys_Valid1 (b:UInt8):APure Tryz.prog 128 [U8 b.toNat] (Bo (keyB b)):=by
 refine qaz Tryz.func128 Tryz.ntmps128 rfl (by kernel_rfl) rfl rfl fun E h hN hh hu hb=>?_;simp -dsimp [go_sem,hN,keyB];omega
theorem c_keys_consists (s:qac) (f:FuncId) (p:UInt8→Bool) (hp:∀ b:UInt8,APure Tryz.prog f [U8 b.toNat] (Bo (p b))):APure Tryz.prog 127 [S s,.fn (.func f) [] []] (Bo (decide ((s.size:Int)≤24)&&allL p (bl s))):=by
 refine qaz Tryz.func127 Tryz.ntmps127 rfl (by kernel_rfl) rfl rfl fun E h hN hh hu hb=>?_;simp [go_sem] at hb;simp -dsimp [go_sem,hN];refine cnd ?_ ?_<;>intro h0<;>try simp at h0
 all_goals simp -dsimp [go_sem,hN,h0]
 · simp [Int.not_le.2 h0]
 refine qaj s.size (fun n=>allL p ((bl s).drop n)=allL p (bl s)) (fun n=>⟨[(0,S s),(1,.fn (.func f) [] []),(10,I s.size),(11,I n)],h⟩) (by simp) wkA ?_;intro n hn hI;have hw:=qa6 hn hb;simp -dsimp [go_sem,hN];refine cnd ?_ ?_<;>intro hc<;>try simp at hc
 ·
  rw [bdrop hc,allL] at hI;simp -dsimp [go_sem,hN,hc];refine qab (hp _) ?_;simp -dsimp [go_sem,hN];refine cnd ?_ ?_<;>intro hg<;>try simp at hg
  ·
   simp -dsimp [go_sem,hN];simp [h0,← hI,hg]
  ·
   simp -dsimp [go_sem,hN,hw];exact ⟨hc,by simpa [hg] using hI,wkA⟩
 ·
  rw [bend (by omega),allL] at hI;simp -dsimp [go_sem,hN,h0,← hI]
theorem qdo (s:qac):APure Tryz.prog 74 [S s] (Bo (qdz s)):=by
 refine qaz Tryz.func74 Tryz.ntmps74 rfl (by kernel_rfl) rfl rfl fun E h hN hh hu hb=>?_;simp -dsimp [go_sem,hN];refine qag (c_keys_consists s _ keyB c_keys_Valid1) (by simp) ?_;simp -dsimp [go_sem,hN,qdz,Bool.and_assoc]
theorem c_interp_ascending (l:List qac):APure Tryz.prog 136 [.slice (l.map qbf)] (Bo (ascK none l&&decide ((l.length:Int)≤64))):=by
 refine qaz Tryz.func136 Tryz.ntmps136 rfl (by kernel_rfl) rfl rfl fun E h hN hh hu hb=>?_;simp [go_sem] at hb;simp -dsimp [go_sem,hN];refine qaj l.length (fun n=>ascK (qbc l n) (l.drop n)=ascK none l) (fun n=>⟨[(0,.slice (l.map qbf)),(5,.slice (l.map qbf)),(6,I l.length),(7,I n)],h⟩) (by simp [qbc]) wkA ?_;intro n hn hI;have hw:=qa6 hn hb.1;simp -dsimp [go_sem,hN];refine cnd ?_ ?_<;>intro hc<;>try simp at hc
 ·
  rw [qah hc,ascK] at hI;simp -dsimp [go_sem,hN,hc];refine qab (qdo _) ?_;cases n with
  | zero =>
   simp -dsimp [go_sem,hN];refine cnd ?_ ?_<;>intro hg<;>try simp at hg
   ·
    simp -dsimp [go_sem,hN];simp [← hI,hg,qbc,after]
   ·
    simp -dsimp [go_sem,hN,hw];exact ⟨hc,by simpa [hg,qbc,hc,after] using hI,wkA⟩
  | succ m =>
   have hm:m<l.length:=by omega
   have hw2:=wrapN (Nat.le_of_lt hm) hb.1;simp at hw;simp -dsimp [go_sem,hN,hw2,hm];refine cnd ?_ ?_<;>intro hg<;>try simp at hg
   ·
    simp -dsimp [go_sem,hN];rw [← hI];rcases hg with h1 | h1<;>simp [qbc,hm,after,h1]
   ·
    simp -dsimp [go_sem,hN,hw];simp [hg,qbc,hm,after] at hI;exact ⟨hc,by simpa [qbc,hc] using hI,wkA⟩
 ·
  rw [List.drop_eq_nil_of_le (by omega),ascK] at hI;simp -dsimp [go_sem,hN,← hI]
theorem c_interp_valid (a:Bool) (r w:List qac):APure Tryz.prog 87 [.agg [Bo a,.slice (r.map qbf),.slice (w.map qbf)]] (Bo (qbi a r w)):=by
 refine qaz Tryz.func87 Tryz.ntmps87 rfl (by kernel_rfl) rfl rfl fun E h hN hh hu hb=>?_;simp -dsimp [go_sem,hN];refine cnd ?_ ?_<;>intro h0<;>try simp at h0
 all_goals simp -dsimp [go_sem,hN,qbi,h0]
 refine qab (c_interp_ascending r) ?_;simp -dsimp [go_sem,hN];refine qag (c_interp_ascending w) (by simp) ?_;simp -dsimp [go_sem,hN,qbi,h0]
theorem c_state_absent (p:Pr):APure Tryz.prog 97 [.agg p.c] (Bo (decide (p.v.k=0))):=by
 refine qaz Tryz.func97 Tryz.ntmps97 rfl (by kernel_rfl) rfl rfl fun E h hN hh hu hb=>?_;simp -dsimp [go_sem,hN]
theorem c_IndexFunc_Pair (l:List Pr) (f:FuncId) (p:Pr→Bool) (hp:∀ x:Pr,APure Tryz.prog f [.agg x.c] (Bo (p x))):APure Tryz.prog 166 [.slice (l.map Pr.c),.fn (.func f) [] []] (I (qcp p l)):=by
 refine qaz Tryz.func166 Tryz.ntmps166 rfl (by kernel_rfl) rfl rfl fun E h hN hh hu hb=>?_;simp [go_sem] at hb;simp -dsimp [go_sem,hN];refine qaj l.length (fun n=>qbj p n (l.drop n)=qcp p l) (fun n=>⟨[(0,.slice (l.map Pr.c)),(1,.fn (.func f) [] []),(7,I l.length),(8,I n)],h⟩) (by simp [qcp]) wkA ?_;intro n hn hI;have hw:=qa6 hn hb.1;simp -dsimp [go_sem,hN];refine cnd ?_ ?_<;>intro hc<;>try simp at hc
 ·
  rw [qah hc,qbj] at hI;simp -dsimp [go_sem,hN,hc];refine qab (hp l[n]) ?_;simp -dsimp [go_sem,hN];refine cnd ?_ ?_<;>intro hg<;>try simp at hg
  ·
   simp -dsimp [go_sem,hN];simpa [hg] using hI
  ·
   simp -dsimp [go_sem,hN,hw];exact ⟨hc,by simpa [hg] using hI,wkA⟩
 ·
  rw [List.drop_eq_nil_of_le (by omega),qbj] at hI;simp -dsimp [go_sem,hN,← hI]
theorem c_ContainsFunc_Pair (l:List Pr) (f:FuncId) (p:Pr→Bool) (hp:∀ x:Pr,APure Tryz.prog f [.agg x.c] (Bo (p x))):APure Tryz.prog 135 [.slice (l.map Pr.c),.fn (.func f) [] []] (Bo (anyL p l)):=by
 refine qaz Tryz.func135 Tryz.ntmps135 rfl (by kernel_rfl) rfl rfl fun E h hN hh hu hb=>?_;simp -dsimp [go_sem,hN];refine qab (c_IndexFunc_Pair l f p hp) ?_;simp -dsimp [go_sem,hN,idxOf_nonneg]
theorem c_state_sorted (l:List Pr):APure Tryz.prog 94 [.slice (l.map Pr.c)] (Bo (sortedP none l)):=by
 refine qaz Tryz.func94 Tryz.ntmps94 rfl (by kernel_rfl) rfl rfl fun E h hN hh hu hb=>?_;simp [go_sem] at hb;simp -dsimp [go_sem,hN];refine qaj l.length (fun n=>sortedP ((qbc l n).map Pr.key) (l.drop n)=sortedP none l) (fun n=>⟨[(0,.slice (l.map Pr.c)),(5,.slice (l.map Pr.c)),(6,I l.length),(7,I n)],h⟩) (by simp [qbc]) wkA ?_;intro n hn hI;have hw:=qa6 hn hb.1;simp -dsimp [go_sem,hN];refine cnd ?_ ?_<;>intro hc<;>try simp at hc
 ·
  rw [qah hc,sortedP] at hI;simp -dsimp [go_sem,hN,hc];refine qan 22 mixed (by kernel_rfl) (by kernel_rfl) ?_;simp -dsimp [go_sem,hN];refine tdcall (qdo _) (by simp) ?_;simp -dsimp [go_sem,hN];refine tdcall (c_value_Valid _ _ _) (by simp) ?_;cases n with
  | zero =>
   simp -dsimp [go_sem,hN];refine cnd ?_ ?_<;>intro hg<;>try simp at hg
   ·
    simp -dsimp [go_sem,hN];rw [← hI];rcases hg with h1 | h1<;>simp [qbc,after,h1]
   ·
    simp -dsimp [go_sem,hN,hw];exact ⟨hc,by simpa [hg,qbc,hc,after] using hI,wkA⟩
  | succ m =>
   have hm:m<l.length:=by omega
   have hw2:=wrapN (Nat.le_of_lt hm) hb.1;simp at hw;simp -dsimp [go_sem,hN,hw2,hm];refine cnd ?_ ?_<;>intro hg<;>try simp at hg
   ·
    simp -dsimp [go_sem,hN];rw [← hI];grind [qbc,after]
   ·
    simp -dsimp [go_sem,hN,hw];simp [hg,qbc,hm,after] at hI;exact ⟨hc,by simpa [qbc,hc] using hI,wkA⟩
 ·
  rw [List.drop_eq_nil_of_le (by omega),sortedP] at hI;simp -dsimp [go_sem,hN,← hI]
theorem c_state_Valid (l:List Pr):APure Tryz.prog 86 [.slice (l.map Pr.c)] (Bo (qa3 l)):=by
 refine qaz Tryz.func86 Tryz.ntmps86 rfl (by kernel_rfl) rfl rfl fun E h hN hh hu hb=>?_;simp -dsimp [go_sem,hN];refine qab (c_state_sorted l) ?_;simp -dsimp [go_sem,hN];refine qag (c_ContainsFunc_Pair l _ _ c_state_absent) (by simp) ?_;simp -dsimp [go_sem,hN,qa3]
theorem c_state_Get (l:List Pr) (k:qac):APure Tryz.prog 292 [.slice (l.map Pr.c),S k] (.agg (getP l k).c):=by
 refine qaz Tryz.func292 Tryz.ntmps292 rfl (by kernel_rfl) rfl rfl fun E h hN hh hu hb=>?_;simp [go_sem] at hb;simp -dsimp [go_sem,hN];refine qaj l.length (fun n=>getP (l.drop n) k=getP l k) (fun n=>⟨[(0,.slice (l.map Pr.c)),(1,S k),(4,P0 h.length),(7,.slice (l.map Pr.c)),(8,I l.length),(9,I n)],h++[.cells [I 0,I 0,S em]]⟩) (by simp) wkA ?_;intro n hn hI;have hw:=qa6 hn hb.1.1;simp -dsimp [go_sem,hN];refine cnd ?_ ?_<;>intro hc<;>try simp at hc
 ·
  rw [qah hc,getP] at hI;simp -dsimp [go_sem,hN,hc];refine cnd ?_ ?_<;>intro hg<;>try simp at hg
  ·
   simp -dsimp [go_sem,hN];simp [← hI,hg]
  ·
   simp -dsimp [go_sem,hN,hw];exact ⟨hc,by simpa [hg] using hI,wkA⟩
 ·
  rw [List.drop_eq_nil_of_le (by omega),getP] at hI;simp -dsimp [go_sem,hN,← hI]
end Go.Proofs.YtbimdamecieomaaGreatDoor
