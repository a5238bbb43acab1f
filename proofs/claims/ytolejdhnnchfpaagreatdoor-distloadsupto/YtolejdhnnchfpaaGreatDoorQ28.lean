/- Part 28 of a proof. -/
import Derived.Test.YtolejdhnnchfpaaGreatDoorProg
import Derived.KernelRfl
import Derived.Test.YtolejdhnnchfpaaGreatDoorQ25
set_option linter.all false
namespace Go.Proofs.YtolejdhnnchfpaaGreatDoor
open Go Go.Abs Go.Proofs.Tryz
@[simp] theorem tk1:im prog 1=.func/\jd prog 1=1/\jh prog 1=[.val .nilFunc]/\jq prog 1=8/\im prog 2=.int .i64/\jd prog 2=1:=ak
@[simp] theorem tz2:jh prog 2=[.val (.int .i64 0)]/\jq prog 2=8/\im prog 3=.int .i64/\jd prog 3=1/\jh prog 3=[.val (.int .i64 0)]/\jq prog 3=8:=ak
@[simp] theorem tk4:im prog 4=.bool/\jd prog 4=1/\jh prog 4=[.val (.bool false)]/\jq prog 4=1/\im prog 5=.int .u8/\jd prog 5=1:=ak
@[simp] theorem tz5:jh prog 5=[.val (.int .u8 0)]/\jq prog 5=1/\im prog 9=.string/\jd prog 9=1/\jh prog 9=[.val (.string ⟨#[]⟩)]/\jq prog 9=16:=ak
@[simp] theorem jl7:im prog 20=.iface/\jd prog 20=1/\jh prog 20=[.val .nilIface]/\jq prog 20=16/\im prog 21=.int .i32/\jd prog 21=1:=ak
@[simp] theorem jn0:jh prog 21=[.val (.int .i32 0)]/\jq prog 21=4/\im prog 22=.slice 61 5/\jd prog 22=1/\jh prog 22=[.nils]/\jq prog 22=24:=ak
@[simp] theorem jon:im prog 24=.struct [(0,1),(1,1)]/\jd prog 24=2/\jh prog 24=[.val (.int .i64 0),.nils]/\jq prog 24=32/\im prog 25=.slice 53 2/\jd prog 25=1:=ak
@[simp] theorem jlc:jh prog 25=[.nils]/\jq prog 25=24/\im prog 28=.slice 59 4/\jd prog 28=1/\jh prog 28=[.nils]/\jq prog 28=24:=ak
@[simp] theorem jnu:im prog 32=.slice 72 3/\jd prog 32=1/\jh prog 32=[.nils]/\jq prog 32=24/\im prog 33=.slice 78 7/\jd prog 33=1:=ak
@[simp] theorem jn7:jh prog 33=[.nils]/\jq prog 33=24/\im prog 34=.slice 3 1/\jd prog 34=1/\jh prog 34=[.nils]/\jq prog 34=24:=ak
@[simp] theorem jlw:im prog 35=.slice 82 8/\jd prog 35=1/\jh prog 35=[.nils]/\jq prog 35=24/\im prog 42=.int .i64/\jd prog 42=1:=ak
@[simp] theorem jos:jh prog 42=[.val (.int .i64 0)]/\jq prog 42=8/\im prog 53=.struct [(0,1),(1,1)]/\jd prog 53=2/\jh prog 53=[.val (.int .i64 0),.nils]/\jq prog 53=32:=ak
@[simp] theorem jpa:im prog 57=.struct [(0,1),(1,1),(2,1)]/\jd prog 57=3/\jh prog 57=[.val (.int .i64 0),.val (.int .i64 0),.val (.string ⟨#[]⟩)]:=ak
@[simp] theorem jo9:qkr prog 57=[.int .i64,.int .i64,.string]:=ae
@[simp] theorem jlt:jq prog 57=32/\im prog 59=.struct [(0,1),(1,3)]/\jd prog 59=4/\jh prog 59=[.val (.string ⟨#[]⟩),.val (.int .i64 0),.val (.int .i64 0),.val (.string ⟨#[]⟩)]:=ak
@[simp] theorem jld:qkr prog 59=[.string,.int .i64,.int .i64,.string]:=ae
@[simp] theorem jnc:jq prog 59=48/\im prog 61=.struct [(0,1),(1,1),(2,1),(3,1),(4,1)]/\jd prog 61=5/\jh prog 61=[.val (.int .i64 0),.val (.string ⟨#[]⟩),.val (.int .i64 0),.val (.int .i64 0),.val (.string ⟨#[]⟩)]:=ak
@[simp] theorem jmg:qkr prog 61=[.int .i64,.string,.int .i64,.int .i64,.string]:=ae
@[simp] theorem jna:jq prog 61=56/\im prog 62=.slice 64 4/\jd prog 62=1/\jh prog 62=[.nils]/\jq prog 62=24/\im prog 64=.struct [(0,1),(1,1),(2,1),(3,1)]:=ak
@[simp] theorem jnb:jd prog 64=4/\jh prog 64=[.val (.int .i64 0),.val (.int .i64 0),.val (.string ⟨#[]⟩),.nils]/\jq prog 64=56/\im prog 66=.struct [(0,1),(1,1)]/\jd prog 66=2/\jh prog 66=[.val (.string ⟨#[]⟩),.val (.int .i64 0)]:=ak
@[simp] theorem jnv:qkr prog 66=[.string,.int .i64]:=ae
@[simp] theorem jou:jq prog 66=24/\im prog 67=.slice 66 2/\jd prog 67=1/\jh prog 67=[.nils]/\jq prog 67=24/\im prog 68=.slice 70 13:=ak
@[simp] theorem jmo:jd prog 68=1/\jh prog 68=[.nils]/\jq prog 68=24/\im prog 70=.struct [(0,1),(1,1),(2,1),(3,4),(7,4),(11,1),(12,1)]/\jd prog 70=13/\jh prog 70=[.val (.int .i64 0),.val (.string ⟨#[]⟩),.val (.int .i64 0),.val (.int .i64 0),.val (.int .i64 0),.val (.string ⟨#[]⟩),.nils,.val (.int .i64 0),.val (.int .i64 0),.val (.string ⟨#[]⟩),.nils,.nils,.nils]:=ak
@[simp] theorem jpk:jq prog 70=192/\im prog 72=.struct [(0,1),(1,1),(2,1)]/\jd prog 72=3/\jh prog 72=[.val (.string ⟨#[]⟩),.nils,.nils]/\jq prog 72=64/\im prog 73=.slice 57 3:=ak
@[simp] theorem jm1:jd prog 73=1/\jh prog 73=[.nils]/\jq prog 73=24/\im prog 74=.slice 9 1/\jd prog 74=1/\jh prog 74=[.nils]:=ak
@[simp] theorem jno:jq prog 74=24/\im prog 76=.struct [(0,1),(1,1),(2,1)]/\jd prog 76=3/\jh prog 76=[.val (.bool false),.nils,.nils]/\jq prog 76=56/\im prog 78=.struct [(0,1),(1,1),(2,1),(3,3),(6,1)]:=ak
@[simp] theorem jo1:jd prog 78=7/\jh prog 78=[.val (.int .i64 0),.val (.string ⟨#[]⟩),.nils,.val (.bool false),.nils,.nils,.val (.int .i64 0)]/\jq prog 78=112/\im prog 80=.struct [(0,1),(1,1),(2,1)]/\jd prog 80=3/\jh prog 80=[.val (.int .i64 0),.val (.int .i64 0),.nils]:=ak
@[simp] theorem jpc:jq prog 80=40/\im prog 82=.struct [(0,3),(3,1),(4,1),(5,1),(6,1),(7,1)]/\jd prog 82=8/\jh prog 82=[.val (.int .i64 0),.val (.int .i64 0),.nils,.nils,.nils,.nils,.val (.string ⟨#[]⟩),.val (.int .i64 0)]/\jq prog 82=136/\im prog 83=.ptr:=ak
@[simp] theorem jn6:jd prog 83=1/\jh prog 83=[.val (.pointer none)]/\jq prog 83=8/\im prog 85=.slice 89 3/\jd prog 85=1/\jh prog 85=[.nils]:=ak
@[simp] theorem jma:jq prog 85=24/\im prog 87=.func/\jd prog 87=1/\jh prog 87=[.val .nilFunc]/\jq prog 87=8/\im prog 89=.struct [(0,1),(1,1),(2,1)]:=ak
@[simp] theorem jmx:jd prog 89=3/\jh prog 89=[.val .nilFunc,.val (.int .i64 0),.val (.int .i64 0)]/\jq prog 89=24/\im prog 91=.slice 76 3/\jd prog 91=1/\jh prog 91=[.nils]:=ak
@[simp] theorem jlo:jq prog 91=24/\im prog 92=.slice 34 1/\jd prog 92=1/\jh prog 92=[.nils]/\jq prog 92=24/\im prog 93=.slice 97 1:=ak
@[simp] theorem jn3:jd prog 93=1/\jh prog 93=[.nils]/\jq prog 93=24/\im prog 94=.slice 162 5/\jd prog 94=1/\jh prog 94=[.nils]:=ak
@[simp] theorem jlf:jq prog 94=24/\im prog 96=.struct [(0,1),(1,2),(3,1),(4,1),(5,1),(6,1),(7,1),(8,1),(9,1)]/\jd prog 96=10/\jh prog 96=[.nils,.val (.int .i64 0),.nils,.nils,.nils,.nils,.nils,.nils,.nils,.nils]/\jq prog 96=224/\im prog 97=.ptr:=ak
@[simp] theorem jnh:jd prog 97=1/\jh prog 97=[.val (.pointer none)]/\jq prog 97=8/\im prog 98=.slice 152 2/\jd prog 98=1/\jh prog 98=[.nils]:=ak
@[simp] theorem jls:jq prog 98=24/\im prog 99=.slice 192 2/\jd prog 99=1/\jh prog 99=[.nils]/\jq prog 99=24/\im prog 101=.struct [(0,1),(1,1)]:=ak
@[simp] theorem jpb:jd prog 101=2/\jh prog 101=[.nils,.nils]/\jq prog 101=48/\im prog 102=.slice 4 1/\jd prog 102=1/\jh prog 102=[.nils]:=ak
@[simp] theorem jo0:jq prog 102=24/\im prog 104=.struct [(0,2),(2,2),(4,1),(5,1),(6,1)]/\jd prog 104=7/\jh prog 104=[.val (.int .i64 0),.nils,.nils,.nils,.nils,.nils,.nils]/\jq prog 104=152/\im prog 116=.func:=ak
@[simp] theorem jnz:jd prog 116=1/\jh prog 116=[.val .nilFunc]/\jq prog 116=8/\im prog 130=.func/\jd prog 130=1/\jh prog 130=[.val .nilFunc]:=ak
@[simp] theorem jm6:jq prog 130=8/\im prog 132=.func/\jd prog 132=1/\jh prog 132=[.val .nilFunc]/\jq prog 132=8/\im prog 133=.func:=ak
@[simp] theorem jl2:jd prog 133=1/\jh prog 133=[.val .nilFunc]/\jq prog 133=8/\im prog 138=.int .u64/\jd prog 138=1/\jh prog 138=[.val (.int .u64 0)]:=ak
@[simp] theorem jnf:jq prog 138=8/\im prog 140=.func/\jd prog 140=1/\jh prog 140=[.val .nilFunc]/\jq prog 140=8/\im prog 146=.func:=ak
@[simp] theorem jms:jd prog 146=1/\jh prog 146=[.val .nilFunc]/\jq prog 146=8/\im prog 152=.struct [(0,1),(1,1)]/\jd prog 152=2/\jh prog 152=[.val (.int .i64 0),.val (.bool false)]:=ak
@[simp] theorem jmw:qkr prog 152=[.int .i64,.bool]:=ae
@[simp] theorem jn2:jq prog 152=16/\im prog 155=.ptr/\jd prog 155=1/\jh prog 155=[.val (.pointer none)]/\jq prog 155=8/\im prog 162=.struct [(0,1),(1,1),(2,1),(3,1),(4,1)]:=ak
@[simp] theorem joa:jd prog 162=5/\jh prog 162=[.val (.int .i64 0),.val (.int .i64 0),.val (.int .i64 0),.nils,.nils]/\jq prog 162=72/\im prog 165=.func/\jd prog 165=1/\jh prog 165=[.val .nilFunc]:=ak
@[simp] theorem jox:jq prog 165=8/\im prog 174=.int .i64/\jd prog 174=1/\jh prog 174=[.val (.int .i64 0)]/\jq prog 174=8/\im prog 183=.int .u32:=ak
@[simp] theorem joj:jd prog 183=1/\jh prog 183=[.val (.int .u32 0)]/\jq prog 183=4/\im prog 185=.int .u64/\jd prog 185=1/\jh prog 185=[.val (.int .u64 0)]:=ak
@[simp] theorem jlr:jq prog 185=8/\im prog 187=.func/\jd prog 187=1/\jh prog 187=[.val .nilFunc]/\jq prog 187=8/\im prog 188=.slice 74 1:=ak
@[simp] theorem jph:jd prog 188=1/\jh prog 188=[.nils]/\jq prog 188=24/\im prog 192=.struct [(0,1),(1,1)]/\jd prog 192=2/\jh prog 192=[.val (.string ⟨#[]⟩),.nils]:=ak
@[simp] theorem jlx:jq prog 192=40/\im prog 194=.func/\jd prog 194=1/\jh prog 194=[.val .nilFunc]/\jq prog 194=8/\im prog 197=.func:=ak
@[simp] theorem jmd:jd prog 197=1/\jh prog 197=[.val .nilFunc]/\jq prog 197=8/\im prog 211=.struct [(0,1),(1,3),(4,1),(5,1),(6,8)]/\jd prog 211=14/\jh prog 211=[.nils,.val (.bool false),.nils,.nils,.nils,.nils,.val (.int .i64 0),.val (.int .i64 0),.nils,.nils,.nils,.nils,.val (.string ⟨#[]⟩),.val (.int .i64 0)]:=ak
@[simp] theorem jpd:jq prog 211=264/\im prog 214=.int .u64/\jd prog 214=1/\jh prog 214=[.val (.int .u64 0)]/\jq prog 214=8/\im prog 218=.ptr:=ak
@[simp] theorem jl1:jd prog 218=1/\jh prog 218=[.val (.pointer none)]/\jq prog 218=8/\im prog 224=.func/\jd prog 224=1/\jh prog 224=[.val .nilFunc]:=ak
@[simp] theorem jop:jq prog 224=8/\im prog 225=.ptr/\jd prog 225=1/\jh prog 225=[.val (.pointer none)]/\jq prog 225=8/\im prog 227=.map 9 57:=ak
@[simp] theorem jmf:jd prog 227=1/\jh prog 227=[.val (.map none)]/\jq prog 227=8/\im prog 229=.struct [(0,1),(1,3),(4,1),(5,1),(6,8)]/\jd prog 229=14/\jh prog 229=[.nils,.val (.bool false),.nils,.nils,.val (.map none),.val (.map none),.val (.int .i64 0),.val (.int .i64 0),.nils,.nils,.nils,.nils,.val (.string ⟨#[]⟩),.val (.int .i64 0)]:=ak
@[simp] theorem jl9:jq prog 229=232/\im prog 232=.struct [(0,3),(3,1)]/\jd prog 232=4/\jh prog 232=[.val (.int .i64 0),.val (.int .i64 0),.nils,.val (.string ⟨#[]⟩)]/\jq prog 232=56/\im prog 237=.struct [(0,1),(1,1)]:=ak
@[simp] theorem jlv:jd prog 237=2/\jh prog 237=[.nils,.nils]/\jq prog 237=48/\im prog 242=.struct [(0,1),(1,1),(2,1),(3,1)]/\jd prog 242=4/\jh prog 242=[.val (.int .i64 0),.val (.int .i64 0),.val (.int .i64 0),.val (.int .i64 0)]:=ak
@[simp] theorem jnr:qkr prog 242=[.int .i64,.int .i64,.int .i64,.int .i64]:=ae
@[simp] theorem jom:jq prog 242=32/\im prog 253=.array 4 3 1/\jd prog 253=4/\jh prog 253=[.val (.int .i64 0),.val (.int .i64 0),.val (.int .i64 0),.val (.int .i64 0)]/\jq prog 253=32/\im prog 257=.slice 260 20:=ak
@[simp] theorem jlu:jd prog 257=1/\jh prog 257=[.nils]/\jq prog 257=24/\im prog 260=.struct [(0,1),(1,13),(14,1),(15,4),(19,1)]/\jd prog 260=20/\jh prog 260=[.val (.bool false),.val (.int .i64 0),.val (.string ⟨#[]⟩),.val (.int .i64 0),.val (.int .i64 0),.val (.int .i64 0),.val (.string ⟨#[]⟩),.nils,.val (.int .i64 0),.val (.int .i64 0),.val (.string ⟨#[]⟩),.nils,.nils,.nils,.val (.int .i64 0),.val (.int .i64 0),.val (.int .i64 0),.val (.string ⟨#[]⟩),.nils,.val (.bool false)]:=ak
@[simp] theorem joo:jq prog 260=272/\im prog 276=.map 9 3/\jd prog 276=1/\jh prog 276=[.val (.map none)]/\jq prog 276=8/\im prog 290=.func:=ak
@[simp] theorem jly:jd prog 290=1/\jh prog 290=[.val .nilFunc]/\jq prog 290=8/\im prog 308=.ptr/\jd prog 308=1/\jh prog 308=[.val (.pointer none)]:=ak
@[simp] theorem jl8:jq prog 308=8/\im prog 309=.map 9 4/\jd prog 309=1/\jh prog 309=[.val (.map none)]/\jq prog 309=8/\im prog 311=.struct [(0,1),(1,1),(2,1)]:=ak
@[simp] theorem jlz:jd prog 311=3/\jh prog 311=[.val (.map none),.val (.map none),.val (.map none)]/\jq prog 311=24/\im prog 329=.func/\jd prog 329=1/\jh prog 329=[.val .nilFunc]:=ak
@[simp] theorem jo8:jq prog 329=8/\im prog 330=.func/\jd prog 330=1/\jh prog 330=[.val .nilFunc]/\jq prog 330=8/\im prog 350=.func:=ak
@[simp] theorem jnl:jd prog 350=1/\jh prog 350=[.val .nilFunc]/\jq prog 350=8/\im prog 351=.ptr/\jd prog 351=1/\jh prog 351=[.val (.pointer none)]:=ak
@[simp] theorem jpi:jq prog 351=8/\im prog 353=.struct [(0,1),(1,1),(2,1)]/\jd prog 353=3/\jh prog 353=[.val (.int .i64 0),.val .nilFunc,.val .nilFunc]/\jq prog 353=24/\im prog 356=.struct [(0,1),(1,1),(2,1),(3,1),(4,1),(5,1)]:=ak
@[simp] theorem jmn:jd prog 356=6/\jh prog 356=[.val (.bool false),.val (.bool false),.val (.bool false),.val (.bool false),.val (.bool false),.val (.bool false)]:=ak
@[simp] theorem jmi:qkr prog 356=[.bool,.bool,.bool,.bool,.bool,.bool]:=ae
@[simp] theorem jlm:jq prog 356=6/\im prog 365=.slice 5 1/\jd prog 365=1/\jh prog 365=[.nils]/\jq prog 365=24/\im prog 370=.struct [(0,3),(3,3)]:=ak
@[simp] theorem jlq:jd prog 370=6/\jh prog 370=[.val (.int .i64 0),.val (.int .i64 0),.val (.string ⟨#[]⟩),.val (.int .i64 0),.val (.int .i64 0),.val (.string ⟨#[]⟩)]:=ak
@[simp] theorem jot:qkr prog 370=[.int .i64,.int .i64,.string,.int .i64,.int .i64,.string]:=ae
@[simp] theorem jmb:jq prog 370=64/\im prog 373=.array 24 5 1/\jd prog 373=24/\jh prog 373=[.val (.int .u8 0),.val (.int .u8 0),.val (.int .u8 0),.val (.int .u8 0),.val (.int .u8 0),.val (.int .u8 0),.val (.int .u8 0),.val (.int .u8 0),.val (.int .u8 0),.val (.int .u8 0),.val (.int .u8 0),.val (.int .u8 0),.val (.int .u8 0),.val (.int .u8 0),.val (.int .u8 0),.val (.int .u8 0),.val (.int .u8 0),.val (.int .u8 0),.val (.int .u8 0),.val (.int .u8 0),.val (.int .u8 0),.val (.int .u8 0),.val (.int .u8 0),.val (.int .u8 0)]/\jq prog 373=24/\im prog 380=.array 20 185 1:=ak
@[simp] theorem jmh:jd prog 380=20/\jh prog 380=[.val (.int .u64 0),.val (.int .u64 0),.val (.int .u64 0),.val (.int .u64 0),.val (.int .u64 0),.val (.int .u64 0),.val (.int .u64 0),.val (.int .u64 0),.val (.int .u64 0),.val (.int .u64 0),.val (.int .u64 0),.val (.int .u64 0),.val (.int .u64 0),.val (.int .u64 0),.val (.int .u64 0),.val (.int .u64 0),.val (.int .u64 0),.val (.int .u64 0),.val (.int .u64 0),.val (.int .u64 0)]/\jq prog 380=160/\im prog 383=.array 32 5 1/\jd prog 383=32/\jh prog 383=[.val (.int .u8 0),.val (.int .u8 0),.val (.int .u8 0),.val (.int .u8 0),.val (.int .u8 0),.val (.int .u8 0),.val (.int .u8 0),.val (.int .u8 0),.val (.int .u8 0),.val (.int .u8 0),.val (.int .u8 0),.val (.int .u8 0),.val (.int .u8 0),.val (.int .u8 0),.val (.int .u8 0),.val (.int .u8 0),.val (.int .u8 0),.val (.int .u8 0),.val (.int .u8 0),.val (.int .u8 0),.val (.int .u8 0),.val (.int .u8 0),.val (.int .u8 0),.val (.int .u8 0),.val (.int .u8 0),.val (.int .u8 0),.val (.int .u8 0),.val (.int .u8 0),.val (.int .u8 0),.val (.int .u8 0),.val (.int .u8 0),.val (.int .u8 0)]:=ak
@[simp] theorem jlp:jq prog 383=32/\im prog 384=.array 64 5 1/\jd prog 384=64/\jh prog 384=[.val (.int .u8 0),.val (.int .u8 0),.val (.int .u8 0),.val (.int .u8 0),.val (.int .u8 0),.val (.int .u8 0),.val (.int .u8 0),.val (.int .u8 0),.val (.int .u8 0),.val (.int .u8 0),.val (.int .u8 0),.val (.int .u8 0),.val (.int .u8 0),.val (.int .u8 0),.val (.int .u8 0),.val (.int .u8 0),.val (.int .u8 0),.val (.int .u8 0),.val (.int .u8 0),.val (.int .u8 0),.val (.int .u8 0),.val (.int .u8 0),.val (.int .u8 0),.val (.int .u8 0),.val (.int .u8 0),.val (.int .u8 0),.val (.int .u8 0),.val (.int .u8 0),.val (.int .u8 0),.val (.int .u8 0),.val (.int .u8 0),.val (.int .u8 0),.val (.int .u8 0),.val (.int .u8 0),.val (.int .u8 0),.val (.int .u8 0),.val (.int .u8 0),.val (.int .u8 0),.val (.int .u8 0),.val (.int .u8 0),.val (.int .u8 0),.val (.int .u8 0),.val (.int .u8 0),.val (.int .u8 0),.val (.int .u8 0),.val (.int .u8 0),.val (.int .u8 0),.val (.int .u8 0),.val (.int .u8 0),.val (.int .u8 0),.val (.int .u8 0),.val (.int .u8 0),.val (.int .u8 0),.val (.int .u8 0),.val (.int .u8 0),.val (.int .u8 0),.val (.int .u8 0),.val (.int .u8 0),.val (.int .u8 0),.val (.int .u8 0),.val (.int .u8 0),.val (.int .u8 0),.val (.int .u8 0),.val (.int .u8 0)]/\jq prog 384=64:=ak
end Go.Proofs.YtolejdhnnchfpaaGreatDoor
namespace Go.Proofs.YtolejdhnnchfpaaGreatDoor
open Go Go.Abs Go.Cw Go.Proofs.Tryz
theorem mixed:prog.follows .mixedOrders=true:=ae
theorem xx0(s:ig):APure prog 124 [S s] (Bo (pp s)):=by
 refine kl func124 ntmps124 rfl ae rfl rfl λE h hN hh hu hb=>?_;simp[go_sem]at hb;simp-dsimp[go_sem,hN];refine jz s.size (λn=>nz okB ((bl s).drop n)=nz okB (bl s)) (λn=>⟨[(0,S s),(3,I n)],h⟩) ac (Wk.mk ai ac aa ag) ?_;intro n hn hI;have hw:=jj hn hb;simp-dsimp[go_sem,hN];refine ii ?_ ?_<;>intro hc<;>try simp at hc
 .rw[qnt hc,nz]at hI;simp-dsimp[go_sem,hN,hc];refine ii (λhg=>?_) (λhg=>?_)
  .simp-dsimp[go_sem,hN];simp[pp,<-hI,okB,hg]
  .simp-dsimp[go_sem,hN,hw];exact⟨hc,qgu,(Wk.mk ai ac aa ag)⟩
 .rw[qt1 aa,nz]at hI;simp-dsimp[go_sem,hN,pp,<-hI]
theorem xwm(k n:Int)(s:ig):APure prog 80 [.agg [I k,I n,S s]] (Bo (xn k n s)):=by
 refine lz func80 rfl ae ac rfl ?_;intro E h hN hh hu hb;rw[ntmps80]at hN;refine jo _ _ _ ?_;simp-dsimp[go_sem,hN];refine ii ?_ ?_<;>intro h0<;>try simp at h0
 all_goals simp-dsimp[go_sem,hN,xn,h0]
 refine ii ?_ ?_<;>intro h1<;>try simp at h1
 all_goals simp-dsimp[go_sem,hN,xn,h0,h1]
 refine ii ?_ ?_<;>intro h2<;>try simp at h2
 all_goals simp-dsimp[go_sem,hN,xn,h0,h1,h2]
 refine kq (xx0 s) ac ?_;simp-dsimp[go_sem,hN,xn,h0,h1,h2]
theorem jhf(b:UInt8):APure prog 123 [U8 b.toNat] (Bo (qsu b)):=by
 refine kl func123 ntmps123 rfl ae rfl rfl λE h hN hh hu hb=>?_;simp-dsimp[go_sem,hN,qsu];omega
theorem jeg(s:ig)(f:FuncId)(p:UInt8->Bool)(hp:∀b:UInt8,APure prog f [U8 b.toNat] (Bo (p b))):APure prog 122 [S s,.fn (.func f) [] []] (Bo (decide ((s.size:Int)<=24)&&nz p (bl s))):=by
 refine kl func122 ntmps122 rfl ae rfl rfl λE h hN hh hu hb=>?_;simp[go_sem]at hb;simp-dsimp[go_sem,hN];refine ii ?_ ?_<;>intro h0<;>try simp at h0
 all_goals simp-dsimp[go_sem,hN,h0]
 .omega
 refine jz s.size (λn=>nz p ((bl s).drop n)=nz p (bl s)) (λn=>⟨[(0,S s),(1,.fn (.func f) [] []),(10,I s.size),(11,I n)],h⟩) ac (Wk.mk ai ac aa ag) ?_;intro n hn hI;have hw:=jj hn hb;simp-dsimp[go_sem,hN];refine ii ?_ ?_<;>intro hc<;>try simp at hc
 .rw[qnt hc,nz]at hI;simp-dsimp[go_sem,hN,hc];refine iv (hp _) ?_;simp-dsimp[go_sem,hN];refine ii ?_ ?_<;>intro hg<;>try simp at hg
  .simp-dsimp[go_sem,hN];simp[h0,<-hI,hg]
  .simp-dsimp[go_sem,hN,hw];exact⟨hc,br,(Wk.mk ai ac aa ag)⟩
 .rw[qt1 aa,nz]at hI;simp-dsimp[go_sem,hN,h0,<-hI]
theorem qd7(s:ig):APure prog 79 [S s] (Bo (sw s)):=by
 refine lz func79 rfl ae ac rfl ?_;intro E h hN hh hu hb;rw[ntmps79]at hN;refine jo _ _ _ ?_;simp-dsimp[go_sem,hN];refine kq (jeg s _ qsu jhf) ac ?_;simp-dsimp[go_sem,hN,sw,gh]
theorem xop(l:List ig):APure prog 205 [.slice (l.map ja)] (Bo (qkl none l&&decide ((l.length:Int)<=64))):=by
 refine kl func205 ntmps205 rfl ae rfl rfl λE h hN hh hu hb=>?_;simp[go_sem]at hb;simp-dsimp[go_sem,hN];refine jz l.length (λn=>qkl (s6 l n) (l.drop n)=qkl none l) (λn=>⟨[(0,.slice (l.map ja)),(5,.slice (l.map ja)),(6,I l.length),(7,I n)],h⟩) qhe (Wk.mk ai ac aa ag) ?_;intro n hn hI;have hw:=jj hn hb.1;simp-dsimp[go_sem,hN];refine ii ?_ ?_<;>intro hc<;>try simp at hc
 .rw[jv hc,qkl]at hI;simp-dsimp[go_sem,hN,hc];refine iv (qd7 _) ?_;cases n with
  |zero =>
   simp-dsimp[go_sem,hN];refine ii ?_ ?_<;>intro hg<;>try simp at hg
   .simp-dsimp[go_sem,hN];simp[<-hI,hg,s6,after]
   .simp-dsimp[go_sem,hN,hw];exact⟨hc,qfy,(Wk.mk ai ac aa ag)⟩
  |succ m =>
   have hm:m<l.length:=aa;have oh:=qq9 (ez hm) hb.1;simp at hw;simp-dsimp[go_sem,hN,oh,hm];refine ii ?_ ?_<;>intro hg<;>try simp at hg
   .simp-dsimp[go_sem,hN];rw[<-hI];rcases hg with h1|h1<;>simp[s6,hm,after,h1]
   .simp-dsimp[go_sem,hN,hw];simp[hg,s6,hm,after]at hI;exact⟨hc,qf0,(Wk.mk ai ac aa ag)⟩
 .rw[cq aa,qkl]at hI;simp-dsimp[go_sem,hN,<-hI]
theorem jaj(a:Bool)(r w:List ig):APure prog 176 [.agg [Bo a,.slice (r.map ja),.slice (w.map ja)]] (Bo (qa a r w)):=by
 refine kl func176 ntmps176 rfl ae rfl rfl λE h hN hh hu hb=>?_;simp-dsimp[go_sem,hN];refine ii ?_ ?_<;>intro h0<;>try simp at h0
 all_goals simp-dsimp[go_sem,hN,qa,h0]
 refine iv (xop r) ?_;simp-dsimp[go_sem,hN];refine kq (xop w) ac ?_;simp-dsimp[go_sem,hN,qa,h0]
theorem xr5(p:Pr):APure prog 47 [.agg p.c] (Bo (decide (p.v.k=0))):=by
 refine lz func47 rfl ae ac rfl ?_;intro E h hN hh hu hb;rw[ntmps47]at hN;refine jo _ _ _ ?_;simp-dsimp[go_sem,hN]
theorem jf9(l:List Pr)(f:FuncId)(p:Pr->Bool)(hp:∀x:Pr,APure prog f [.agg x.c] (Bo (p x))):APure prog 81 [.slice (l.map Pr.c),.fn (.func f) [] []] (I (nv p l)):=by
 refine lz func81 rfl ae ac rfl ?_;intro E h hN hh hu hb;rw[ntmps81]at hN;refine jo _ _ _ ?_;simp[go_sem]at hb;simp-dsimp[go_sem,hN];refine jz l.length (λn=>ph p n (l.drop n)=nv p l) (λn=>⟨[(0,.slice (l.map Pr.c)),(1,.fn (.func f) [] []),(7,I l.length),(8,I n)],h⟩) qgd (Wk.mk ai ac aa ag) ?_;intro n hn hI;have hw:=jj hn hb.1;simp-dsimp[go_sem,hN];refine ii ?_ ?_<;>intro hc<;>try simp at hc
 .rw[jv hc,ph]at hI;simp-dsimp[go_sem,hN,hc];refine iv (hp l[n]) ?_;simp-dsimp[go_sem,hN];refine ii ?_ ?_<;>intro hg<;>try simp at hg
  .simp-dsimp[go_sem,hN];simpa[hg]using hI
  .simp-dsimp[go_sem,hN,hw];exact⟨hc,br,(Wk.mk ai ac aa ag)⟩
 .rw[cq aa,ph]at hI;simp-dsimp[go_sem,hN,<-hI]
theorem jfu(l:List Pr)(f:FuncId)(p:Pr->Bool)(hp:∀x:Pr,APure prog f [.agg x.c] (Bo (p x))):APure prog 46 [.slice (l.map Pr.c),.fn (.func f) [] []] (Bo (si p l)):=by
 refine lz func46 rfl ae ac rfl ?_;intro E h hN hh hu hb;rw[ntmps46]at hN;refine jo _ _ _ ?_;simp-dsimp[go_sem,hN];refine iv (jf9 l f p hp) ?_;simp-dsimp[go_sem,hN,xhu]
theorem xp2(l:List Pr):APure prog 45 [.slice (l.map Pr.c)] (Bo (qsy none l)):=by
 refine lz func45 rfl ae ac rfl ?_;intro E h hN hh hu hb;rw[ntmps45]at hN;refine jo _ _ _ ?_;simp[go_sem]at hb;simp-dsimp[go_sem,hN];refine jz l.length (λn=>qsy ((s6 l n).map Pr.key) (l.drop n)=qsy none l) (λn=>⟨[(0,.slice (l.map Pr.c)),(5,.slice (l.map Pr.c)),(6,I l.length),(7,I n)],h⟩) qhe (Wk.mk ai ac aa ag) ?_;intro n hn hI;have hw:=jj hn hb.1;simp-dsimp[go_sem,hN];refine ii ?_ ?_<;>intro hc<;>try simp at hc
 .rw[jv hc,qsy]at hI;simp-dsimp[go_sem,hN,hc];refine jt 22 mixed ae ae ?_;simp-dsimp[go_sem,hN];refine m6 (qd7 _) ac ?_;simp-dsimp[go_sem,hN];refine m6 (xwm _ _ _) ac ?_;cases n with
  |zero =>
   simp-dsimp[go_sem,hN];refine ii ?_ ?_<;>intro hg<;>try simp at hg
   .simp-dsimp[go_sem,hN];rw[<-hI];rcases hg with h1|h1<;>simp[s6,after,h1]
   .simp-dsimp[go_sem,hN,hw];exact⟨hc,qfy,(Wk.mk ai ac aa ag)⟩
  |succ m =>
   have hm:m<l.length:=aa;have oh:=qq9 (ez hm) hb.1;simp at hw;simp-dsimp[go_sem,hN,oh,hm];refine ii ?_ ?_<;>intro hg<;>try simp at hg
   .simp-dsimp[go_sem,hN];rw[<-hI];grind[s6,after]
   .simp-dsimp[go_sem,hN,hw];simp[hg,s6,hm,after]at hI;exact⟨hc,qf0,(Wk.mk ai ac aa ag)⟩
 .rw[cq aa,qsy]at hI;simp-dsimp[go_sem,hN,<-hI]
theorem qb6(l:List Pr):APure prog 25 [.slice (l.map Pr.c)] (Bo (jl l)):=by
 refine lz func25 rfl ae ac rfl ?_;intro E h hN hh hu hb;rw[ntmps25]at hN;refine jo _ _ _ ?_;simp-dsimp[go_sem,hN];refine iv (xp2 l) ?_;simp-dsimp[go_sem,hN];refine kq (jfu l _ _ xr5) ac ?_;simp-dsimp[go_sem,hN,jl]
theorem xzo(l:List Pr)(k:ig):APure prog 330 [.slice (l.map Pr.c),S k] (.agg (jw l k).c):=by
 refine kl func330 ntmps330 rfl ae rfl rfl λE h hN hh hu hb=>?_;simp[go_sem]at hb;simp-dsimp[go_sem,hN];refine jz l.length (λn=>jw (l.drop n) k=jw l k) (λn=>⟨[(0,.slice (l.map Pr.c)),(1,S k),(4,P0 h.length),(7,.slice (l.map Pr.c)),(8,I l.length),(9,I n)],h++[.cells [I 0,I 0,S em]]⟩) ac (Wk.mk ai ac am ag) ?_;intro n hn hI;have hw:=jj hn hb.1.1;simp-dsimp[go_sem,hN];refine ii ?_ ?_<;>intro hc<;>try simp at hc
 .rw[jv hc,jw]at hI;simp-dsimp[go_sem,hN,hc];refine ii ?_ ?_<;>intro hg<;>try simp at hg
  .simp-dsimp[go_sem,hN];simp[<-hI,hg]
  .simp-dsimp[go_sem,hN,hw];exact⟨hc,br,mj⟩
 .rw[cq aa,jw]at hI;simp-dsimp[go_sem,hN,<-hI]
end Go.Proofs.YtolejdhnnchfpaaGreatDoor
set_option maxRecDepth 8000
set_option maxHeartbeats 4000000
namespace Go.Proofs.YtolejdhnnchfpaaGreatDoor
open Go Go.Abs Go.Cw Go.Proofs.Tryz
attribute [go_sem] Part.c
theorem xdo(n:Int):APure prog 42 [I n] (Bo (z8 n)):=by
 refine lz func42 rfl ae ac rfl ?_;intro E h hN hh hu hb;rw[ntmps42]at hN;refine jo _ _ _ ?_;simp-dsimp[go_sem,hN,z8]
theorem xqd(n:Int):APure prog 41 [I n] (Bo (qo6 n)):=by
 refine lz func41 rfl ae ac rfl ?_;intro E h hN hh hu hb;rw[ntmps41]at hN;refine jo _ _ _ ?_;simp-dsimp[go_sem,hN,qo6]
theorem xfr(s:ig):APure prog 40 [S s] (Bo (qlu s)):=by
 refine lz func40 rfl ae ac rfl ?_;intro E h hN hh hu hb;rw[ntmps40]at hN;refine jo _ _ _ ?_;simp[go_sem]at hb;simp-dsimp[go_sem,hN];refine jz s.size (λn=>nz qt4 ((bl s).drop n)=nz qt4 (bl s)) (λn=>⟨[(0,S s),(3,I n)],h⟩) ac (Wk.mk ai ac aa ag) ?_;intro n hn hI;have hw:=jj hn hb;simp-dsimp[go_sem,hN];refine ii ?_ ?_<;>intro hc<;>simp at hc
 .rw[qnt hc,nz]at hI;simp-dsimp[go_sem,hN,hc];refine ii ?_ ?_<;>intro hg<;>simp at hg
  .simp-dsimp[go_sem,hN];have:qt4 (qq s n)=false:=qin;rw[this,fl]at hI;simp[qlu,<-hI]
  .simp-dsimp[go_sem,hN,hw];have:qt4 (qq s n)=true:=qin;rw[this,dh]at hI;exact⟨hc,hI,(Wk.mk ai ac aa ag)⟩
 .rw[qt1 aa,nz]at hI;simp-dsimp[go_sem,hN];simp[qlu,<-hI]
theorem jhx(x:Part)(h:g9)(i:Nat)(t:Int)(hi:h[i]?=some (.cells [I t])):ACalls prog 78 [.agg x.c,.ptr i 0] h λr h'=>r=.ret (Bo (decide (x.id=t)))/\h'=h:=by
 refine re func78 rfl ae ac ?_;intro E hN hh hu hb iq ju;rw[ntmps78]at hN;refine jo _ _ _ ?_;have ke:i<h.length:=(cm.1 hi).1;have a1:∀l,(h++l)[i]?=some (.cells [I t]):=λl=>by rw[co ke];exact hi
 simp-dsimp[go_sem,hN,a1,hu];exact⟨_,.refl _,h,ag,ag,ac,aq,rfl,rfl⟩
theorem xz1(l:List Part)(f:FuncId)(caps:List AV)(q:Part->Bool)(h:g9)(hcn:ko h caps=caps)(hp:∀x:Part,ACalls prog f ([.agg x.c]++caps) h λr h'=>r=.ret (Bo (q x))/\h'=h) :
  ACalls prog 77 [.slice (l.map Part.c),.fn (.func f) [] caps] h λr h'=>r=.ret (I (nv q l))/\h'=h:=by
 refine re func77 rfl ae ac ?_;intro E hN hh hu hb iq ju;rw[ntmps77]at hN;refine jo _ _ _ ?_;simp[go_sem]at hb;simp-dsimp[go_sem,hN];refine jz l.length (λn=>ph q n (l.drop n)=nv q l) (λn=>⟨[(0,.slice (l.map Part.c)),(1,.fn (.func f) [] caps),(7,I l.length),(8,I n)],h⟩) qgd (Wk.mk ai ac qfx qet) ?_;intro n hn hI;have hw:=jj hn hb.1;simp-dsimp[go_sem,hN];refine ii ?_ ?_<;>intro hc<;>simp at hc
 .rw[jv hc,ph]at hI;simp-dsimp[go_sem,hN,hc,hcn];refine iy (hp l[n]) ?_;rintro r h' ⟨rfl,rfl⟩;simp-dsimp[go_sem,hN];refine ii ?_ ?_<;>intro hg<;>try simp at hg
  .simp-dsimp[go_sem,hN];rw[if_pos hg]at hI;rw[hI];exact⟨_,.refl _,h',ag,ag,ac,aq,rfl,rfl⟩
  .simp-dsimp[go_sem,hN,hw];exact⟨hc,br,Wk.mk ai ac qfx qet⟩
 .rw[cq aa,ph]at hI;simp-dsimp[go_sem,hN,<-hI];exact⟨_,.refl _,h,ag,ag,ac,aq,rfl,rfl⟩
abbrev xap(t:Int):Part->Bool:=λx=>decide (x.id=t)
theorem xnf(l:List Part)(t:Int):APure prog 44 [.slice (l.map Part.c),I t] (I (nv (xap t) l)):=by
 refine lz func44 rfl ae ac rfl ?_;intro E h hN hh hu hb;rw[ntmps44]at hN;refine jo _ _ _ ?_;simp-dsimp[go_sem,hN];refine iy (xz1 l _ _ (xap t) _ qfz (λx=>jhx x _ _ t ac)) ?_;rintro r h' ⟨rfl,rfl⟩;simp-dsimp[go_sem,hN]
theorem xmh(l:List Part)(i:Nat)(hi:i<l.length)(hl:l.length<=16):APure prog 43 [.slice (l.map Part.c),I i] (Bo (qo5 l[i] ((l.drop (i+1)).head?.map (·.frm)))):=by
 refine lz func43 rfl ae ac rfl ?_;intro E h hN hh hu hb;rw[ntmps43]at hN;refine jo _ _ _ ?_;simp[go_sem]at hb;have hw:=jj (ez hi) hb.1;simp-dsimp[go_sem,hN,hi];refine ii ?_ ?_<;>intro hc<;>simp at hc
 .simp-dsimp[go_sem,hN,qo5,hc]
  done
 rcases ei (i+1) l.length with h1|h1
 .have hg:l[i+1]?=some l[i+1]:=cu h1;have it:¬((i:Int)+1=l.length):=aa;rw[List.head?_drop,hg];refine jt 37 mixed ae ae ?_;simp-dsimp[go_sem,hN];refine m6 (xdo _) ac ?_;simp-dsimp[go_sem,hN];refine m6 (xfr _) ac ?_;simp-dsimp[go_sem,hN,hw,hg,it,h1];exact⟨λa b c d=>⟨⟨⟨⟨a,b⟩,c⟩,d⟩,aa⟩,by simp[qo5,hc]⟩
 .have hg:l[i+1]?=none:=fq aa;have it:((i:Int)+1=l.length):=aa;have hwl:IntKind.i64.wrap (l.length:Int)=l.length:=af;rw[List.head?_drop,hg];refine jt 37 mixed ae ae ?_;simp-dsimp[go_sem,hN];refine m6 (xdo _) ac ?_;simp-dsimp[go_sem,hN];refine m6 (xfr _) ac ?_;simp-dsimp[go_sem,hN,hw,hg,it,hwl];simp[qo5,hc]
theorem xjb{α:Type}(q:α->Bool)(l:List α):decide (0<=nv q l)=l.any q:=by
 rcases qzz q l with⟨h1,h2⟩|⟨m,hm,h1,h2⟩
 .grind
 .grind
theorem qv0(p:Plc):APure prog 24 [.agg p.c] (Bo (jy p)):=by
 obtain⟨ver,l⟩:=p;refine lz func24 rfl ae ac rfl ?_;intro E h hN hh hu hb;rw[ntmps24]at hN;refine jo _ _ _ ?_;simp[go_sem,Plc.c]at hb;cases l with
 |nil =>
  have hR:jy ⟨ver,[]⟩=false:=by simp[jy]
  rw[hR];simp-dsimp[go_sem,hN,Plc.c]
 |cons x r =>
 have hR:jy ⟨ver,x::r⟩=(decide (0<=ver)&&decide (ver<=1099511627776)&&decide ((x::r).length<=16)&&decide (x.frm=em)&&xg [] (x::r)):=by simp[jy]
 rw[hR];obtain⟨l,hl⟩:∃l,l=x::r:=⟨_,rfl⟩
 have hx:l[0]?=some x:=af;have hpos:0<l.length:=af;rw[<-hl]at hb|-;have w9:l[0]=x:=af;rw[show decide (x.frm=em)=decide (l[0].frm=em)by rw[w9]];simp-dsimp[go_sem,hN,Plc.c,hpos];refine ii ?_ ?_<;>intro hc<;>simp at hc
 .rw[show(decide (0<=ver)&&decide (ver<=1099511627776)&&decide (l.length<=16)&&decide (l[0].frm=em)&&xg [] l)=false from ?_]
  .simp-dsimp[go_sem,hN]
  rw[fu];intro hk;simp only[cw,decide_eq_true_eq]at hk;obtain⟨⟨⟨⟨k1,k2⟩,k3⟩,k4⟩,_⟩:=hk;rcases hc with(((hc|hc)|hc)|hc)|hc
  .omega
  .omega
  .omega
  .omega
  .grind
 obtain⟨⟨⟨⟨k1,k2⟩,k3⟩,k4⟩,k5⟩:=hc;rw[show(decide (0<=ver)&&decide (ver<=1099511627776)&&decide (l.length<=16)&&decide (l[0].frm=em)&&xg [] l)=xg [] l by
  rw[decide_eq_true k1,decide_eq_true k2,decide_eq_true (show l.length<=16 by omega),decide_eq_true (show l[0].frm=em from k5)];rfl]
 simp-dsimp[go_sem,hN,Plc.c,hpos];refine jz l.length (λn=>xg (l.take n) (l.drop n)=xg [] l) (λn=>⟨[(1,.ptr h.length 0),(34,.slice (l.map Part.c)),(35,I l.length),(36,I n)],h++[.cells [I ver,.slice (l.map Part.c)]]⟩) ac (Wk.mk ai ac am ag) ?_;intro n hn hI;have hw:=jj hn hb.1;simp-dsimp[go_sem,hN];refine ii ?_ ?_<;>intro hc<;>simp at hc
 rotate_left
 .rw[cq aa,xg]at hI;simp-dsimp[go_sem,hN,<-hI]
 rw[jv hc,xg]at hI;rw[<-ec hc]at hI;simp-dsimp[go_sem,hN,hc];refine jt 17 mixed ae ae ?_;cases n with
 |zero =>
  simp-dsimp[go_sem,hN];refine m6 (xfr _) ac ?_;simp-dsimp[go_sem,hN];refine jt 24 mixed ae ae ?_;simp-dsimp[go_sem,hN];refine m6 (xqd _) ac ?_;simp-dsimp[go_sem,hN];refine m6 (xdo _) ac ?_;simp-dsimp[go_sem,hN];refine m6 (xmh l (0) hc aa) ac ?_;simp-dsimp[go_sem,hN];have u7:nv (xap l[0].id) ([]:List Part) = -1:=rfl;refine kq (xnf (l.take 0) _) ac ?_;simp-dsimp[go_sem,hN,u7];simp only[qjj,xg2,dh,qjx,qj3,fa,List.head?_drop,cz]at hI;generalize qo6 l[0].id=A at hI|-;generalize z8 l[0].node=B at hI|-;generalize qo5 l[0] (Option.map (λx=>x.frm) l[1]?)=C at hI|-;refine ii ?_ ?_<;>intro hg<;>simp at hg
  .simp-dsimp[go_sem,hN];rw[<-hI];rcases hg with(rfl|rfl)|rfl<;>simp
  .simp-dsimp[go_sem,hN,hw];obtain⟨⟨rfl,rfl⟩,rfl⟩:=hg;exact⟨hc,by simpa using hI,mj⟩
 |succ m =>
  have hm:m<l.length:=aa;have oh:=qq9 (ez hm) hb.1;simp-dsimp[go_sem,hN];refine m6 (xfr _) ac ?_;rw[xj2 hm]at hI;simp-dsimp[go_sem,hN,oh,hm];refine ii ?_ ?_<;>intro hg<;>simp at hg
  .simp-dsimp[go_sem,hN];rw[<-hI];rcases hg with hg|hg|hg
   .simp[hg]
   .simp[xax hg]
   .simp[hg,qc4]
  have qe:js l[m].frm l[m+1].frm=true:=by grind[qwz]
  rw[hg.1,qe]at hI;simp only[dh]at hI;refine jt 24 mixed ae ae ?_;simp-dsimp[go_sem,hN];refine m6 (xqd _) ac ?_;simp-dsimp[go_sem,hN];refine m6 (xdo _) ac ?_;simp-dsimp[go_sem,hN];refine m6 (xmh l (m+1) hc aa) ac ?_;simp-dsimp[go_sem,hN];refine⟨λa b c=>⟨⟨⟨a,b⟩,c⟩,aa,aa⟩,?_⟩;obtain⟨D,hD⟩:∃D,((l.take (m+1)).any λy=>decide (y.id=l[m+1].id))=D:=⟨_,rfl⟩
  rw[hD]at hI;have u7:(0<=nv (xap l[m+1].id) (l.take (m+1)))=(D=true):=by
   rw[<-hD,<-xjb (xap l[m+1].id)];simp
  rw[<-gd];refine kq (xnf (l.take (m+1)) _) ac ?_;simp-dsimp[go_sem,hN,u7];rw[List.head?_drop]at hI;generalize qo6 l[m+1].id=A at hI|-;generalize z8 l[m+1].node=B at hI|-;generalize qo5 l[m+1] (Option.map (λx=>x.frm) l[m+1+1]?)=C at hI|-;refine ii ?_ ?_<;>intro hg<;>simp at hg
  .simp-dsimp[go_sem,hN];rw[<-hI];rcases hg with((rfl|rfl)|rfl)|rfl<;>simp
  .have hw':IntKind.i64.wrap ((m:Int)+1+1)=(m:Int)+1+1:=by simpa using hw
   simp-dsimp[go_sem,hN,hw'];obtain⟨⟨⟨rfl,rfl⟩,rfl⟩,rfl⟩:=hg;exact⟨hc,by simpa using hI,mj⟩
theorem xb2{f:FuncId}{args:List AV}{r q:AV}(hr:APure prog f args r)(h:r=q):APure prog f args q:=h▸hr
theorem jam(p:Plc)(k:ig)(hv:jy p=true):APure prog 82 [.agg p.c,S k] (I (y6 p.parts k (p.parts.length - 1))):=by
 have jm:=qdb hv;obtain⟨ver,l⟩:=p;obtain⟨R,hR⟩:∃R,y6 l k (l.length - 1)=R:=⟨_,rfl⟩
 simp only at jm|-;rw[hR];refine lz func82 rfl ae ac rfl ?_;intro E h hN hh hu hb;rw[ntmps82]at hN;refine jo _ _ _ ?_;simp[go_sem,Plc.c]at hb;simp-dsimp[go_sem,hN,Plc.c];refine jeh (jo _ _ _ ?_);simp-dsimp[go_sem,hN];refine iv (xb2 (qv0 ⟨ver,l⟩) (congrArg Bo hv)) ?_;simp-dsimp[go_sem,hN];refine xvc ?_;have hw0:IntKind.i64.wrap ((l.length:Int) - 1)=((l.length - 1:Nat):Int):=cf;simp-dsimp[go_sem,hN,hw0];refine qvb (α:=Nat) (λi=>i<=l.length - 1/\y6 l k i=R) (λi=>⟨[(1,S k),(2,.ptr h.length 0),(5,I 0),(6,I i)],h++[.cells [I ver,.slice (l.map Part.c)]]⟩) (λi=>i) (l.length - 1) ⟨cn _,hR⟩ (Wk.mk ai ac am ag) ?_;rintro i ⟨hi,hI⟩;simp-dsimp[go_sem,hN];refine ii ?_ ?_<;>intro hc<;>simp at hc
 rotate_left
 .have:i=0:=aa;subst this;rw[y6]at hI;subst hI;simp-dsimp[go_sem,hN]
 obtain⟨j,rfl⟩:∃j,i=j+1:=⟨i - 1,aa⟩
 have hj:j+1<l.length:=aa;rw[y6,cu hj]at hI;simp only at hI;simp-dsimp[go_sem,hN,hj];refine⟨aa,?_⟩;obtain⟨F,hF⟩:∃F,F=l[j+1].frm:=⟨_,rfl⟩
 rw[<-hF]at hI|-;refine qvb (α:=Nat) (λq=>q<=k.size/\q<=F.size/\(bl k).take q=(bl F).take q) (λq=>⟨[(1,S k),(2,.ptr h.length 0),(5,I 0),(6,I (j+1:Nat)),(7,S F),(8,I q)],h++[.cells [I ver,.slice (l.map Part.c)]]⟩) (λq=>F.size - q) 0 ⟨aa,aa,ac⟩ (Wk.mk ai ac am ag) ?_;rintro q ⟨q1,q2,q3⟩;have hwj:IntKind.i64.wrap (j:Int)=(j:Int):=qed aa aa;have hwq:q<F.size->q<k.size->IntKind.i64.wrap ((q:Int)+1)=(q:Int)+1:=λ_ _=>qed aa aa;simp-dsimp[go_sem,hN];rcases ei q F.size with f1|f1
 rotate_left
 .have e1:(q:Int)=F.size:=aa;refine jt 16 mixed ae ae ?_;simp-dsimp[go_sem,hN,e1];rw[jjq q3 aa,if_neg ac]at hI;omega
 have e1:¬(q:Int)=F.size:=aa;rcases ei q k.size with g1|g1
 rotate_left
 .have e2:¬(q:Int)<k.size:=aa;have e3:(q:Int)=k.size:=aa;refine jt 16 mixed ae ae ?_;simp-dsimp[go_sem,hN,e1,e2];rw[jji q3 aa f1,if_pos rfl]at hI;refine jt 11 mixed ae ae ?_;simp-dsimp[go_sem,hN,e1,e3,hwj];exact⟨j,⟨aa,hI⟩,aa,(Wk.mk ai ac am ag)⟩
 have e2:(q:Int)<k.size:=aa;refine jt 16 mixed ae ae ?_;simp-dsimp[go_sem,hN,e1,e2,f1,g1];refine ii ?_ ?_<;>intro hg<;>simp at hg
 .simp-dsimp[go_sem,hN];rw[jab q3 g1 f1 (by simpa[UInt8.lt_iff_toNat_lt]using hg),if_neg ac]at hI;omega
 have e3:¬(q:Int)=k.size:=aa;simp-dsimp[go_sem,hN];refine jt 11 mixed ae ae ?_;simp-dsimp[go_sem,hN,e1,e3,f1,g1];refine ii ?_ ?_<;>intro qe<;>simp at qe
 .rw[jhc q3 g1 f1 (by simpa[UInt8.lt_iff_toNat_lt]using qe),if_pos rfl]at hI;simp-dsimp[go_sem,hN,hwj];exact⟨j,⟨aa,hI⟩,aa,(Wk.mk ai ac am ag)⟩
 .have hbq:qq k q=qq F q:=UInt8.toNat_inj.1 aa;simp-dsimp[go_sem,hN,hwq f1 g1];exact⟨q+1,⟨aa,aa,xz9 g1 f1 q3 hbq⟩,aa,(Wk.mk ai ac am ag)⟩
theorem xfg(p:Plc)(k:ig)(hv:jy p=true):APure prog 48 [.agg p.c,S k] (I (ly p k)):=by
 have jm:=qdb hv;have hi:=xfw p.parts k (p.parts.length - 1);have u7:=jam p k hv;unfold ly;rw[if_neg (show ¬jy p=false by simp[hv])];obtain⟨ver,l⟩:=p;simp only at jm hi u7|-;obtain⟨i,hR⟩:∃i,y6 l k (l.length - 1)=i:=⟨_,rfl⟩
 rw[hR]at hi u7|-;have ou:i<l.length:=aa;rw[cu ou];simp only;refine lz func48 rfl ae ac rfl ?_;intro E h hN hh hu hb;rw[ntmps48]at hN;refine jo _ _ _ ?_;simp[go_sem,Plc.c]at hb;simp-dsimp[go_sem,hN,Plc.c];refine iv u7 ?_;have hni:¬(i:Int)<0:=aa;simp-dsimp[go_sem,hN,ou,hni];refine ii ?_ ?_<;>intro hc<;>simp at hc
 .rw[if_pos hc];simp-dsimp[go_sem,hN]
 .rw[if_neg (λg=>by have:=hc g.1;rw[g.2]at this;cases this)];simp-dsimp[go_sem,hN]
end Go.Proofs.YtolejdhnnchfpaaGreatDoor
