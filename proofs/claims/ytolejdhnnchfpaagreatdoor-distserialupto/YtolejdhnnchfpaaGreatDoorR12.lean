/- Part 12 of a proof. -/
import Derived.Test.YtolejdhnnchfpaaGreatDoorProg
import Derived.KernelRfl
import Derived.Shelf.Spec.SlicesInsertGrow
import Derived.Test.YtolejdhnnchfpaaGreatDoorR10
set_option linter.all false
set_option maxRecDepth 100000
set_option maxHeartbeats 4000000
namespace Go.Proofs.YtolejdhnnchfpaaGreatDoor
open Go Go.Abs Go.Cw Go.Proofs.Tryz
@[simp] theorem tk1:nj prog 1=.func/\oh prog 1=1/\o8 prog 1=[.val .nilFunc]/\pn prog 1=8/\nj prog 2=.int .i64/\oh prog 2=1:=aj
@[simp] theorem tz2:o8 prog 2=[.val (.int .i64 0)]/\pn prog 2=8/\nj prog 3=.int .i64/\oh prog 3=1/\o8 prog 3=[.val (.int .i64 0)]/\pn prog 3=8:=aj
@[simp] theorem tk4:nj prog 4=.bool/\oh prog 4=1/\o8 prog 4=[.val (.bool false)]/\pn prog 4=1/\nj prog 5=.int .u8/\oh prog 5=1:=aj
@[simp] theorem tz5:o8 prog 5=[.val (.int .u8 0)]/\pn prog 5=1/\nj prog 9=.string/\oh prog 9=1/\o8 prog 9=[.val (.string ⟨#[]⟩)]/\pn prog 9=16:=aj
@[simp] theorem qv6:nj prog 20=.iface/\oh prog 20=1/\o8 prog 20=[.val .nilIface]/\pn prog 20=16/\nj prog 21=.int .i32/\oh prog 21=1:=aj
@[simp] theorem qui:o8 prog 21=[.val (.int .i32 0)]/\pn prog 21=4/\nj prog 22=.slice 61 5/\oh prog 22=1/\o8 prog 22=[.nils]/\pn prog 22=24:=aj
@[simp] theorem qwz:nj prog 24=.struct [(0,1),(1,1)]/\oh prog 24=2/\o8 prog 24=[.val (.int .i64 0),.nils]/\pn prog 24=32/\nj prog 25=.slice 53 2/\oh prog 25=1:=aj
@[simp] theorem quz:o8 prog 25=[.nils]/\pn prog 25=24/\nj prog 28=.slice 59 4/\oh prog 28=1/\o8 prog 28=[.nils]/\pn prog 28=24:=aj
@[simp] theorem qwh:nj prog 32=.slice 72 3/\oh prog 32=1/\o8 prog 32=[.nils]/\pn prog 32=24/\nj prog 33=.slice 78 7/\oh prog 33=1:=aj
@[simp] theorem qtp:o8 prog 33=[.nils]/\pn prog 33=24/\nj prog 34=.slice 3 1/\oh prog 34=1/\o8 prog 34=[.nils]/\pn prog 34=24:=aj
@[simp] theorem qw3:nj prog 35=.slice 82 8/\oh prog 35=1/\o8 prog 35=[.nils]/\pn prog 35=24/\nj prog 42=.int .i64/\oh prog 42=1:=aj
@[simp] theorem qvj:o8 prog 42=[.val (.int .i64 0)]/\pn prog 42=8/\nj prog 53=.struct [(0,1),(1,1)]/\oh prog 53=2/\o8 prog 53=[.val (.int .i64 0),.nils]/\pn prog 53=32:=aj
@[simp] theorem qwc:nj prog 57=.struct [(0,1),(1,1),(2,1)]/\oh prog 57=3/\o8 prog 57=[.val (.int .i64 0),.val (.int .i64 0),.val (.string ⟨#[]⟩)]:=aj
@[simp] theorem quf:jS prog 57=[.int .i64,.int .i64,.string]:=ah
@[simp] theorem qty:pn prog 57=32/\nj prog 59=.struct [(0,1),(1,3)]/\oh prog 59=4/\o8 prog 59=[.val (.string ⟨#[]⟩),.val (.int .i64 0),.val (.int .i64 0),.val (.string ⟨#[]⟩)]:=aj
@[simp] theorem quq:jS prog 59=[.string,.int .i64,.int .i64,.string]:=ah
@[simp] theorem qtv:pn prog 59=48/\nj prog 61=.struct [(0,1),(1,1),(2,1),(3,1),(4,1)]/\oh prog 61=5/\o8 prog 61=[.val (.int .i64 0),.val (.string ⟨#[]⟩),.val (.int .i64 0),.val (.int .i64 0),.val (.string ⟨#[]⟩)]:=aj
@[simp] theorem qvk:jS prog 61=[.int .i64,.string,.int .i64,.int .i64,.string]:=ah
@[simp] theorem qt5:pn prog 61=56/\nj prog 62=.slice 64 4/\oh prog 62=1/\o8 prog 62=[.nils]/\pn prog 62=24/\nj prog 64=.struct [(0,1),(1,1),(2,1),(3,1)]:=aj
@[simp] theorem quy:oh prog 64=4/\o8 prog 64=[.val (.int .i64 0),.val (.int .i64 0),.val (.string ⟨#[]⟩),.nils]/\pn prog 64=56/\nj prog 66=.struct [(0,1),(1,1)]/\oh prog 66=2/\o8 prog 66=[.val (.string ⟨#[]⟩),.val (.int .i64 0)]:=aj
@[simp] theorem qwk:jS prog 66=[.string,.int .i64]:=ah
@[simp] theorem qw7:pn prog 66=24/\nj prog 67=.slice 66 2/\oh prog 67=1/\o8 prog 67=[.nils]/\pn prog 67=24/\nj prog 68=.slice 70 13:=aj
@[simp] theorem qwv:oh prog 68=1/\o8 prog 68=[.nils]/\pn prog 68=24/\nj prog 70=.struct [(0,1),(1,1),(2,1),(3,4),(7,4),(11,1),(12,1)]/\oh prog 70=13/\o8 prog 70=[.val (.int .i64 0),.val (.string ⟨#[]⟩),.val (.int .i64 0),.val (.int .i64 0),.val (.int .i64 0),.val (.string ⟨#[]⟩),.nils,.val (.int .i64 0),.val (.int .i64 0),.val (.string ⟨#[]⟩),.nils,.nils,.nils]:=aj
@[simp] theorem qt4:pn prog 70=192/\nj prog 72=.struct [(0,1),(1,1),(2,1)]/\oh prog 72=3/\o8 prog 72=[.val (.string ⟨#[]⟩),.nils,.nils]/\pn prog 72=64/\nj prog 73=.slice 57 3:=aj
@[simp] theorem qtl:oh prog 73=1/\o8 prog 73=[.nils]/\pn prog 73=24/\nj prog 74=.slice 9 1/\oh prog 74=1/\o8 prog 74=[.nils]:=aj
@[simp] theorem qtq:pn prog 74=24/\nj prog 76=.struct [(0,1),(1,1),(2,1)]/\oh prog 76=3/\o8 prog 76=[.val (.bool false),.nils,.nils]/\pn prog 76=56/\nj prog 78=.struct [(0,1),(1,1),(2,1),(3,3),(6,1)]:=aj
@[simp] theorem qtm:oh prog 78=7/\o8 prog 78=[.val (.int .i64 0),.val (.string ⟨#[]⟩),.nils,.val (.bool false),.nils,.nils,.val (.int .i64 0)]/\pn prog 78=112/\nj prog 80=.struct [(0,1),(1,1),(2,1)]/\oh prog 80=3/\o8 prog 80=[.val (.int .i64 0),.val (.int .i64 0),.nils]:=aj
@[simp] theorem qtd:pn prog 80=40/\nj prog 82=.struct [(0,3),(3,1),(4,1),(5,1),(6,1),(7,1)]/\oh prog 82=8/\o8 prog 82=[.val (.int .i64 0),.val (.int .i64 0),.nils,.nils,.nils,.nils,.val (.string ⟨#[]⟩),.val (.int .i64 0)]/\pn prog 82=136/\nj prog 83=.ptr:=aj
@[simp] theorem qus:oh prog 83=1/\o8 prog 83=[.val (.pointer none)]/\pn prog 83=8/\nj prog 85=.slice 89 3/\oh prog 85=1/\o8 prog 85=[.nils]:=aj
@[simp] theorem qt0:pn prog 85=24/\nj prog 87=.func/\oh prog 87=1/\o8 prog 87=[.val .nilFunc]/\pn prog 87=8/\nj prog 89=.struct [(0,1),(1,1),(2,1)]:=aj
@[simp] theorem quh:oh prog 89=3/\o8 prog 89=[.val .nilFunc,.val (.int .i64 0),.val (.int .i64 0)]/\pn prog 89=24/\nj prog 91=.slice 76 3/\oh prog 91=1/\o8 prog 91=[.nils]:=aj
@[simp] theorem qww:pn prog 91=24/\nj prog 92=.slice 34 1/\oh prog 92=1/\o8 prog 92=[.nils]/\pn prog 92=24/\nj prog 93=.slice 97 1:=aj
@[simp] theorem qve:oh prog 93=1/\o8 prog 93=[.nils]/\pn prog 93=24/\nj prog 94=.slice 162 5/\oh prog 94=1/\o8 prog 94=[.nils]:=aj
@[simp] theorem qwx:pn prog 94=24/\nj prog 96=.struct [(0,1),(1,2),(3,1),(4,1),(5,1),(6,1),(7,1),(8,1),(9,1)]/\oh prog 96=10/\o8 prog 96=[.nils,.val (.int .i64 0),.nils,.nils,.nils,.nils,.nils,.nils,.nils,.nils]/\pn prog 96=224/\nj prog 97=.ptr:=aj
@[simp] theorem qs1:oh prog 97=1/\o8 prog 97=[.val (.pointer none)]/\pn prog 97=8/\nj prog 98=.slice 152 2/\oh prog 98=1/\o8 prog 98=[.nils]:=aj
@[simp] theorem qwb:pn prog 98=24/\nj prog 99=.slice 192 2/\oh prog 99=1/\o8 prog 99=[.nils]/\pn prog 99=24/\nj prog 101=.struct [(0,1),(1,1)]:=aj
@[simp] theorem quw:oh prog 101=2/\o8 prog 101=[.nils,.nils]/\pn prog 101=48/\nj prog 102=.slice 4 1/\oh prog 102=1/\o8 prog 102=[.nils]:=aj
@[simp] theorem qvi:pn prog 102=24/\nj prog 104=.struct [(0,2),(2,2),(4,1),(5,1),(6,1)]/\oh prog 104=7/\o8 prog 104=[.val (.int .i64 0),.nils,.nils,.nils,.nils,.nils,.nils]/\pn prog 104=152/\nj prog 116=.func:=aj
@[simp] theorem quj:oh prog 116=1/\o8 prog 116=[.val .nilFunc]/\pn prog 116=8/\nj prog 130=.func/\oh prog 130=1/\o8 prog 130=[.val .nilFunc]:=aj
@[simp] theorem qvc:pn prog 130=8/\nj prog 132=.func/\oh prog 132=1/\o8 prog 132=[.val .nilFunc]/\pn prog 132=8/\nj prog 133=.func:=aj
@[simp] theorem qwa:oh prog 133=1/\o8 prog 133=[.val .nilFunc]/\pn prog 133=8/\nj prog 138=.int .u64/\oh prog 138=1/\o8 prog 138=[.val (.int .u64 0)]:=aj
@[simp] theorem qwg:pn prog 138=8/\nj prog 140=.func/\oh prog 140=1/\o8 prog 140=[.val .nilFunc]/\pn prog 140=8/\nj prog 146=.func:=aj
@[simp] theorem qwi:oh prog 146=1/\o8 prog 146=[.val .nilFunc]/\pn prog 146=8/\nj prog 152=.struct [(0,1),(1,1)]/\oh prog 152=2/\o8 prog 152=[.val (.int .i64 0),.val (.bool false)]:=aj
@[simp] theorem qvy:jS prog 152=[.int .i64,.bool]:=ah
@[simp] theorem qw6:pn prog 152=16/\nj prog 155=.ptr/\oh prog 155=1/\o8 prog 155=[.val (.pointer none)]/\pn prog 155=8/\nj prog 162=.struct [(0,1),(1,1),(2,1),(3,1),(4,1)]:=aj
@[simp] theorem qv4:oh prog 162=5/\o8 prog 162=[.val (.int .i64 0),.val (.int .i64 0),.val (.int .i64 0),.nils,.nils]/\pn prog 162=72/\nj prog 165=.func/\oh prog 165=1/\o8 prog 165=[.val .nilFunc]:=aj
@[simp] theorem qwp:pn prog 165=8/\nj prog 174=.int .i64/\oh prog 174=1/\o8 prog 174=[.val (.int .i64 0)]/\pn prog 174=8/\nj prog 183=.int .u32:=aj
@[simp] theorem qto:oh prog 183=1/\o8 prog 183=[.val (.int .u32 0)]/\pn prog 183=4/\nj prog 185=.int .u64/\oh prog 185=1/\o8 prog 185=[.val (.int .u64 0)]:=aj
@[simp] theorem qw1:pn prog 185=8/\nj prog 187=.func/\oh prog 187=1/\o8 prog 187=[.val .nilFunc]/\pn prog 187=8/\nj prog 188=.slice 74 1:=aj
@[simp] theorem qvl:oh prog 188=1/\o8 prog 188=[.nils]/\pn prog 188=24/\nj prog 192=.struct [(0,1),(1,1)]/\oh prog 192=2/\o8 prog 192=[.val (.string ⟨#[]⟩),.nils]:=aj
@[simp] theorem qvp:pn prog 192=40/\nj prog 194=.func/\oh prog 194=1/\o8 prog 194=[.val .nilFunc]/\pn prog 194=8/\nj prog 197=.func:=aj
@[simp] theorem qu8:oh prog 197=1/\o8 prog 197=[.val .nilFunc]/\pn prog 197=8/\nj prog 211=.struct [(0,1),(1,3),(4,1),(5,1),(6,8)]/\oh prog 211=14/\o8 prog 211=[.nils,.val (.bool false),.nils,.nils,.nils,.nils,.val (.int .i64 0),.val (.int .i64 0),.nils,.nils,.nils,.nils,.val (.string ⟨#[]⟩),.val (.int .i64 0)]:=aj
@[simp] theorem qum:pn prog 211=264/\nj prog 214=.int .u64/\oh prog 214=1/\o8 prog 214=[.val (.int .u64 0)]/\pn prog 214=8/\nj prog 218=.ptr:=aj
@[simp] theorem qu3:oh prog 218=1/\o8 prog 218=[.val (.pointer none)]/\pn prog 218=8/\nj prog 224=.func/\oh prog 224=1/\o8 prog 224=[.val .nilFunc]:=aj
@[simp] theorem qv7:pn prog 224=8/\nj prog 225=.ptr/\oh prog 225=1/\o8 prog 225=[.val (.pointer none)]/\pn prog 225=8/\nj prog 227=.map 9 57:=aj
@[simp] theorem qt1:oh prog 227=1/\o8 prog 227=[.val (.map none)]/\pn prog 227=8/\nj prog 229=.struct [(0,1),(1,3),(4,1),(5,1),(6,8)]/\oh prog 229=14/\o8 prog 229=[.nils,.val (.bool false),.nils,.nils,.val (.map none),.val (.map none),.val (.int .i64 0),.val (.int .i64 0),.nils,.nils,.nils,.nils,.val (.string ⟨#[]⟩),.val (.int .i64 0)]:=aj
@[simp] theorem qt7:pn prog 229=232/\nj prog 232=.struct [(0,3),(3,1)]/\oh prog 232=4/\o8 prog 232=[.val (.int .i64 0),.val (.int .i64 0),.nils,.val (.string ⟨#[]⟩)]/\pn prog 232=56/\nj prog 237=.struct [(0,1),(1,1)]:=aj
@[simp] theorem qul:oh prog 237=2/\o8 prog 237=[.nils,.nils]/\pn prog 237=48/\nj prog 242=.struct [(0,1),(1,1),(2,1),(3,1)]/\oh prog 242=4/\o8 prog 242=[.val (.int .i64 0),.val (.int .i64 0),.val (.int .i64 0),.val (.int .i64 0)]:=aj
@[simp] theorem qv9:jS prog 242=[.int .i64,.int .i64,.int .i64,.int .i64]:=ah
@[simp] theorem qud:pn prog 242=32/\nj prog 253=.array 4 3 1/\oh prog 253=4/\o8 prog 253=[.val (.int .i64 0),.val (.int .i64 0),.val (.int .i64 0),.val (.int .i64 0)]/\pn prog 253=32/\nj prog 257=.slice 260 20:=aj
@[simp] theorem qvv:oh prog 257=1/\o8 prog 257=[.nils]/\pn prog 257=24/\nj prog 260=.struct [(0,1),(1,13),(14,1),(15,4),(19,1)]/\oh prog 260=20/\o8 prog 260=[.val (.bool false),.val (.int .i64 0),.val (.string ⟨#[]⟩),.val (.int .i64 0),.val (.int .i64 0),.val (.int .i64 0),.val (.string ⟨#[]⟩),.nils,.val (.int .i64 0),.val (.int .i64 0),.val (.string ⟨#[]⟩),.nils,.nils,.nils,.val (.int .i64 0),.val (.int .i64 0),.val (.int .i64 0),.val (.string ⟨#[]⟩),.nils,.val (.bool false)]:=aj
@[simp] theorem qu9:pn prog 260=272/\nj prog 276=.map 9 3/\oh prog 276=1/\o8 prog 276=[.val (.map none)]/\pn prog 276=8/\nj prog 290=.func:=aj
@[simp] theorem qu5:oh prog 290=1/\o8 prog 290=[.val .nilFunc]/\pn prog 290=8/\nj prog 308=.ptr/\oh prog 308=1/\o8 prog 308=[.val (.pointer none)]:=aj
@[simp] theorem qur:pn prog 308=8/\nj prog 309=.map 9 4/\oh prog 309=1/\o8 prog 309=[.val (.map none)]/\pn prog 309=8/\nj prog 311=.struct [(0,1),(1,1),(2,1)]:=aj
@[simp] theorem qu4:oh prog 311=3/\o8 prog 311=[.val (.map none),.val (.map none),.val (.map none)]/\pn prog 311=24/\nj prog 329=.func/\oh prog 329=1/\o8 prog 329=[.val .nilFunc]:=aj
@[simp] theorem qs2:pn prog 329=8/\nj prog 330=.func/\oh prog 330=1/\o8 prog 330=[.val .nilFunc]/\pn prog 330=8/\nj prog 350=.func:=aj
@[simp] theorem qu6:oh prog 350=1/\o8 prog 350=[.val .nilFunc]/\pn prog 350=8/\nj prog 351=.ptr/\oh prog 351=1/\o8 prog 351=[.val (.pointer none)]:=aj
@[simp] theorem qv1:pn prog 351=8/\nj prog 353=.struct [(0,1),(1,1),(2,1)]/\oh prog 353=3/\o8 prog 353=[.val (.int .i64 0),.val .nilFunc,.val .nilFunc]/\pn prog 353=24/\nj prog 356=.struct [(0,1),(1,1),(2,1),(3,1),(4,1),(5,1)]:=aj
@[simp] theorem qw0:oh prog 356=6/\o8 prog 356=[.val (.bool false),.val (.bool false),.val (.bool false),.val (.bool false),.val (.bool false),.val (.bool false)]:=aj
@[simp] theorem qwm:jS prog 356=[.bool,.bool,.bool,.bool,.bool,.bool]:=ah
@[simp] theorem qws:pn prog 356=6/\nj prog 365=.slice 5 1/\oh prog 365=1/\o8 prog 365=[.nils]/\pn prog 365=24/\nj prog 370=.struct [(0,3),(3,3)]:=aj
@[simp] theorem qtg:oh prog 370=6/\o8 prog 370=[.val (.int .i64 0),.val (.int .i64 0),.val (.string ⟨#[]⟩),.val (.int .i64 0),.val (.int .i64 0),.val (.string ⟨#[]⟩)]:=aj
@[simp] theorem qtb:jS prog 370=[.int .i64,.int .i64,.string,.int .i64,.int .i64,.string]:=ah
@[simp] theorem qta:pn prog 370=64/\nj prog 373=.array 24 5 1/\oh prog 373=24/\o8 prog 373=[.val (.int .u8 0),.val (.int .u8 0),.val (.int .u8 0),.val (.int .u8 0),.val (.int .u8 0),.val (.int .u8 0),.val (.int .u8 0),.val (.int .u8 0),.val (.int .u8 0),.val (.int .u8 0),.val (.int .u8 0),.val (.int .u8 0),.val (.int .u8 0),.val (.int .u8 0),.val (.int .u8 0),.val (.int .u8 0),.val (.int .u8 0),.val (.int .u8 0),.val (.int .u8 0),.val (.int .u8 0),.val (.int .u8 0),.val (.int .u8 0),.val (.int .u8 0),.val (.int .u8 0)]/\pn prog 373=24/\nj prog 380=.array 20 185 1:=aj
@[simp] theorem qth:oh prog 380=20/\o8 prog 380=[.val (.int .u64 0),.val (.int .u64 0),.val (.int .u64 0),.val (.int .u64 0),.val (.int .u64 0),.val (.int .u64 0),.val (.int .u64 0),.val (.int .u64 0),.val (.int .u64 0),.val (.int .u64 0),.val (.int .u64 0),.val (.int .u64 0),.val (.int .u64 0),.val (.int .u64 0),.val (.int .u64 0),.val (.int .u64 0),.val (.int .u64 0),.val (.int .u64 0),.val (.int .u64 0),.val (.int .u64 0)]/\pn prog 380=160/\nj prog 383=.array 32 5 1/\oh prog 383=32/\o8 prog 383=[.val (.int .u8 0),.val (.int .u8 0),.val (.int .u8 0),.val (.int .u8 0),.val (.int .u8 0),.val (.int .u8 0),.val (.int .u8 0),.val (.int .u8 0),.val (.int .u8 0),.val (.int .u8 0),.val (.int .u8 0),.val (.int .u8 0),.val (.int .u8 0),.val (.int .u8 0),.val (.int .u8 0),.val (.int .u8 0),.val (.int .u8 0),.val (.int .u8 0),.val (.int .u8 0),.val (.int .u8 0),.val (.int .u8 0),.val (.int .u8 0),.val (.int .u8 0),.val (.int .u8 0),.val (.int .u8 0),.val (.int .u8 0),.val (.int .u8 0),.val (.int .u8 0),.val (.int .u8 0),.val (.int .u8 0),.val (.int .u8 0),.val (.int .u8 0)]:=aj
@[simp] theorem qvr:pn prog 383=32/\nj prog 384=.array 64 5 1/\oh prog 384=64/\o8 prog 384=[.val (.int .u8 0),.val (.int .u8 0),.val (.int .u8 0),.val (.int .u8 0),.val (.int .u8 0),.val (.int .u8 0),.val (.int .u8 0),.val (.int .u8 0),.val (.int .u8 0),.val (.int .u8 0),.val (.int .u8 0),.val (.int .u8 0),.val (.int .u8 0),.val (.int .u8 0),.val (.int .u8 0),.val (.int .u8 0),.val (.int .u8 0),.val (.int .u8 0),.val (.int .u8 0),.val (.int .u8 0),.val (.int .u8 0),.val (.int .u8 0),.val (.int .u8 0),.val (.int .u8 0),.val (.int .u8 0),.val (.int .u8 0),.val (.int .u8 0),.val (.int .u8 0),.val (.int .u8 0),.val (.int .u8 0),.val (.int .u8 0),.val (.int .u8 0),.val (.int .u8 0),.val (.int .u8 0),.val (.int .u8 0),.val (.int .u8 0),.val (.int .u8 0),.val (.int .u8 0),.val (.int .u8 0),.val (.int .u8 0),.val (.int .u8 0),.val (.int .u8 0),.val (.int .u8 0),.val (.int .u8 0),.val (.int .u8 0),.val (.int .u8 0),.val (.int .u8 0),.val (.int .u8 0),.val (.int .u8 0),.val (.int .u8 0),.val (.int .u8 0),.val (.int .u8 0),.val (.int .u8 0),.val (.int .u8 0),.val (.int .u8 0),.val (.int .u8 0),.val (.int .u8 0),.val (.int .u8 0),.val (.int .u8 0),.val (.int .u8 0),.val (.int .u8 0),.val (.int .u8 0),.val (.int .u8 0),.val (.int .u8 0)]/\pn prog 384=64:=aj
def mixed:prog.follows .mixedOrders=true:=ah
def pf{E:Ent}{id:Nat}(m:Nat){l:List Oper}{hu:AExit->Env->Prop}{e:Env}(h:xR prog E.N [] (l.take m) e [] λR e1=>iB prog E.N hu ((l.take m).map (·.dst)) (l.drop m) ⟨e1.t,xy R e1.h⟩)(hB:(decide (m<=l.length)&&uS (l.take m)&&tH m l)=true:=by kernel_rfl)(hq:((l.take m).all λo=>!rE o.op)=true:=by kernel_rfl):AWp prog E (.region id l.toArray true) hu e:=qru m mixed hB hq h
def Yi(s:na):APure prog 124 [my s] (Bo (tv s)):=by
 refine ry func124 ntmps124 λE h B hh Q hb=>?_;refine M ?_;refine po s.size (λn=>ue iN ((bl s).drop n)=ue iN (bl s)) (λn=>⟨[(0,my s),(3,I n)],h⟩) Z ng ?_;intro n hn z;have hw:=oi hn hb;refine M ?_;refine og ?_ ?_<;>intro hc<;>try simp at hc
 .rw[lJ hc,ue]at z;refine Qab ?_;refine og (λhg=>?_) (λhg=>?_)
  .refine M ?_;grind[tv,iN]
  exact Qec
 exact Qed
def Um(k n:Int)(s:na):APure prog 80 [.agg [I k,I n,my s]] (Bo (dY k n s)):=by
 refine od func80 ntmps80 λE h B hh Q hb=>?_;refine M ?_;refine og ?_ ?_<;>intro L<;>try simp at L
 all_goals simp-dsimp[go_sem,B,dY,L]
 refine og ?_ ?_<;>intro O<;>try simp at O
 all_goals simp-dsimp[go_sem,B,dY,L,O]
 refine og ?_ ?_<;>intro U<;>try simp at U
 all_goals simp-dsimp[go_sem,B,dY,L,O,U]
 refine pz (Yi s) Z ?_;simp-dsimp[go_sem,B,dY,L,O,U]
def qlp(b:UInt8):APure prog 123 [U8 b.toNat] (Bo (xX b)):=by refine od func123 ntmps123 λE h B hh Q hb=>?_;simp-dsimp[go_sem,B,xX];omega
def Vm(s:na)(f:FuncId)(p:UInt8->Bool)(hp:∀b:UInt8,APure prog f [U8 b.toNat] (Bo (p b))):APure prog 122 [my s,.fn (.func f) [] []] (Bo (decide ((s.size:Int)<=24)&&ue p (bl s))):=by
 refine ry func122 ntmps122 λE h B hh Q hb=>?_;refine M ?_;refine og ?_ ?_<;>intro L<;>try simp at L
 all_goals simp-dsimp[go_sem,B,L]
 .omega
 refine po s.size (λn=>ue p ((bl s).drop n)=ue p (bl s)) (λn=>⟨[(0,my s),(1,.fn (.func f) [] []),(10,I s.size),(11,I n)],h⟩) Z ng ?_;intro n hn z;have hw:=oi hn hb;refine M ?_;refine og ?_ ?_<;>intro hc<;>try simp at hc
 .rw[lJ hc,ue]at z;refine Qab ?_;refine nc (hp _) (M ?_);refine og ?_ ?_<;>intro hg<;>try simp at hg
  .exact Qee
  exact Qef
 rw[vA J,ue]at z;simp-dsimp[go_sem,B,L,<-z]
def CM(s:na):APure prog 79 [my s] (Bo (zp s)):=by refine od func79 ntmps79 λE h B hh Q hb=>?_;refine M ?_;refine pz (Vm s _ xX qlp) Z ?_;simp-dsimp[go_sem,B,zp,ma]
def Nh(l:List na):APure prog 205 [.slice (l.map ny)] (Bo (cX none l&&decide ((l.length:Int)<=64))):=by
 refine ry func205 ntmps205 λE h B hh Q hb=>?_;refine M ?_;refine po l.length (λn=>cX (zk l n) (l.drop n)=cX none l) (λn=>⟨[(0,.slice (l.map ny)),(5,.slice (l.map ny)),(6,I l.length),(7,I n)],h⟩) fj ng ?_;intro n hn z;have hw:=oi hn hb.1;refine M ?_;refine og ?_ ?_<;>intro hc<;>try simp at hc
 .rw[ov hc,cX]at z;refine Qab ?_;refine nc (CM _) ?_;cases n with
  |zero =>
   refine M ?_;refine og ?_ ?_<;>intro hg<;>try simp at hg
   .exact Qee
   exact Qeg
  |succ m =>
   have hm:m<l.length:=J;have uc:=uG (kb hm) hb.1;simp at hw;simp-dsimp[go_sem,B,uc,hm];refine og ?_ ?_<;>intro hg<;>try simp at hg
   .exact Qeh
   exact Qei
 exact Qej
def qm9(a:Bool)(r w:List na):APure prog 176 [.agg [Bo a,.slice (r.map ny),.slice (w.map ny)]] (Bo (vi a r w)):=by
 refine od func176 ntmps176 λE h B hh Q hb=>?_;refine M ?_;refine og ?_ ?_<;>intro L<;>try simp at L
 all_goals simp-dsimp[go_sem,B,vi,L]
 refine nc (Nh r) (M ?_);refine pz (Nh w) Z ?_;simp-dsimp[go_sem,B,vi,L]
def QB(p:Pr):APure prog 47 [.agg p.c] (Bo (decide (p.v.k=0))):=by refine od func47 ntmps47 λE h B hh Q hb=>?_;exact Qek
def Ul(l:List Pr)(f:FuncId)(p:Pr->Bool)(hp:∀x:Pr,APure prog f [.agg x.c] (Bo (p x))):APure prog 81 [.slice (l.map Pr.c),.fn (.func f) [] []] (I (ul p l)):=by
 refine ry func81 ntmps81 λE h B hh Q hb=>?_;refine M ?_;refine po l.length (λn=>vy p n (l.drop n)=ul p l) (λn=>⟨[(0,.slice (l.map Pr.c)),(1,.fn (.func f) [] []),(7,I l.length),(8,I n)],h⟩) e6 ng ?_;intro n hn z;have hw:=oi hn hb.1;refine M ?_;refine og ?_ ?_<;>intro hc<;>try simp at hc
 .rw[ov hc,vy]at z;refine Qab ?_;refine nc (hp l[n]) (M ?_);refine og ?_ ?_<;>intro hg<;>try simp at hg
  .exact Qee
  exact Qef
 exact Qel
def T2(l:List Pr)(f:FuncId)(p:Pr->Bool)(hp:∀x:Pr,APure prog f [.agg x.c] (Bo (p x))):APure prog 46 [.slice (l.map Pr.c),.fn (.func f) [] []] (Bo (ut p l)):=by refine od func46 ntmps46 λE h B hh Q hb=>?_;refine M ?_;refine nc (Ul l f p hp) ?_;simp-dsimp[go_sem,B,KZ]
def PN(l:List Pr):APure prog 45 [.slice (l.map Pr.c)] (Bo (wX none l)):=by
 refine ry func45 ntmps45 λE h B hh Q hb=>?_;refine M ?_;refine po l.length (λn=>wX ((zk l n).map Pr.key) (l.drop n)=wX none l) (λn=>⟨[(0,.slice (l.map Pr.c)),(5,.slice (l.map Pr.c)),(6,I l.length),(7,I n)],h⟩) fj ng ?_;intro n hn z;have hw:=oi hn hb.1;refine M ?_;refine og ?_ ?_<;>intro hc<;>try simp at hc
 .rw[ov hc,wX]at z;refine Qab ?_;refine pf 22 (M ?_);refine p7 (CM _) Z (M ?_);refine p7 (Um _ _ _) Z ?_;cases n with
  |zero =>
   refine M ?_;refine og ?_ ?_<;>intro hg<;>try simp at hg
   .exact Qee
   exact Qeg
  |succ m =>
   have hm:m<l.length:=J;have uc:=uG (kb hm) hb.1;simp at hw;simp-dsimp[go_sem,B,uc,hm];refine og ?_ ?_<;>intro hg<;>try simp at hg
   .exact Qeh
   exact Qei
 rw[gq J,wX]at z;exact Qem
def zW(l:List Pr):APure prog 25 [.slice (l.map Pr.c)] (Bo (ph l)):=by refine od func25 ntmps25 λE h B hh Q hb=>?_;refine M ?_;refine nc (PN l) (M ?_);refine pz (T2 l _ _ QB) Z ?_;simp-dsimp[go_sem,B,ph]
def Ya(l:List Pr)(k:na):APure prog 330 [.slice (l.map Pr.c),my k] (.agg (pp l k).c):=by
 refine ry func330 ntmps330 λE h B hh Q hb=>?_;refine M ?_;refine po l.length (λn=>pp (l.drop n) k=pp l k) (λn=>⟨[(0,.slice (l.map Pr.c)),(1,my k),(4,P0 h.length),(7,.slice (l.map Pr.c)),(8,I l.length),(9,I n)],h++[.cells [I 0,I 0,my em]]⟩) Z ng ?_;intro n hn z;have hw:=oi hn hb.1.1;refine M ?_;refine og ?_ ?_<;>intro hc<;>try simp at hc
 .rw[ov hc,pp]at z;refine Qab ?_;refine og ?_ ?_<;>intro hg<;>try simp at hg
  .exact Qee
  exact Qef
 rw[gq J,pp]at z;exact Qem
attribute [go_sem] Part.c
def Fo(n:Int):APure prog 42 [I n] (Bo (jX n)):=by refine od func42 ntmps42 λE h B hh Q hb=>?_;simp-dsimp[go_sem,B,jX]
def LF(n:Int):APure prog 41 [I n] (Bo (pZ n)):=by refine od func41 ntmps41 λE h B hh Q hb=>?_;simp-dsimp[go_sem,B,pZ]
def HU(s:na):APure prog 40 [my s] (Bo (lG s)):=by
 refine ry func40 ntmps40 λE h B hh Q hb=>?_;refine M ?_;refine po s.size (λn=>ue yU ((bl s).drop n)=ue yU (bl s)) (λn=>⟨[(0,my s),(3,I n)],h⟩) Z ng ?_;intro n hn z;have hw:=oi hn hb;refine nf (λhc=>?_) (λhc=>?_)
 .rw[lJ hc,ue]at z;refine Qab ?_;refine ox (λhg=>?_) (λhg=>?_)
  .refine M ?_;have:yU (w9 s n)=false:=qia
   simp_all[ly,lG]
  exact Qen
 rw[vA J,ue]at z;refine M ?_;grind[lG]
def qo8(x:Part)(h:mz)(i:Nat)(t:Int)(hi:h[i]?=some (.cells [I t])):ACalls prog 78 [.agg x.c,.ptr i 0] h λr Y=>r=.ret (Bo (decide (x.id=t)))/\Y=h:=by
 refine s8 func78 ntmps78 λE B hh Q hb nl qb=>?_;have qj:i<h.length:=(gn.1 hi).1;have a1:∀l,(h++l)[i]?=some (.cells [I t]):=λl=>by rw[gu qj];exact hi
 exact Qeo
def TD(l:List Part)(f:FuncId)(pk:List V)(q:Part->Bool)(h:mz)(mU:qu h pk=pk)(hp:∀x:Part,ACalls prog f ([.agg x.c]++pk) h λr Y=>r=.ret (Bo (q x))/\Y=h) :
  ACalls prog 77 [.slice (l.map Part.c),.fn (.func f) [] pk] h λr Y=>r=.ret (I (ul q l))/\Y=h:=by
 refine cD func77 ntmps77 λE B hh Q hb nl qb=>?_;refine M ?_;refine po l.length (λn=>vy q n (l.drop n)=ul q l) (λn=>⟨[(0,.slice (l.map Part.c)),(1,.fn (.func f) [] pk),(7,I l.length),(8,I n)],h⟩) e6 (Wk.mk bb Z ee bh) ?_;intro n hn z;have hw:=oi hn hb.1;refine nf (λhc=>?_) (λhc=>?_)
 .rw[ov hc,vy]at z;simp-dsimp[go_sem,B,hc,mU];refine se (hp l[n]) ?_;rintro r Y ⟨rfl,rfl⟩;refine M ?_;refine og ?_ ?_<;>intro hg<;>try simp at hg
  .exact Qep
  exact Qeq
 exact Qer
abbrev Dv(t:Int):Part->Bool:=λx=>decide (x.id=t)
def Rp(l:List Part)(t:Int):APure prog 44 [.slice (l.map Part.c),I t] (I (ul (Dv t) l)):=by refine od func44 ntmps44 λE h B hh Q hb=>?_;refine M ?_;refine o7 (TD l _ _ (Dv t) _ eg (λx=>qo8 x _ _ t Z)) ?_;exact Qek
def Q4(l:List Part)(i:Nat)(hi:i<l.length)(hl:l.length<=16):APure prog 43 [.slice (l.map Part.c),I i] (Bo (pS l[i] ((l.drop (i+1)).head?.map (·.frm)))):=by
 refine ry func43 ntmps43 λE h B hh Q hb=>?_;have hw:=oi (kb hi) hb.1;simp-dsimp[go_sem,B,hi];refine ox (λhc=>?_) (λhc=>?_)
 .simp-dsimp[go_sem,B,pS,hc]
  done
 rcases jz (i+1) l.length with O|O
 .have hg:l[i+1]?=some l[i+1]:=ii O;have nv:¬((i:Int)+1=l.length):=J;rw[List.head?_drop,hg];refine pf 37 (M ?_);refine p7 (Fo _) Z (M ?_);refine p7 (HU _) Z ?_;simp-dsimp[go_sem,B,hw,hg,nv,O];grind[pS]
 have hg:l[i+1]?=none:=lf J;have nv:((i:Int)+1=l.length):=J;have hwl:IntKind.i64.wrap (l.length:Int)=l.length:=W;rw[List.head?_drop,hg];refine pf 37 (M ?_);refine p7 (Fo _) Z (M ?_);refine p7 (HU _) Z ?_;simp-dsimp[go_sem,B,hw,hg,nv,hwl];simp[pS,hc]
theorem Jf{α:Type}(q:α->Bool)(l:List α):decide (0<=ul q l)=l.any q:=by
 rcases D1 q l with⟨O,U⟩|⟨m,hm,O,U⟩
 .grind
 grind
def AO(p:Plc):APure prog 24 [.agg p.c] (Bo (qw p)):=by
 obtain⟨ver,l⟩:=p;refine od func24 ntmps24 λE h B hh Q hb=>?_;simp[go_sem,Plc.c]at hb;cases l with
 |nil =>
  have hR:qw ⟨ver,[]⟩=false:=by simp[qw]
  rw[hR];simp-dsimp[go_sem,B,Plc.c]
 |cons x r =>
 have hR:qw ⟨ver,x::r⟩=(decide (0<=ver)&&decide (ver<=1099511627776)&&decide ((x::r).length<=16)&&decide (x.frm=em)&&eT [] (x::r)):=by simp[qw]
 rw[hR];obtain⟨l,hl⟩:∃l,l=x::r:=⟨_,rfl⟩
 have hx:l[0]?=some x:=W;have hpos:0<l.length:=W;rw[<-hl]at hb|-;have eE:l[0]=x:=W;rw[show decide (x.frm=em)=decide (l[0].frm=em)by rw[eE]];simp-dsimp[go_sem,B,Plc.c,hpos];refine ox (λhc=>?_) (λhc=>?_)
 .rw[show(decide (0<=ver)&&decide (ver<=1099511627776)&&decide (l.length<=16)&&decide (l[0].frm=em)&&eT [] l)=false from ?_]
  .exact Qek
  grind
 obtain⟨⟨⟨⟨k1,k2⟩,k3⟩,k4⟩,k5⟩:=hc;rw[show(decide (0<=ver)&&decide (ver<=1099511627776)&&decide (l.length<=16)&&decide (l[0].frm=em)&&eT [] l)=eT [] l by rw[ki k1,ki k2,ki (show l.length<=16 by omega),ki (show l[0].frm=em from k5)];rfl]
 simp-dsimp[go_sem,B,Plc.c,hpos];refine po l.length (λn=>eT (l.take n) (l.drop n)=eT [] l) (λn=>⟨[(1,.ptr h.length 0),(34,.slice (l.map Part.c)),(35,I l.length),(36,I n)],h++[.cells [I ver,.slice (l.map Part.c)]]⟩) Z ng ?_;intro n hn z;have hw:=oi hn hb.1;refine nf (λhc=>?_) (λhc=>?_)
 rotate_left
 .rw[gq J,eT]at z;exact Qem
 rw[ov hc,eT]at z;rw[<-jn hc]at z;refine Qab ?_;refine pf 17 ?_;cases n with
 |zero =>
  refine M ?_;refine p7 (HU _) Z (M ?_);refine pf 24 (M ?_);refine p7 (LF _) Z (M ?_);refine p7 (Fo _) Z (M ?_);refine p7 (Q4 l (0) hc J) Z (M ?_);have cV:ul (Dv l[0].id) ([]:List Part) = -1:=rfl;refine pz (Rp (l.take 0) _) Z ?_;simp-dsimp[go_sem,B,cV];simp only[qi6,JS,jb,qjn,qjy,kg,List.head?_drop,im]at z;generalize pZ l[0].id=mw at z|-;generalize jX l[0].node=hN at z|-;generalize pS l[0] (Option.map (λx=>x.frm) l[1]?)=C at z|-;refine ox (λhg=>?_) (λhg=>?_)
  .exact Qee
  refine Qaa ?_;obtain⟨⟨rfl,rfl⟩,rfl⟩:=hg;exact⟨hc,qhp,ng⟩
 |succ m =>
  have hm:m<l.length:=J;have uc:=uG (kb hm) hb.1;refine M ?_;refine p7 (HU _) Z ?_;rw[Jt hm]at z;simp-dsimp[go_sem,B,uc,hm];refine ox (λhg=>?_) (λhg=>?_)
  .refine M ?_;grind[EQ,uZ]
  have wu:px l[m].frm l[m+1].frm=true:=by grind[A3]
  rw[hg.1,wu]at z;simp only[jb]at z;refine pf 24 (M ?_);refine p7 (LF _) Z (M ?_);refine p7 (Fo _) Z (M ?_);refine p7 (Q4 l (m+1) hc J) Z (M ?_);refine⟨λa b c=>⟨⟨⟨a,b⟩,c⟩,J,J⟩,?_⟩;obtain⟨D,hD⟩:∃D,((l.take (m+1)).any λy=>decide (y.id=l[m+1].id))=D:=⟨_,rfl⟩
  rw[hD]at z;have cV:(0<=ul (Dv l[m+1].id) (l.take (m+1)))=(D=true):=by rw[<-hD,<-Jf (Dv l[m+1].id)];simp
  rw[<-ln];refine pz (Rp (l.take (m+1)) _) Z ?_;simp-dsimp[go_sem,B,cV];rw[List.head?_drop]at z;generalize pZ l[m+1].id=mw at z|-;generalize jX l[m+1].node=hN at z|-;generalize pS l[m+1] (Option.map (λx=>x.frm) l[m+1+1]?)=C at z|-;refine ox (λhg=>?_) (λhg=>?_)
  .exact Qee
  have hw':IntKind.i64.wrap ((m:Int)+1+1)=(m:Int)+1+1:=by simpa using hw
  simp-dsimp[go_sem,B,hw'];obtain⟨⟨⟨rfl,rfl⟩,rfl⟩,rfl⟩:=hg;exact⟨hc,qhp,ng⟩
def DC{f:FuncId}{args:List V}{r q:V}(G:APure prog f args r)(h:r=q):APure prog f args q:=h▸G
def T7(p:Plc)(k:na)(hv:qw p=true):APure prog 82 [.agg p.c,my k] (I (gG p.parts k (p.parts.length - 1))):=by
 have oy:=zN hv;obtain⟨ver,l⟩:=p;obtain⟨R,hR⟩:=Qaj (gG l k (l.length - 1))
 simp only at oy|-;rw[hR];refine od func82 ntmps82 λE h B hh Q hb=>?_;simp[go_sem,Plc.c]at hb;simp-dsimp[go_sem,B,Plc.c];refine YE (yd _ _ _ ?_);refine M ?_;refine nc (DC (AO ⟨ver,l⟩) (congrArg Bo hv)) (M ?_);refine WC ?_;have hw0:IntKind.i64.wrap ((l.length:Int) - 1)=((l.length - 1:Nat):Int):=cq;simp-dsimp[go_sem,B,hw0];refine xS (α:=Nat) (λi=>i<=l.length - 1/\gG l k i=R) (λi=>⟨[(1,my k),(2,.ptr h.length 0),(5,I 0),(6,I i)],h++[.cells [I ver,.slice (l.map Part.c)]]⟩) (λi=>i) (l.length - 1) ⟨gj _,hR⟩ ng ?_;rintro i ⟨hi,z⟩;refine nf (λhc=>?_) (λhc=>?_)
 rotate_left
 .have:i=0:=J;subst this;rw[gG]at z;exact Qes
 obtain⟨j,rfl⟩:∃j,i=j+1:=⟨i - 1,J⟩
 have hj:j+1<l.length:=J;rw[gG,ii hj]at z;simp only at z;simp-dsimp[go_sem,B,hj];refine⟨J,?_⟩;obtain⟨F,hF⟩:∃F,F=l[j+1].frm:=⟨_,rfl⟩
 rw[<-hF]at z|-;refine xS (α:=Nat) (λq=>q<=k.size/\q<=F.size/\(bl k).take q=(bl F).take q) (λq=>⟨[(1,my k),(2,.ptr h.length 0),(5,I 0),(6,I (j+1:Nat)),(7,my F),(8,I q)],h++[.cells [I ver,.slice (l.map Part.c)]]⟩) (λq=>F.size - q) 0 ⟨J,J,Z⟩ ng ?_;rintro q ⟨q1,q2,q3⟩;have hwj:IntKind.i64.wrap (j:Int)=(j:Int):=eU J J;have hwq:q<F.size->q<k.size->IntKind.i64.wrap ((q:Int)+1)=(q:Int)+1:=λ_ _=>eU J J;refine M ?_;rcases jz q F.size with f1|f1
 rotate_left
 .have e1:(q:Int)=F.size:=J;refine pf 16 ?_;simp-dsimp[go_sem,B,e1];rw[ZQ q3 J,gg Z]at z;omega
 have e1:¬(q:Int)=F.size:=J;rcases jz q k.size with g1|g1
 rotate_left
 .have e2:¬(q:Int)<k.size:=J;have e3:(q:Int)=k.size:=J;refine pf 16 ?_;simp-dsimp[go_sem,B,e1,e2];rw[Tk q3 J f1,gh rfl]at z;refine pf 11 ?_;simp-dsimp[go_sem,B,e1,e3,hwj];exact⟨j,⟨J,z⟩,J,ng⟩
 have e2:(q:Int)<k.size:=J;refine pf 16 ?_;simp-dsimp[go_sem,B,e1,e2,f1,g1];refine ox (λhg=>?_) (λhg=>?_)
 .refine M ?_;rw[Wm q3 g1 f1 (by simpa[UInt8.lt_iff_toNat_lt]using hg),gg Z]at z;omega
 have e3:¬(q:Int)=k.size:=J;refine M ?_;refine pf 11 ?_;simp-dsimp[go_sem,B,e1,e3,f1,g1];refine ox (λwu=>?_) (λwu=>?_)
 .rw[ZX q3 g1 f1 (by simpa[UInt8.lt_iff_toNat_lt]using wu),gh rfl]at z;simp-dsimp[go_sem,B,hwj];exact⟨j,⟨J,z⟩,J,ng⟩
 have hbq:w9 k q=w9 F q:=UInt8.toNat_inj.1 J;simp-dsimp[go_sem,B,hwq f1 g1];exact⟨q+1,⟨J,J,Ze g1 f1 q3 hbq⟩,J,ng⟩
def Gb(p:Plc)(k:na)(hv:qw p=true):APure prog 48 [.agg p.c,my k] (I (sg p k)):=by
 have oy:=zN hv;have hi:=GF p.parts k (p.parts.length - 1);have cV:=T7 p k hv;unfold sg;rw[gg (show ¬qw p=false by simp[hv])];obtain⟨ver,l⟩:=p;simp only at oy hi cV|-;obtain⟨i,hR⟩:=Qaj (gG l k (l.length - 1))
 rw[hR]at hi cV|-;have tq:i<l.length:=J;rw[ii tq];simp only;refine od func48 ntmps48 λE h B hh Q hb=>?_;simp[go_sem,Plc.c]at hb;simp-dsimp[go_sem,B,Plc.c];refine nc cV ?_;have hni:¬(i:Int)<0:=J;simp-dsimp[go_sem,B,tq,hni];refine ox (λhc=>?_) (λhc=>?_)
 .rw[gh hc];exact Qek
 rw[gg (λg=>by have:=hc g.1;rw[g.2]at this;cases this)];exact Qek
@[simp] theorem qtn(r:LReq):r.c.length=2:=rfl
@[simp] theorem qvm(r:LReq):r.c.take 2=r.c:=rfl
@[simp] theorem qwt(h:mz)(r:LReq):qu h r.c=r.c:=rfl
@[simp] theorem qts(r:LQ):r.c.length=2:=rfl
@[simp] theorem qs8(r:LQ):r.c.take 2=r.c:=rfl
@[simp] theorem qvf(h:mz)(r:LQ):qu h r.c=r.c:=rfl
@[simp] theorem qua(h:mz)(r:LT):qu h r.c=r.c:=rfl
def I3(l:List LReq):APure prog 128 [.slice (l.map LReq.c)] (Bo (qR none l)):=by
 refine ry func128 ntmps128 λE h B hh Q hb=>?_;refine M ?_;refine po l.length (λn=>qR ((zk l n).map (·.t)) (l.drop n)=qR none l) (λn=>⟨[(0,.slice (l.map LReq.c)),(5,.slice (l.map LReq.c)),(6,I l.length),(7,I n)],h⟩) fj ng ?_
 intro n hn z;have hw:=oi hn hb.1;refine M ?_;refine og ?_ ?_<;>intro hc<;>try simp at hc
 .rw[ov hc,qR]at z;simp-dsimp[go_sem,B,hc,LReq.c];refine pf 15 ?_;cases n with
  |zero =>
   refine M ?_;refine og ?_ ?_<;>intro hg<;>try simp at hg
   .exact Qee
   have L:decide (l[0].t<0)=false:=by simpa using hg
   refine Qaa ?_;exact⟨hc,by simpa[L,zk,hc]using z,ng⟩
  |succ m =>
   have hm:m<l.length:=J;have uc:=uG (kb hm) hb.1;simp at hw;simp-dsimp[go_sem,B,uc,hm,LReq.c];refine og ?_ ?_<;>intro hg<;>try simp at hg
   .refine M ?_;grind[zk]
   have L:decide (l[m+1].t<0)=false:=by simpa using hg.1
   refine Qaa ?_;simp[L,hg,zk,hm]at z;exact⟨hc,dr,ng⟩
 rw[gq J,qR]at z;exact Qem
def Xw(x:LReq)(h:mz)(i:Nat)(t:Int)(hi:h[i]?=some (.cells [I t])):ACalls prog 130 [.agg x.c,.ptr i 0] h λr Y=>r=.ret (Bo (decide (x.t=t)))/\Y=h:=by
 refine s8 func130 ntmps130 λE B hh Q hb nl qb=>?_;have qj:i<h.length:=(gn.1 hi).1;have a1:∀l,(h++l)[i]?=some (.cells [I t]):=λl=>by rw[gu qj];exact hi
 exact Qet
def MU(l:List LReq)(f:FuncId)(pk:List V)(q:LReq->Bool)(h:mz)(mU:qu h pk=pk)(hp:∀x:LReq,ACalls prog f ([.agg x.c]++pk) h λr Y=>r=.ret (Bo (q x))/\Y=h) :
  ACalls prog 129 [.slice (l.map LReq.c),.fn (.func f) [] pk] h λr Y=>r=.ret (I (ul q l))/\Y=h:=by
 refine cD func129 ntmps129 λE B hh Q hb nl qb=>?_;refine M ?_;refine po l.length (λn=>vy q n (l.drop n)=ul q l) (λn=>⟨[(0,.slice (l.map LReq.c)),(1,.fn (.func f) [] pk),(7,I l.length),(8,I n)],h⟩) e6 (Wk.mk bb Z ee bh) ?_;intro n hn z;have hw:=oi hn hb.1;refine nf (λhc=>?_) (λhc=>?_)
 .rw[ov hc,vy]at z;simp-dsimp[go_sem,B,hc,mU];refine se (hp l[n]) ?_;rintro r Y ⟨rfl,rfl⟩;refine M ?_;refine og ?_ ?_<;>intro hg<;>try simp at hg
  .exact Qep
  exact Qeq
 exact Qer
abbrev fH(t:Int):LReq->Bool:=λx=>decide (x.t=t)
def BH(l:List LReq)(t:Int):APure prog 90 [.slice (l.map LReq.c),I t] (I (ul (fH t) l)):=by refine od func90 ntmps90 λE h B hh Q hb=>?_;refine M ?_;refine o7 (MU l _ _ (fH t) _ eg (λx=>Xw x _ _ t Z)) ?_;exact Qek
def Qk{g:List LReq}{t:Int}:(ul (fH t) g = -1/\oW g t=false)\/∃(m:Nat) (hm:m<g.length),ul (fH t) g=(m:Int)/\oW g t = !g[m].w:=by
 rcases D1 (fH t) g with⟨O,U⟩|⟨m,hm,O,U⟩
 .grind[oW]
 grind[oW]
def GV(t:LT):APure prog 89 [.agg t.c] (Bo (kV t)):=by
 refine od func89 ntmps89 λE h B hh Q hb=>?_;simp[go_sem,LT.c]at hb;obtain⟨R,hR⟩:=Qaj (kV t)
 rw[hR];unfold kV at hR;simp-dsimp[go_sem,B,LT.c];refine nc (I3 t.glob) ?_;refine nf (λha=>?_) (λha=>?_)
 .rw[ha]at hR;simp at hR;exact Qeu
 rw[ha,jb]at hR;subst hR;refine M ?_;refine po t.qs.length (λn=>pF t.glob ((zk t.qs n).map (·.key)) (t.qs.drop n)=pF t.glob none t.qs) (λn=>⟨[(1,P0 h.length),(13,.slice (t.qs.map LQ.c)),(14,I t.qs.length),(15,I n)],h++[.cells [.slice (t.glob.map LReq.c),.slice (t.qs.map LQ.c)]]⟩) fj ng ?_
 intro n hn z;have hw:=oi hn (show _<=68719476736 by omega);refine nf (λhc=>?_) (λhc=>?_)
 .rw[ov hc,pF]at z;simp-dsimp[go_sem,B,hc,LQ.c];refine pf 17 (M ?_);refine p7 (CM _) Z ?_;have tY:zp t.qs[n].key=true->after ((zk t.qs n).map (·.key)) t.qs[n].key=true->t.qs[n].reqs≠[]->qR none t.qs[n].reqs=true ->
    ((t.qs[n].reqs.all λr=>oW t.glob r.t)&&pF t.glob (some t.qs[n].key) (t.qs.drop (n+1)))=pF t.glob none t.qs:=λO U h3 h4=>by
   grind
  have qz:(zp t.qs[n].key=false\/after ((zk t.qs n).map (·.key)) t.qs[n].key=false\/t.qs[n].reqs=[]\/qR none t.qs[n].reqs=false)->pF t.glob none t.qs=false:=λO=>by grind
  have oy:t.qs[n].reqs.length<=68719476736:=by have:=(A5.1 hb.2.2) _ (ig.2 ⟨_,ij hc,rfl⟩);grind[LQ.c,eL,V.bd]
  cases n with
  |zero =>
   refine M ?_;refine pz (I3 _) Z ?_;refine nf (λhg=>?_) (λhg=>?_)
   .exact Qee
   have za:=tY W (by simp[zk,after]) W W;clear tY qz;refine M ?_;refine po t.qs[0].reqs.length (λk=>((t.qs[0].reqs.drop k).all λr=>oW t.glob r.t)=t.qs[0].reqs.all λr=>oW t.glob r.t) (λk=>⟨[(1,P0 h.length),(13,.slice (t.qs.map LQ.c)),(14,I t.qs.length),(15,I (0:Nat)),(53,.slice (t.qs[0].reqs.map LReq.c)),(54,I t.qs[0].reqs.length),(55,I k)],h++[.cells [.slice (t.glob.map LReq.c),.slice (t.qs.map LQ.c)]]⟩) Z ng ?_;intro k hk hJ;have hwk:=oi hk oy;refine nf (λhd=>?_) (λhd=>?_)
   .rw[ov hd,qin]at hJ;simp-dsimp[go_sem,B,hd,LReq.c];refine nc (BH t.glob _) ?_;rcases Qk (g:=t.glob) (t:=t.qs[0].reqs[k].t)with⟨O,U⟩|⟨j,hj,O,U⟩
    .rw[O];rw[U,ly]at hJ;exact Qee
    rw[O];simp-dsimp[go_sem,B,hj,LReq.c];refine ox (λwu=>?_) (λwu=>?_)
    .exact Qev
    simp-dsimp[go_sem,B,hwk];exact⟨hd,by simpa[U,wu]using hJ,ng⟩
   rw[gq J,qjc]at hJ;rw[<-hJ,jb]at za;refine Qaa ?_;exact⟨hc,by simpa[zk,hc]using za,ng⟩
  |succ m =>
   have hm:m<t.qs.length:=J;have uc:=uG (kb hm) hb.2.1;have hpv:(zk t.qs (m+1)).map (·.key)=some t.qs[m].key:=by simp[zk,hm]
   rw[hpv]at qz tY;simp only[after]at qz tY;rw[A3]at qz tY;simp at hw;simp-dsimp[go_sem,B,uc,hm,LQ.c];refine pz (I3 _) Z ?_;simp-dsimp[go_sem,B,uc,hm,LQ.c];refine ox (λhg=>?_) (λhg=>?_)
   .exact Qee
   have za:=tY W W W W;clear tY qz;refine M ?_;refine po t.qs[m+1].reqs.length (λk=>((t.qs[m+1].reqs.drop k).all λr=>oW t.glob r.t)=t.qs[m+1].reqs.all λr=>oW t.glob r.t) (λk=>⟨[(1,P0 h.length),(13,.slice (t.qs.map LQ.c)),(14,I t.qs.length),(15,I (m+1:Nat)),(53,.slice (t.qs[m+1].reqs.map LReq.c)),(54,I t.qs[m+1].reqs.length),(55,I k)],h++[.cells [.slice (t.glob.map LReq.c),.slice (t.qs.map LQ.c)]]⟩) Z ng ?_;intro k hk hJ;have hwk:=oi hk oy;refine nf (λhd=>?_) (λhd=>?_)
   .rw[ov hd,qin]at hJ;simp-dsimp[go_sem,B,hd,LReq.c];refine nc (BH t.glob _) ?_;rcases Qk (g:=t.glob) (t:=t.qs[m+1].reqs[k].t)with⟨O,U⟩|⟨j,hj,O,U⟩
    .rw[O];rw[U,ly]at hJ;exact Qee
    rw[O];simp-dsimp[go_sem,B,hj,LReq.c];refine ox (λwu=>?_) (λwu=>?_)
    .exact Qev
    simp-dsimp[go_sem,B,hwk];exact⟨hd,by simpa[U,wu]using hJ,ng⟩
   rw[gq J,qjc]at hJ;rw[<-hJ,jb]at za;refine Qaa ?_;exact⟨hc,by simpa[zk,hc]using za,ng⟩
 rw[gq J,pF]at z;exact Qem
def IP(l:List LReq)(h:mz):ACalls prog 131 [.slice (l.map LReq.c)] h λr Y=>r=.ret (.own h.length l.length)/\Y=h++[.uarr 152 2 (l.map LReq.c)]:=by refine Bf func131 rfl ah (by simp[ntmps131]) ?_;intro E B hh Q hb nl qb;rw[ntmps131]at B;simp[go_sem]at hb;have hw:=oi (gj l.length) (show l.length<=68719476736 by omega);refine yv (pY ?_);simp[go_sem,B];refine yv (qU [_,_,_,_,_] _ ?_);simp[go_sem,B,hw];intro c a w sm k;refine Zx sm k (el:=152) (x:=.tmp 5) (y:=.tmp 8) (d1:=9) (n:=l.length) (m:=l.length+1) (sz:=2) (zr:=[I 0,Bo false]) rfl rfl J rfl Z Z Z J Z Z (by simp[nM]) af af af J J J λc' a' w' s' k'=>?_;refine lF _ [_,_,_,_,_,_] _ rfl ?_ c' a' w' s' k';simp[go_sem,B];refine yv (qU [_,_] _ ?_);simp[go_sem,B];intro c a w sm k;refine Vd sm k (el:=152) (sz:=2) (i:=h.length) (n:=l.length) (d1:=12) (x:=.tmp 10) (y:=.tmp 11) (S:=List.replicate l.length [I 0,Bo false]) (vH:=l.map LReq.c) rfl rfl J rfl Z Z Z J af af af Z Z Z Z λa' w' s' k'=>?_;refine lF _ [_,_,_] _ rfl ?_ _ a' w' s' k';simp[go_sem,B];apply yd;refine M ?_;exact⟨_,.refl _,h++[.uarr 152 2 (l.map LReq.c)],af,by simp[hwk.refl],Z,cu,Z,rfl⟩
def dB:Nat->List LQ->List (List V)
 |_,[]=>[]
 |k,q::l=>[my q.key,.own k q.reqs.length]::dB (k+2) l
def jZ(tR:TypeId):List LQ->mz
 | []=>[]
 |q::l=>.none::.uarr tR 2 (q.reqs.map LReq.c)::jZ tR l
theorem QU(q:LQ):∀(k:Nat) (l:List LQ),dB k (l++[q])=dB k l++[[my q.key,.own (k+2 * l.length) q.reqs.length]]
 |k,[]=>by simp[dB]
 |k,x::l=>by simp only[mb,dB,QU q (k+2) l,jp];rw[show k+2+2 * l.length=k+2 * (l.length+1)by omega]
theorem SC(tR:TypeId)(q:LQ):∀(l:List LQ),jZ tR (l++[q])=jZ tR l++[.none,.uarr tR 2 (q.reqs.map LReq.c)]
 | []=>by simp[jZ]
 |x::l=>by simp[jZ,SC tR q l]
@[simp] theorem ZU:∀(k:Nat) (l:List LQ),(dB k l).length=l.length
 |_,[]=>rfl
 |k,_::l=>by simp[dB,ZU (k+2) l]
@[simp] theorem qow(tR:TypeId):∀(l:List LQ),(jZ tR l).length=2 * l.length
 | []=>rfl
 |_::l=>by simp[jZ,qow tR l];omega
theorem Gz(tR:TypeId)(n:Nat):∀(l:List LQ),hUnder n (jZ tR l)=true
 | []=>rfl
 |_::l=>by simp[jZ,hUnder,AObj.under,Gz tR n l]
def IK{n:Nat}:∀{k:Nat} {l:List LQ},k+2 * l.length<=n+1->(dB k l).all (λr=>q9 n r)=true
 |_,[],_=>rfl
 |k,_::l,h=>by simp only[jp]at h;simp only[dB,qin,gy];exact⟨by simp[q9,V.under];omega,IK J⟩
abbrev Pz(T:LT)(h0:Nat)(k:Nat):mz:=[.cells [.slice (T.glob.map LReq.c),.slice (T.qs.map LQ.c)],.cells [.nils,.nils],.uarr 152 2 (T.glob.map LReq.c),.cells [.own (h0+2) T.glob.length,.own (h0+4) k],.oarr 192 2 (dB (h0+6) (T.qs.take k))]
def qqt(T:LT)(h:mz):ACalls prog 91 [.agg T.c] h λr Y=>r=.ret (.agg [.own (h.length+2) T.glob.length,.own (h.length+4) T.qs.length])/\Y=h++([.none,.none,.uarr 152 2 (T.glob.map LReq.c),.none,.oarr 192 2 (dB (h.length+6) T.qs)]++jZ 152 T.qs):=by
 refine s8 func91 ntmps91 λE B hh Q hb nl qb=>?_;simp[go_sem,LT.c]at hb;simp-dsimp[go_sem,B,LT.c];refine o7 (IP T.glob _) (M ?_);refine po T.qs.length (λn=>True) (λn=>⟨[(1,P0 h.length),(2,P0 (h.length+1)),(3,P0 (h.length+3)),(11,.slice (T.qs.map LQ.c)),(12,I T.qs.length),(13,I n)],h++(Pz T h.length n++jZ 152 (T.qs.take n))⟩) trivial ((NA E _ (p:=h.length+3) (j:=1) (t:=192) (sz:=2) (xs:=[.own (h.length+2) T.glob.length,.nils]) Z Z).trans ?_) ?_
 .simp[jZ,dB];exact(Wk.mk bb (by simp[go_sem,dB]) (by simp[Q,z8 Q,go_sem,dB]) af)
 intro n hn _;have hw:=oi hn (show _<=68719476736 by omega);obtain⟨H,hH⟩:=Qaj (h++(Pz T h.length n++jZ 152 (T.qs.take n)))
 have hHl:H.length=h.length+(5+2 * n):=qhr;have a3:H[h.length+3]?=some (.cells [.own (h.length+2) T.glob.length,.own (h.length+4) n]):=W;have a4:H[h.length+4]?=some (.oarr 192 2 (dB (h.length+6) (T.qs.take n))):=W;have b3:∀l,(H++l)[h.length+3]?=some (.cells [.own (h.length+2) T.glob.length,.own (h.length+4) n]):=λl=>by rw[gu J];exact a3
 have b4:∀l,(H++l)[h.length+4]?=some (.oarr 192 2 (dB (h.length+6) (T.qs.take n))):=λl=>by rw[gu J];exact a4
 simp only[hH];refine nf (λhc=>?_) (λhc=>?_)
 .simp-dsimp[go_sem,B,hc,LQ.c];refine AT 9 6 [0,1,2,3] mixed ah ?_;simp-dsimp[go_sem,B,b3,b4];refine B3 (IP T.qs[n].reqs _) ?_;simp-dsimp[go_sem,B,b3,b4,hHl];refine⟨J,J,hc,?_⟩;have et:T.qs.take (n+1)=T.qs.take n++[T.qs[n]]:=(List.take_append_getElem hc).symm;rw[et,QU,SC,<-hH];have zg:(T.qs.take n).length=n:=au;rw[zg,show h.length+6+2 * n=h.length+(5+2 * n)+1 by omega];refine Wk.mk ?_ ?_ ?_ ?_
  .simp[hh]
  .simp[go_sem]
  .simp[Q,z8 Q,go_sem,Gz];have hU:=IK (n:=h.length+(2 * min n T.qs.length+2+1+1+1+1+1)) (k:=h.length+6) (l:=T.qs.take n) au;rw[jk]at hU;exact⟨⟨hU,J⟩,by rw[xh,Gz];simp[hUnder,AObj.under]⟩
  simp[go_sem,hw]
 have e:n=T.qs.length:=J;subst e;have a1:H[h.length+1]?=some (.cells [.nils,.nils]):=W;have a2:H[h.length+2]?=some (.uarr 152 2 (T.glob.map LReq.c)):=W;have s1:∀X,(H.set (h.length+1) X)[h.length+1]?=some X:=λX=>ji J;have s2:∀X,(H.set (h.length+1) X)[h.length+2]?=some (.uarr 152 2 (T.glob.map LReq.c)):=λX=>by rw[gv J];exact a2
 have s4:∀X,(H.set (h.length+1) X)[h.length+4]?=some (.oarr 192 2 (dB (h.length+6) (T.qs.take T.qs.length))):=λX=>by rw[gv J];exact a4
 simp-dsimp[go_sem,B,a1,a3,s1,s2,s4];rw[mj]at hH;have hU:=IK (n:=h.length+(5+2 * T.qs.length)) (k:=h.length+6) (l:=T.qs) J;rw[jk]at hU;refine⟨_,.refl _,_,?_,?_,?_,?_,rfl,rfl⟩
 .simp[go_sem]
 .rw[<-hH];simp[go_sem]
 .simp
 simp[Q,z8 Q,go_sem,Gz];rw[show h.length+(2 * T.qs.length+1+1+1+1+1)=h.length+(5+2 * T.qs.length)by omega];exact hU
def BU(q:LQ)(k:na):Int:=if px q.key k=true then -1 else if q.key=k then 0 else 1
def Qp(q:LQ)(k:na):APure prog 133 [.agg q.c,my k] (I (BU q k)):=by
 refine od func133 ntmps133 λE h B hh Q hb=>?_;unfold BU;simp-dsimp[go_sem,B,LQ.c];refine og (λO=>?_) (λO=>?_)
 .rw[gh O];exact Qek
 rw[gg W];refine nf (λU=>?_) (λU=>?_)
 .rw[gg U.2];exact Qek
 rw[gh (U O)];exact Qek
def Xq(l:List LQ)(k:na)(hs:qg (r8 l)):APure prog 132 [.slice (l.map LQ.c),my k,.fn (.func 133) [] []] (.tuple [I (ru k (r8 l)),Bo (decide ((r8 l)[ru k (r8 l)]?=some k))]):=by
 refine ry func132 ntmps132 λE h B hh Q hb=>?_;have hp:=zO k (r8 l);have hkl:(r8 l).length=l.length:=Z;rw[hkl]at hp;refine M ?_;refine xS (α:=Nat×Nat) (λx=>x.1<=ru k (r8 l)/\ru k (r8 l)<=x.2/\x.2<=l.length) (λx=>⟨[(0,.slice (l.map LQ.c)),(1,my k),(2,.fn (.func 133) [] []),(8,I l.length),(9,I x.1),(10,I x.2)],h⟩) (λx=>x.2 - x.1) (0,l.length) ⟨Z,hp,Z⟩ ng ?_;rintro⟨i,j⟩ ⟨O,U,h3⟩;simp only at O U h3;refine nf (λhc=>?_) (λhc=>?_)
 .have hm:IntKind.i64.wrap ((IntKind.u64.wrap (IntKind.i64.wrap ((i:Int)+j))).fdiv 2)=(((i+j) / 2:Nat):Int):=by
   have L:=hb.1.1;have e0:IntKind.i64.wrap ((i:Int)+j)=(i:Int)+j:=eU J J;rw[e0];have:IntKind.u64.wrap ((i:Int)+j)=(i:Int)+j:=by exact Qdm
   rw[this];have e1:((i:Int)+j).fdiv 2=(((i+j) / 2:Nat):Int):=by rw[Int.fdiv_eq_ediv_of_nonneg _ J];omega
   rw[e1,eU J J]
  have ni:(i+j) / 2<l.length:=J;have qj:=A9 (k:=k) hs ((i+j) / 2) qig;generalize hq:(i+j) / 2=q at hm ni qj;have hw:IntKind.i64.wrap ((q:Int)+1)=((q+1:Nat):Int):=by have L:=hb.1.1;rw[eU J J];omega
  have hkq:(r8 l)[q]'qig=l[q].key:=Z;simp-dsimp[go_sem,B,hm,ni];refine nc (Qp l[q] k) (M ?_);refine og (λsq=>?_) (λsq=>?_)
  .have zy:px l[q].key k=true:=by
    have sD:=l9 sq;unfold BU at sD;split at sD
    .assumption
    split at sD<;>omega
   refine Qaa ?_;exact⟨q+1,j,⟨by have:=qj.2 (by rw[hkq];exact zy);omega,U,h3⟩,J,ng⟩
  refine M ?_;refine⟨i,q,⟨O,?_,J⟩,J,ng⟩;rcases jz q (ru k (r8 l))with h5|h5
  .have:=qj.1 h5;rw[hkq]at this;have sD:=of_decide_eq_false sq;unfold BU at sD;rw[gh this]at sD;omega
  exact h5
 have hi:i=ru k (r8 l):=J;subst hi;by_cases ni:ru k (r8 l)<l.length
 .have hkq:(r8 l)[ru k (r8 l)]?=some l[ru k (r8 l)].key:=ba;simp-dsimp[go_sem,B,ni]
  repeat refine⟨W,?_⟩
  refine pz (Qp _ _) Z (M ?_);have u0:px l[ru k (r8 l)].key k=false:=by have:=A9 (k:=k) hs (ru k (r8 l)) qig;have h9:¬px (r8 l)[ru k (r8 l)] k=true:=λh=>absurd (this.2 h) (Nat.lt_irrefl _);simpa using h9
  have hcq:BU l[ru k (r8 l)] k=0↔l[ru k (r8 l)].key=k:=by unfold BU;rw[u0,gg Z];by_cases h9:l[ru k (r8 l)].key=k<;>simp[h9]
  rw[hcq,ii ni];simp
 have hd:decide (ru k (r8 l)<l.length)=false:=by simpa using ni
 have oT:(r8 l)[ru k (r8 l)]?=none:=lf J;simp-dsimp[go_sem,B,hd,oT];refine BP (M ?_);rw[lf J];simp
end Go.Proofs.YtolejdhnnchfpaaGreatDoor
namespace Go.Proofs.YtolejdhnnchfpaaGreatDoor
open Go Go.Abs Go.Proofs Go.Shelf Go.RowKit Go.Lib Go.Proofs.Tryz
def Hh{P:Program}(w:World)(dT sT ty elem:TypeId)(b o dLen dCap:Nat)(a:Addr)(sLen sCap:Nat)(cs:List Value)(k m:Nat)
  (Q:P.underlying dT=some (.slice elem)) (hs:(P.info? elem).map (·.size)=some k) (hm:Nat.min sLen dLen=m) (qn:cs.length=m * k)
  (pI:∀j v,cs[j]?=some v->w.cell? (a.add j)=some v) (hc:∀j,j<cs.length->(w.cell? ⟨b,o+j,none⟩).isSome=true) (hf:∀j,j<cs.length->w.frozen? ⟨b,o+j,none⟩=false) (O:∀v∈cs,v.oneCell'=true) :
  (Builtin.copy_ #[dT,sT] ty #[.slice (some ⟨b,o,none⟩) dLen dCap,.slice (some a) sLen sCap]).run P w=.ok (goInt m) (w.setCells b o cs):=by
 have hl:=run_loadCells_list (P:=P) w a cs pI;have r7:=run_storeCells_cells (P:=P) b o cs 0 w J J O;cases hq:P.info? elem with
 |none=>simp[hq]at hs
 |some i =>
  have hi:i.size=k:=W;simp[Builtin.copy_,kx Q,Builtin.lenOf,Builtin.firstCells,sizeOf,typeInfo,hq,hi,hm,<-qn,hl,r7]
def I4:∃i,prog.info? 192=some i/\i.zero=some (.agg #[.string ⟨#[]⟩,.slice none 0 0])/\i.size=2/\i.bytes=40:=info_parts ah
theorem Wg(w:World)(v:Value)(n vb vc:Nat)(cs:List Value)(kv:Array Value)(tA:TypeId)(tp:w.ownsRow 0 192 2 v n cs)(hn:n+1<=68719476736)
  (hk:w.heap[vb]?=some (.cells kv tA (0,0))) (hks:kv.size=2) (hk1:∀u∈kv.toList,u.oneCell'=true) :
  Calls prog 134 #[v,.int .i64 n,.slice (some ⟨vb,0,none⟩) 1 vc] w λe' w'=>∃v',e'=.returned v'/\InsPostK w w' v v' 192 2 (n+1) (cs++kv.toList):=by
 obtain⟨i,hi,hz,zf,hzb⟩:=I4;obtain⟨v',w',pj,ho,oP,gX,ht,gO,p6,aH⟩:=F4 (P:=prog) (w:=w) 99 99 192 i _ underlying99 hi hz (by rw[zf];rfl) J v n cs W ⟨vb,0,none⟩ 1 vc kv.toList W
  (λj u Q=>by rw[cM,cell_of_row _ _ _ _ _ _ hk,im];simpa using Q) hk1 J dm W
 have iV:InsPostK w w' v v' 192 2 (n+1) (cs++kv.toList):=⟨ho,by rw[zf]at oP;exact oP,gX,ht,gO,p6,aH⟩
 have hrun':∀ty,(Builtin.append_ #[99,99] ty #[v,.slice (some ⟨vb,0,none⟩) 1 vc]).run prog w=.ok v' w':=λty=>pj;rcases tp.2 with⟨hv,hn0⟩|⟨g,cap,nu,hv,_,hg,uh,r9,su,eS⟩
 .subst hv;subst hn0
  go_enter func134,ntmps134
  go_wp2_with (at_builtin;refine Lib.wpList_append_run _ rfl _ _ _ _ rfl _ _ rfl rfl _ _ (hrun' _) ?_)
  go_ret
  simp_all
 subst hv;by_cases mU:cap=n
 .subst mU
  go_enter func134,ntmps134
  go_wp2_with (at_builtin;refine Lib.wpList_append_run _ rfl _ _ _ _ rfl _ _ rfl rfl _ _ (hrun' _) ?_)
  all_goals (go_ret;exact⟨_,rfl,iV⟩)
 .skip
  go_enter func134,ntmps134
  go_wp2_with (at_builtin;refine Lib.wpList_append_run _ rfl _ _ _ _ rfl _ _ rfl rfl _ _ (hrun' _) ?_)
  all_goals (go_ret;exact⟨_,rfl,iV⟩)
abbrev zQ:Array Value:=#[.string ⟨#[]⟩,.slice none 0 0]
theorem RW(n:Nat):(Builtin.zeroCells zQ n).size=n * 2:=by simp[Builtin.zeroCells]
def Zb(b n c i vb m vc:Nat)(cs vs:List Value)(w:World)(hi:i<n)(hm:0<m)(gF:m<=4)(uh:n<=c)(eG:c<n+m)(xA:n+m<=68719476736)
  (qn:cs.length=n * 2) (hvl:vs.length=m * 2)
  (su:∀j v,cs[j]?=some v->w.cell? ⟨b,j,none⟩=some v)
  (iP:∀j v,vs[j]?=some v->w.cell? ⟨vb,j,none⟩=some v) (h1c:∀v∈cs,v.oneCell'=true) (h1v:∀v∈vs,v.oneCell'=true) :
  Calls prog 134 #[.slice (some ⟨b,0,none⟩) n c,.int .i64 i,.slice (some ⟨vb,0,none⟩) m vc] w λe w' =>
   e=.returned (.slice (some ⟨w.heap.size,0,none⟩) (n+m) (grownCap w (n+m) c 192)) /\
   w'=(((w.alloc (.cells ((cs.take (i * 2)).toArray++Builtin.zeroCells zQ (n+m - i)++Builtin.zeroCells zQ (grownCap w (n+m) c 192 - (n+m))) 192)).drew.setCells w.heap.size (i * 2) vs).drew).setCells w.heap.size ((i+m) * 2) (cs.drop (i * 2)):=by
 have mixed:prog.follows .mixedOrders=true:=ah;obtain⟨i0,hi0,hz0,zf,hzb⟩:=I4;have zd:¬((m:Int)=0):=J;have hz2:¬((i:Int)=(n:Int)):=J;have hz3:(c:Int)<(n:Int)+(m:Int):=J;have p6:(prog.info? 192).map (·.size)=some 2:=W
 have hbw:b<w.heap.size:=block_lt_of_cell (su 0 _ (ii J));have hvw:vb<w.heap.size:=block_lt_of_cell (iP 0 _ (ii J));have rR:(n:Int)+(m:Int) - (i:Int)=((n+m - i:Nat):Int):=J;have hik:i+(n+m - i)=n+m:=J;have cG:(Builtin.firstCells i0.size i (.slice (some ⟨b,0,none⟩) i c)).run prog w.drew=.ok (cs.take (i * 2)).toArray w.drew:=by
  rw[zf];exact run_firstCells_some w.drew 2 i ⟨b,0,none⟩ i c (cs.take (i * 2)) W (λj v hj=>by
   rw[Addr.add_lit,im];rw[jo]at hj;split at hj
   .simp_all
   cases hj)
 have hrz:∀ty,(Builtin.append_ #[99,3] ty #[.slice (some ⟨b,0,none⟩) i c,.int .i64 ((n:Int)+(m:Int) - (i:Int))]).run prog w =
   .ok (.slice (some ⟨w.heap.size,0,none⟩) (n+m) (grownCap w (n+m) c 192)) (w.drew.alloc (.cells ((cs.take (i * 2)).toArray++Builtin.zeroCells zQ (n+m - i)++Builtin.zeroCells zQ (grownCap w (n+m) c 192 - (n+m))) 192)):=λty=>by
  have h:=Lib.run_append_grow_zeros w 99 3 ty 192 i0 _ .i64 .i64 underlying99 underlying3 hi0 hz0 (some ⟨b,0,none⟩) i c (cs.take (i * 2)) cG (n+m - i) J J J J W (by rw[hzb,hik];exact growslice_fits eG J);rw[hik]at h;rw[rR];exact h
 obtain⟨hr,hG⟩:∃hr,hr=grownCap w (n+m) c 192:=⟨_,rfl⟩
 obtain⟨ROW,hROW⟩:∃ROW:Array Value,ROW=(cs.take (i * 2)).toArray++Builtin.zeroCells zQ (n+m - i)++Builtin.zeroCells zQ (hr - (n+m)):=⟨_,rfl⟩
 rw[<-hG]at hrz|-;rw[<-hROW]at hrz|-;have hRl:(n+m) * 2<=ROW.size:=by grind[Array.size_append,qi3,kc,RW]
 obtain⟨W1,lP⟩:∃W1,W1=w.drew.alloc (.cells ROW 192):=⟨_,rfl⟩
 rw[<-lP]at hrz;have B:∀j,j<(n+m) * 2->(W1.cell? ⟨w.heap.size,j,none⟩).isSome=true:=λj hj=>by rw[lP,World.cell?_alloc_at (w:=w.drew) ROW _ w.heap.size j rfl,ky J];rfl
 have hNf:∀j,W1.frozen? ⟨w.heap.size,j,none⟩=false:=λj=>by rw[lP];exact World.frozen?_alloc_at (w:=w.drew) ROW _ w.heap.size j rfl
 have hOb:∀j v,w.cell? ⟨b,j,none⟩=some v->W1.cell? ⟨b,j,none⟩=some v:=λj v h=>by rw[lP,World.cell?_alloc_past (w:=w.drew) _ b j hbw];exact h
 have hOv:∀j v,w.cell? ⟨vb,j,none⟩=some v->W1.cell? ⟨vb,j,none⟩=some v:=λj v h=>by rw[lP,World.cell?_alloc_past (w:=w.drew) _ vb j hvw];exact h
 have hcpA:∀(ae:World),(∀x,ae.cell? x=W1.cell? x)->(∀x,ae.frozen? x=W1.frozen? x)->∀ty dc,(Builtin.copy_ #[99,99] ty #[.slice (some ⟨w.heap.size,i * 2,none⟩) (n+m - i) dc,.slice (some ⟨vb,0,none⟩) m vc]).run prog ae=.ok (goInt m) (ae.setCells w.heap.size (i * 2) vs):=λae hWc hWf ty dc =>
  Hh ae _ _ ty 192 w.heap.size (i * 2) (n+m - i) dc ⟨vb,0,none⟩ m vc vs 2 m underlying99 p6 W hvl
   (λj v hj=>by rw[Addr.add_lit,im,hWc];exact hOv _ v (iP j v hj))
   (λj hj=>by rw[hWc];exact B _ J) (λj hj=>by rw[hWf];exact hNf _) h1v
 have hGn:n+m<=hr:=by rw[hG];exact grownCap_ge w _ _ _
 have hG63:hr<=9223372036854775807:=by have:=grownCap_le_maxLen w (n+m) c 192 qgx;rw[<-hG]at this;unfold maxLen at this;omega
 have hGi:¬(hr=i):=J;have hGim:¬(hr=i+m):=J;have hci:¬(c=i):=J;have hbN:b≠w.heap.size:=J;have hdl:(cs.drop (i * 2)).length=(n - i) * 2:=W;have hcpB:∀(ae:World),(∀x,ae.cell? x=(W1.setCells w.heap.size (i * 2) vs).cell? x)->(∀x,ae.frozen? x=(W1.setCells w.heap.size (i * 2) vs).frozen? x)->∀ty dc sc,(Builtin.copy_ #[99,99] ty #[.slice (some ⟨w.heap.size,(i+m) * 2,none⟩) (n+m - (i+m)) dc,.slice (some ⟨b,i * 2,none⟩) (n - i) sc]).run prog ae=.ok (goInt (n - i:Nat)) (ae.setCells w.heap.size ((i+m) * 2) (cs.drop (i * 2))):=λae hWc hWf ty dc sc =>
  Hh ae _ _ ty 192 w.heap.size ((i+m) * 2) (n+m - (i+m)) dc ⟨b,i * 2,none⟩ (n - i) sc (cs.drop (i * 2)) 2 (n - i) underlying99 p6 W hdl
   (λj v hj=>by rw[Addr.add_lit,hWc,World.cell?_setCells_out _ _ _ _ _ (λh _=>absurd h hbN)];exact hOb _ v (su (i * 2+j) v W))
   (λj hj=>by rw[hWc];exact isSome_setCells _ _ _ _ (λt ht=>B _ J) _ (B _ J))
   (λj hj=>by rw[hWf,World.frozen?_setCells];exact hNf _) (λv hv=>h1c v (qjh hv))
 subst lP;have hE1:∀x,((w.alloc (.cells ROW 192)).drew).cell? x=(w.drew.alloc (.cells ROW 192)).cell? x:=λx=>rfl;have tu:∀x,((w.alloc (.cells ROW 192)).drew).frozen? x=(w.drew.alloc (.cells ROW 192)).frozen? x:=λx=>rfl;have aB:∀x,(((w.alloc (.cells ROW 192)).drew.setCells w.heap.size (i * 2) vs).drew).cell? x=((w.drew.alloc (.cells ROW 192)).setCells w.heap.size (i * 2) vs).cell? x:=λx=>rfl;have wj:∀x,(((w.alloc (.cells ROW 192)).drew.setCells w.heap.size (i * 2) vs).drew).frozen? x=((w.drew.alloc (.cells ROW 192)).setCells w.heap.size (i * 2) vs).frozen? x:=λx=>rfl;have yw:IntKind.i64.wrap ((i:Int)+(m:Int))=(i:Int)+(m:Int):=by rw[IntKind.wrap_i64];omega
 have qd:(0:Int)<=(i:Int)+(m:Int):=J;have th:i<=n:=J;have htn:((i:Int)+(m:Int)).toNat=i+m:=J;have hb3:(i:Int)<=(n:Int):=J;clear rR hik cG hROW hG hRl
 go_enter func134,ntmps134
 go_wp2_with (first
  |(at_builtin;refine Lib.wpList_append_run _ rfl _ _ _ _ rfl _ _ rfl rfl _ _ (hrz _) ?_)
  |(at_builtin;refine wpList_copy_runI _ rfl _ _ 99 99 rfl _ _ rfl rfl (hcpA _ hE1 tu _ _) ?_)
  |(at_builtin;refine wpList_copy_runI _ rfl _ _ 99 99 rfl _ _ rfl rfl (hcpB _ (λ_=>rfl) (λ_=>rfl) _ _ _) ?_))
 go_region_law_o (refine step_copy_runI rfl _ _ 99 99 rfl (.slice (some ⟨w.heap.size,(i+m) * 2,none⟩) (n+m - (i+m)) (hr - (i+m))) (.slice (some ⟨b,i * 2,none⟩) (n - i) (c - i)) dt dt (hcpB _ aB wj 3 (hr - (i+m)) (c - i)) ?_)
 go_wp2
 go_ret
 simp_all
def qki(b n c i vb m vc:Nat)(cs vs:List Value)(w:World)(hi:i<n)(hm:0<m)(gF:m<=4)(eG:n+m<=c)(hc63:c<=9223372036854775807)(hvb:vb≠b)
  (qn:cs.length=n * 2) (hvl:vs.length=m * 2)
  (su:∀j v,cs[j]?=some v->w.cell? ⟨b,j,none⟩=some v) (hsp:∀j,j<(n+m) * 2->(w.cell? ⟨b,j,none⟩).isSome=true) (hfz:∀j,j<(n+m) * 2->w.frozen? ⟨b,j,none⟩=false)
  (iP:∀j v,vs[j]?=some v->w.cell? ⟨vb,j,none⟩=some v) (h1c:∀v∈cs,v.oneCell'=true) (h1v:∀v∈vs,v.oneCell'=true)
  (tA tB:TypeId) (kA kB:Nat) (hsa:w.shape? vb=some (tA,kA)) (hsb:w.shape? b=some (tB,kB)) (hkB:kB≠0) (hfa:w.frozen? ⟨vb,0,none⟩=false) (hfe:w.frozen? ⟨vb,kA,none⟩=false) :
  Calls prog 134 #[.slice (some ⟨b,0,none⟩) n c,.int .i64 i,.slice (some ⟨vb,0,none⟩) m vc] w λe w' =>
   e=.returned (.slice (some ⟨b,0,none⟩) (n+m) c)/\w'=(w.drew.setCells b ((i+m) * 2) (cs.drop (i * 2))).setCells b (i * 2) vs:=by
 have mixed:prog.follows .mixedOrders=true:=ah;obtain⟨i0,hi0,hz0,zf,hzb⟩:=I4;have zd:¬((m:Int)=0):=J;have hz2:¬((i:Int)=(n:Int)):=J;have p6:(prog.info? 192).map (·.size)=some 2:=W
 have hzQ:∀w,(Go.sizeOf 192).run prog w=.ok 2 w:=λw=>by simp[Go.sizeOf,typeInfo,hi0,zf]
 have hov:∀lb cb,(callFunc 167 #[.slice (some ⟨vb,0,none⟩) m vc,.slice (some ⟨b,(i+m) * 2,none⟩) lb cb]).run prog w=.ok (.value (.bool false)) w:=λlb cb=>by
  rw[run_callFunc_extern func167 ah ah ah (e:=Extern.SlicesOverlaps.overlaps #[99,99] #[4]) ah,
   Lib.run_overlaps_apart w 99 4 192 underlying99 2 hzQ ⟨vb,0,none⟩ ⟨b,(i+m) * 2,none⟩ m vc lb cb hvb tA tB kA kB hsa hsb hkB hfa hfe]
  rfl
 have hdl:(cs.drop (i * 2)).length=(n - i) * 2:=W;have yw:IntKind.i64.wrap ((i:Int)+(m:Int))=(i:Int)+(m:Int):=by rw[IntKind.wrap_i64];omega
 have qd:(0:Int)<=(i:Int)+(m:Int):=J;have th:i<=n:=J;have htn:((i:Int)+(m:Int)).toNat=i+m:=J;have rh:¬(c=i+m):=J;have hb3:(i:Int)<=(n:Int)+(m:Int):=J;have hb4:¬(c=i):=J;have hcp1:∀ty dc sc,(Builtin.copy_ #[99,99] ty #[.slice (some ⟨b,(i+m) * 2,none⟩) (n+m - (i+m)) dc,.slice (some ⟨b,i * 2,none⟩) (n+m - i) sc]).run prog w.drew=.ok (goInt (n - i:Nat)) (w.drew.setCells b ((i+m) * 2) (cs.drop (i * 2))):=λty dc sc =>
  Hh w.drew _ _ ty 192 b ((i+m) * 2) (n+m - (i+m)) dc ⟨b,i * 2,none⟩ (n+m - i) sc (cs.drop (i * 2)) 2 (n - i) underlying99 p6 W hdl
   (λj v hj=>by rw[Addr.add_lit];exact su (i * 2+j) v W)
   (λj hj=>hsp _ J) (λj hj=>hfz _ J) (λv hv=>h1c v (qjh hv))
 obtain⟨W1,lP⟩:∃W1,W1=w.drew.setCells b ((i+m) * 2) (cs.drop (i * 2)):=⟨_,rfl⟩
 have hsp1:∀k,k<(n+m) * 2->(W1.cell? ⟨b,k,none⟩).isSome=true:=λk hk=>by rw[lP];exact isSome_setCells b (cs.drop (i * 2)) ((i+m) * 2) w.drew (λj hj=>hsp _ J) k (hsp k hk)
 have hcp2:∀(ae:World),(∀x,ae.cell? x=W1.cell? x)->(∀x,ae.frozen? x=W1.frozen? x)->∀ty dc,(Builtin.copy_ #[99,99] ty #[.slice (some ⟨b,i * 2,none⟩) (n+m - i) dc,.slice (some ⟨vb,0,none⟩) m vc]).run prog ae=.ok (goInt m) (ae.setCells b (i * 2) vs):=λae hWc hWf ty dc =>
  Hh ae _ _ ty 192 b (i * 2) (n+m - i) dc ⟨vb,0,none⟩ m vc vs 2 m underlying99 p6 W hvl
   (λj v hj=>by rw[Addr.add_lit,im,hWc,lP,World.cell?_setCells_out b _ _ _ _ (λh _=>absurd h hvb)];exact iP j v hj)
   (λj hj=>by rw[hWc];exact hsp1 _ J) (λj hj=>by rw[hWf,lP,World.frozen?_setCells];exact hfz _ J) h1v
 rw[<-lP]at hcp1
 go_enter func134,ntmps134
 go_wp2_with (simp only[hov])
 go_region_law_o (refine step_copy_runI rfl _ _ 99 99 rfl _ _ dt dt (hcp1 _ _ _) ?_)
 go_wp2_with (at_builtin;refine wpList_copy_runI _ rfl _ _ 99 99 rfl _ _ rfl rfl (hcp2 _ (λ_=>rfl) (λ_=>rfl) _ _) ?_)
 go_ret
 first|exact⟨rfl,rfl⟩|exact⟨rfl,by rw[lP]⟩
def ZV:PS prog 134 192 2:=by
 intro w v n nk vb vc cs kv tA tp tc hat hn hk hks AC nv;have jD:cs.length=n * 2:=tp.1;have hkl:kv.toList.length=2:=J;have iP:∀j u,kv.toList[j]?=some u->w.cell? ⟨vb,j,none⟩=some u:=λj u Q=>by rw[cell_of_row _ _ _ _ _ _ hk];simpa using Q
 rcases jz nk n with ni|hge'
 .rcases tp.2 with⟨rfl,L⟩|⟨g,cap,nu,rfl,_,hg,uh,zF,su,eS⟩
  .omega
  have hcc:cap<=9223372036854775807:=by simp only[maxLen]at zF;omega
  have hvb:vb≠g:=nv g rfl;have s6:∀j u,cs[j]?=some u->w.cell? ⟨g,j,none⟩=some u:=λj u Q=>by
   have:=tp.cells (g:=g) rfl j u Q
   rwa [cM,im]at this
  have HO:∀j,j<cap * 2->(w.cell? ⟨g,j,none⟩).isSome=true:=λj hj=>by rw[cell_of_row _ _ _ _ _ _ hg,ky J];rfl
  have hfz:∀j,w.frozen? ⟨g,j,none⟩=false:=λj=>by simp[World.frozen?,hg]
  have hcurn:∀j,j<n * 2->nu[j]?=cs[j]?:=λj hj=>by grind
  have dP:nk * 2<=n * 2:=J;have htl:(cs.take (nk * 2)).length=nk * 2:=W;have hfinal:∀c2:Array Value,(∀j,j<(n+1) * 2->c2[j]?=if j<nk * 2 then cs[j]? else if j<nk * 2+2 then kv.toList[j - nk * 2]? else cs[j - 2]?)->(n+1) * 2<=c2.size->c2.toList.take ((n+1) * 2)=cs.take (nk * 2)++kv.toList++cs.drop (nk * 2):=λc2 h p6=>by
   apply kp;intro j;rw[jo,kq];by_cases hj:j<(n+1) * 2
   .rw[gh hj,h j hj];by_cases O:j<nk * 2
    .grind
    rw[gg O];by_cases U:j<nk * 2+2
    .grind
    rw[gg U,gz W,kj,it,htl,hkl];grind
   grind
  rcases jz cap (n+1)with eG|eG
  .
   refine(Zb g n cap nk vb 1 vc cs kv.toList w ni J J uh eG J jD J s6 iP tc AC).mono ?_;rintro e w' ⟨rfl,rfl⟩;have iK:=grownCap_ge w (n+1) cap 192;have hgm:=grownCap_le_maxLen w (n+1) cap 192 dm;generalize grownCap w (n+1) cap 192=hr at iK hgm|-;obtain⟨ROW,hROW⟩:∃ROW:Array Value,(cs.take (nk * 2)).toArray++Builtin.zeroCells zQ (n+1 - nk)++Builtin.zeroCells zQ (hr - (n+1))=ROW:=⟨_,rfl⟩
   rw[hROW];have hRs:ROW.size=hr * 2:=by grind[Array.size_append,qi3,RW]
   have hRj:∀j,j<nk * 2->ROW[j]?=cs[j]?:=λj hj=>by grind
   have L:(w.alloc (.cells ROW 192)).drew.heap[w.heap.size]?=some (.cells ROW 192 (0,0)):=li _ _;obtain⟨c1,a1,a2,a3,a4,a5,a6,a7,a8⟩:=wF kv.toList (nk * 2) _ _ L J;obtain⟨c2,b1,b2,b3,b4,b5,b6,b7,b8⟩:=wF (cs.drop (nk * 2)) ((nk+1) * 2) ((w.alloc (.cells ROW 192)).drew.setCells w.heap.size (nk * 2) kv.toList).drew c1 a1 W;refine⟨_,rfl,rfl,⟨qge,.inr ⟨w.heap.size,hr,c2,rfl,il _,b1,iK,hgm,by rw[b2,a2,hRs],hfinal c2 (λj hj=>?_) J⟩⟩,b5.trans a5,b6.trans a6,b7.trans a7,?_,.inr ⟨rfl,λk qh=>?_⟩⟩
   .rw[b3 j,a3 j,qiw,jD,hkl];by_cases O:j<nk * 2
    .grind
    rw[gg O];by_cases U:j<nk * 2+2
    .grind
    rw[gg U,gh J,kj];congr 1;omega
   .grind
   rw[b8 k J];show((w.alloc (.cells ROW 192)).drew.setCells w.heap.size (nk * 2) kv.toList).heap[k]?=_;rw[a8 k J];exact jO _ _ _ qh
  .
   refine(qki g n cap nk vb 1 vc cs kv.toList w ni J J eG hcc hvb jD J s6 (λj hj=>HO j J) (λj _=>hfz j) iP tc AC tA 192 2 (cap * 2) (by simp[World.shape?,hk,hks]) (by simp[World.shape?,hg,su]) J qgl qgl).mono ?_;rintro e w' ⟨rfl,rfl⟩;obtain⟨c1,a1,a2,a3,a4,a5,a6,a7,a8⟩:=wF (cs.drop (nk * 2)) ((nk+1) * 2) w.drew nu hg W;obtain⟨c2,b1,b2,b3,b4,b5,b6,b7,b8⟩:=wF kv.toList (nk * 2) _ c1 a1 J;refine⟨_,rfl,rfl,⟨qge,.inr ⟨g,cap,c2,rfl,il _,b1,eG,zF,by rw[b2,a2,su],hfinal c2 (λj hj=>?_) J⟩⟩,b5.trans a5,b6.trans a6,b7.trans a7,by rw[b4,a4];exact gj _,.inl ⟨g,rfl,rfl,λk qh=>(b8 k qh).trans (a8 k qh)⟩⟩;rw[b3 j,a3 j,qiw,jD,hkl];by_cases O:j<nk * 2
   .grind
   rw[gg O];by_cases U:j<nk * 2+2
   .grind
   rw[gg U,gg J,gh J,kj];congr 1;omega
 grind[Wg,ll,gq]
end Go.Proofs.YtolejdhnnchfpaaGreatDoor
namespace Go.Proofs.YtolejdhnnchfpaaGreatDoor
open Go Go.Abs Go.Cw Go.Proofs.Tryz
section
variable{ks:List Nat}{qs:List LQ}{k hN o g:Nat}{H:mz}{T:LT}{α β:Type}
theorem OE{k:na}{r:LReq}:∀{l:List LQ},(r8 l)[ru k (r8 l)]?=some k->∃(h:ru k (r8 l)<l.length),l[ru k (r8 l)].key=k/\ua k r l=l.set (ru k (r8 l)) ⟨k,l[ru k (r8 l)].reqs++[r]⟩
 | [],h=>by simp at h
 |q::l,h=>by
  simp only[jd,ru]at h|-;by_cases O:px q.key k=true
  .simp_all[ua,OE]
  grind[ua]
theorem Mz{k:na}{r:LReq}:∀{l:List LQ},¬(r8 l)[ru k (r8 l)]?=some k->ua k r l=l.take (ru k (r8 l))++⟨k,[r]⟩::l.drop (ru k (r8 l))
 | [],h=>by simp[ua,ru]
 |q::l,h=>by
  simp only[jd,ru]at h|-;by_cases O:px q.key k=true
  .simp_all[ua,Mz]
  grind[ua]
def yb(ks:List Nat)(qs:List LQ):List (List V):=List.zipWith (λk (q:LQ)=>[my q.key,.own k q.reqs.length]) ks qs
theorem Hj(h:ks.length=qs.length):(yb ks qs).length=qs.length:=by simp[yb,h]
theorem JB{n:Nat}{q:LQ}(O:ks[n]?=some k)(U:qs[n]?=some q):(yb ks qs)[n]?=some [my q.key,.own k q.reqs.length]:=by grind[yb]
def isQ(H:mz)(k:Nat)(l:List LReq):Prop:=H[k]?=some (.uarr 152 2 (l.map LReq.c))\/H[k]?=some (.arr 152 2 (l.map LReq.c))
structure TabH(hN:Nat)(H:mz)(o g q:Nat)(ks:List Nat)(T:LT):Prop where
 ho:H[o]?=some (.cells [.own g T.glob.length,.own q T.qs.length])
 hg:H[g]?=some (.uarr 152 2 (T.glob.map LReq.c))
 hq:H[q]?=some (.oarr 192 2 (yb ks T.qs))
 hkl:ks.length=T.qs.length
 hk:∀p,p∈ks.zip T.qs->isQ H p.1 p.2.reqs
 nd:ks.Nodup
 gk:g∉ks
 bo:hN<=o
 bg:hN<=g
 bq:hN<=q
 bk:∀k∈ks,hN<=k
def TabH.hkI{q:Nat}(h:TabH hN H o g q ks T)(j k:Nat)(x:LQ)(O:ks[j]?=some k)(U:T.qs[j]?=some x):isQ H k x.reqs :=
 h.hk (k,x) (gw (i:=j) W)
def Yo{l:List LReq}(h:isQ H k l):k<H.length:=h.elim (λh=>(gn.1 h).1) (λh=>(gn.1 h).1)
def TabH.kin{q:Nat}(h:TabH hN H o g q ks T)(hk:k∈ks):∃x,(k,x)∈ks.zip T.qs/\isQ H k x.reqs:=by
 obtain⟨j,hj⟩:=iw hk;have ni:j<T.qs.length:=by rw[<-h.hkl];exact(gn.1 hj).1
 have U:T.qs[j]?=some T.qs[j]:=ii ni;exact⟨_,gw (i:=j) W,h.hkI j k _ hj U⟩
def TabH.kne{q:Nat}(h:TabH hN H o g q ks T)(hk:k∈ks):k<H.length/\k≠o/\k≠q/\k≠g:=by
 obtain⟨x,_,hq⟩:=h.kin hk;refine⟨Yo hq,λe=>?_,λe=>?_,λe=>h.gk (e▸hk)⟩
 .rw[e]at hq;rcases hq with hq|hq<;>(rw[h.ho]at hq;cases hq)
 rw[e]at hq;rcases hq with hq|hq<;>(rw[h.hq]at hq;cases hq)
def TabH.gne{q:Nat}(h:TabH hN H o g q ks T):g≠o/\g≠q/\q≠o:=by
 refine⟨λe=>?_,λe=>?_,λe=>?_⟩
 .have O:=h.hg;rw[e,h.ho]at O;cases O
 .have O:=h.hg;rw[e,h.hq]at O;cases O
 have O:=h.hq;rw[e,h.ho]at O;cases O
theorem qsf{nk:Nat}{q:LQ}(h:ks.length=qs.length):yb (ks.take nk++k::ks.drop nk) (qs.take nk++q::qs.drop nk)=(yb ks qs).take nk++[my q.key,.own k q.reqs.length]::(yb ks qs).drop nk:=by unfold yb;rw[List.zipWith_append cn,List.zipWith_cons_cons,List.take_zipWith,List.drop_zipWith]
theorem qmd{q:LQ}:∀{qs:List LQ} {nk:Nat},ks[nk]?=some k->yb ks (qs.set nk q)=(yb ks qs).set nk [my q.key,.own k q.reqs.length]:=by
 induction ks with
 |nil=>intro qs nk h;simp at h
 |cons x ks ih =>
  intro qs nk h;cases qs with
  |nil=>simp[yb]
  |cons y qs =>
   cases nk with
   |zero=>simp at h;subst h;simp[yb]
   |succ nk =>
    grind[yb,List.zipWith_cons_cons]
def SU(l:List α)(m:List β)(n:Nat):(l.take n).zip (m.take n)=(l.zip m).take n:=by simp[List.zip,List.take_zipWith.symm]
def qqj(l:List α)(m:List β)(n:Nat):(l.drop n).zip (m.drop n)=(l.zip m).drop n:=by simp[List.zip,List.drop_zipWith.symm]
theorem Yj(mw ac:List α)(x y:α){n:Nat}(h:mw.length=n):(mw++x::ac).set n y=mw++y::ac:=cy
def JI{N:Nat}:∀{ks:List Nat} {qs:List LQ},(∀k∈ks,k<N)->∀r,r∈yb ks qs->q9 N r=true
 | [],_,_,r,h=>by simp[yb]at h
 |_::_,[],_,r,h=>by simp[yb]at h
 |k::ks,q::qs,hk,r,h=>by
  rw[yb,List.zipWith_cons_cons]at h;rcases iq.1 h with rfl|h
  .grind[q9,V.under]
  exact JI (λx hx=>hk x be) r h
theorem TabH.view{q:Nat}(h:TabH hN H o g q ks T):(∀r,r∈yb ks T.qs->∀x,x∈r->(qL H x).isData=true)/\(yb ks T.qs).map (λr=>r.map (qL H))=T.qs.map LQ.c:=by
 have key:∀(n k:Nat) (x:LQ),ks[n]?=some k->T.qs[n]?=some x->qL H (.own k x.reqs.length)=.slice (x.reqs.map LReq.c):=λn k x O U=>by rcases h.hkI n k x O U with h3|h3<;>simp[qL,h3]
 constructor
 .intro r G x hx;obtain⟨n,hn⟩:=iw G;unfold yb at hn;rw[List.getElem?_zipWith]at hn;split at hn
  .rename_i k y hk hy;cases hn;rcases iq.1 hx with rfl|hx
   .rfl
   rcases iq.1 hx with rfl|hx
   .rw[key n k y hk hy];rfl
   cases hx
  cases hn
 apply kp;intro n;rw[ja,ja];rcases jz n T.qs.length with hn|hn
 .have O:ks[n]?=some (ks[n]'(by rw[h.hkl];exact hn)):=ii _;have U:T.qs[n]?=some T.qs[n]:=ii _;rw[JB O U,U];simp only[kn,jd,kf,key n _ _ O U];rfl
 rw[lf hn,lf (by rw[Hj h.hkl];exact hn)];rfl
theorem TabH.app{q:Nat}(h:TabH hN H o g q ks T)(l:mz):TabH hN (H++l) o g q ks T:=by
 have key:∀{i:Nat} {x:AObj},H[i]?=some x->(H++l)[i]?=some x:=λ{i x} h=>by rw[gu (gn.1 h).1];exact h
 exact⟨key h.ho,key h.hg,key h.hq,h.hkl,λp hp=>(h.hk p hp).imp key key,h.nd,h.gk,h.bo,h.bg,h.bq,h.bk⟩
def qnt{c c':Ctx}{f:Fn}{v:Value}(h:Rel c (.fn f [] []) v):Rel c' (.fn f [] []) v:=by
 cases h with
 |data h=>cases h
 |fn _ _ _ us vs w6 hl Y h=>exact .fn f [] [] us vs w6 hl (λj x v hx=>by simp at hx) (λj x v hx=>by simp at hx)
def Pe{q:Nat}(hT:TabH hN H o g q ks T)(key:na)(r:LReq)(ha:qg (r8 T.qs))(hl:T.qs.length<68719476736)(hlr:∀x∈T.qs,x.reqs.length<68719476736) :
  ACalls prog 92 [P0 o,my key,.agg r.c] H λr' H'=>r'=.ret (.tuple [])/\(∃jU,TabH hN H' o g q jU ⟨T.glob,ua key r T.qs⟩)/\H.length<=H'.length/\∀i,i<hN->H'[i]?=H[i]?:=by
 refine Bf func92 rfl ah (by simp[ntmps92]) ?_;intro E B hh Q hb nl qb;rw[ntmps92]at B;have qi:=(gn.1 hT.ho).1;have hq':=(gn.1 hT.hq).1;have pa:=(gn.1 hT.hg).1;have bo:∀l,(H++l)[o]?=some (.cells [.own g T.glob.length,.own q T.qs.length]):=λl=>by rw[gu qi];exact hT.ho
 have bq:∀l,(H++l)[q]?=some (.oarr 192 2 (yb ks T.qs)):=λl=>by rw[gu hq'];exact hT.hq
 refine yv (pY ?_);simp[go_sem,B];refine yv (qU [_,_,_,_,_] _ ?_);simp[go_sem,B,bo];intro c a w sm k;have hT1:=hT.app [.cells r.c];refine M6 sm k (f:=.func 132) (args:=#[.tmp 12,.tmp 13,.func 133]) rfl qhh rfl af (py:=132) af
  (λy=>match y with| .tmp 12=>.slice (T.qs.map LQ.c)| .tmp 13=>my key|_=>.fn (.func 133) [] []) ?_ (x:=.tuple [I (ru key (r8 T.qs)),Bo (decide ((r8 T.qs)[ru key (r8 T.qs)]?=some key))]) (Xq T.qs key ha) rfl ?_
 .intro y hy v G;simp only[iq,qi0,or_false]at hy;rcases hy with rfl|rfl|rfl
  .have h9:=qqy sm.hs hT1.hq (Hj hT.hkl) ei hT1.view.1
   rwa [hT1.view.2]at h9
  .exact Kw rfl ei
  exact qnt (c:=c) ei
 intro a' w' s' k';refine lF _ [_,_,_,_,_,_] _ rfl ?_ _ a' w' s' k';simp[go_sem,B];have hps:=zO key (r8 T.qs);rw[show(r8 T.qs).length=T.qs.length by simp]at hps;have hF:=@OE key r T.qs;have jB:=@Mz key r T.qs;refine yv (yv (pY ?_));simp[go_sem,B];generalize hpos:ru key (r8 T.qs)=nk at hps hF jB|-;have hzl:(yb ks T.qs).length=T.qs.length:=Hj hT.hkl;by_cases hc:∃a,T.qs[nk]?=some a/\a.key=key
 .refine BS (b:=false) (by simp[go_sem];exact hc) (λh=>by cases h) (λ_=>?_);refine Fu ?_;simp;obtain⟨y3,vX,hqs⟩:=hF (by obtain⟨a,ha,hb⟩:=hc;simp[ha,hb]);have hkp:ks[nk]?=some (ks[nk]'(by rw[hT.hkl];exact y3)):=ii _;have hqp:T.qs[nk]?=some T.qs[nk]:=ii y3;obtain⟨k,hk⟩:∃k,ks[nk]'(by rw[hT.hkl];exact y3)=k:=⟨_,rfl⟩
  rw[hk]at hkp;have hkm:k∈ks:=gw hkp;obtain⟨k1,k2,k3,k4⟩:=hT.kne hkm;obtain⟨n1,n2,n3⟩:=hT.gne;have hrq:=hlr _ (ij y3);obtain⟨R,hR⟩:=Qaj (yb ks T.qs)
  have hRp:R[nk]?=some [my T.qs[nk].key,.own k T.qs[nk].reqs.length]:=by rw[<-hR];exact JB hkp hqp
  rw[hR]at hzl;have hRg:∀h,R[nk]'h=[my T.qs[nk].key,.own k T.qs[nk].reqs.length]:=λh=>by have h9:=hRp;rw[ii h]at h9;exact qiy h9
  have xq':∀l,(H++l)[q]?=some (.oarr 192 2 R):=λl=>by rw[bq,hR]
  have fin:∀(h':mz) (nr:AObj),h'.length=H.length+1->h'[q]?=some (.oarr 192 2 (R.set nk [my T.qs[nk].key,.own k (T.qs[nk].reqs.length+1)]))->h'[k]?=some nr->nr.under h'.length=true->isQ h' k (T.qs[nk].reqs++[r]) ->
    (∀i,i<H.length->i≠q->i≠k->h'[i]?=H[i]?)->h'[H.length]?=some (.cells r.c) ->
    hUnder h'.length h'=true/\TabH hN h' o g q ks ⟨T.glob,ua key r T.qs⟩/\∀i,i<hN->h'[i]?=H[i]?:=by
   intro h' nr hYl yq yk hnu yK ye yr;have Al:R.set nk [my T.qs[nk].key,V.own k (T.qs[nk].reqs.length+1)]=yb ks (ua key r T.qs):=by simp_all[qmd]
   refine⟨?_,⟨?_,?_,by rw[yq,Al],?_,λp hp=>?_,hT.nd,hT.gk,hT.bo,hT.bg,hT.bq,hT.bk⟩,λi hi=>?_⟩
   .rw[lY];intro ob hob;obtain⟨i,hi⟩:=iw hob;have tq:i<h'.length:=(gn.1 hi).1;by_cases e1:i=q
    .subst e1;rw[yq]at hi;cases hi;simp only[AObj.under,jk];rw[Al];exact λr' o6=>JI (λk hk=>by have:=(hT.kne hk).1;omega) r' o6
    by_cases e2:i=k
    .subst e2;rw[yk]at hi;cases hi;exact hnu
    by_cases e3:i=H.length
    .subst e3;rw[yr]at hi;cases hi;rfl
    rw[ye i J e1 e2]at hi;exact lY.1 (aQ (by omega:H.length<=h'.length) Q) ob (gw hi)
   .rw[ye o qi (Ne.symm n3) (Ne.symm k2),hT.ho,hqs];simp
   .rw[ye g pa n2 (Ne.symm k4)];exact hT.hg
   .rw[hqs];simp[hT.hkl]
   .obtain⟨j,hj⟩:=iw hp;rw[List.getElem?_zip_eq_some]at hj;obtain⟨j1,j2⟩:=hj;simp only[hqs]at j2;by_cases e:j=nk
    .subst e;grind
    rw[gv (Ne.symm e)]at j2;have U:=hT.hkI j p.1 p.2 j1 j2;have h3:=hT.kne (gw j1);have h4:p.1≠k:=λe3=>by
     obtain⟨a1,a2⟩:=gn.1 j1;obtain⟨b1,b2⟩:=gn.1 hkp;have h6:ks[j]=ks[nk]:=by rw[a2,b2,e3]
     rcases Nat.lt_or_gt_of_ne e with h7|h7
     .exact qju.1 hT.nd j nk a1 b1 h7 h6
     exact qju.1 hT.nd nk j b1 a1 h7 h6.symm
    grind[isQ]
   have O:=hT.bo;have U:=hT.bq;have h3:=hT.bk k hkm;grind
  rcases hT.hkI nk k _ hkp hqp with rR|rR
  all_goals
   have xk':∀l,(H++l)[k]?=_:=λl=>by rw[gu k1]
   have xk2:∀l ac,((H++l).set k ac)[q]?=some (.oarr 192 2 R):=λl ac=>by rw[gv k3];exact xq' l
   have xk3:∀l ac,((H++l).set k ac)[o]?=some (.cells [.own g T.glob.length,.own q T.qs.length]):=λl ac=>by rw[gv k2];exact bo l
  .refine xQ 16 15 [0,1,2,3,4] mixed ah ?_;simp-dsimp[go_sem,B,bo,xq',xk',xk2,xk3,rR,hzl,y3,hRp,hRg,hrq,LReq.c];refine⟨J,?_⟩;obtain⟨h',hY⟩:=Qaj (((H++[AObj.cells [I r.t,Bo r.w]]).set k (AObj.uarr 152 2 (T.qs[nk].reqs.map LReq.c++[[V.val (Value.int IntKind.i64 r.t),V.val (Value.bool r.w)]]))).set q (AObj.oarr 192 2 (R.set nk [my T.qs[nk].key,V.own k (T.qs[nk].reqs.length+1)])))
   have hYl:h'.length=H.length+1:=by rw[<-hY];simp
   have yk:h'[k]?=some (AObj.uarr 152 2 ((T.qs[nk].reqs++[r]).map LReq.c)):=by rw[<-hY,gv (Ne.symm k3),ji au,jr];rfl
   obtain⟨f1,f2,f3⟩:=fin h' _ hYl (by rw[<-hY];exact ji au) yk rfl (by first|exact .inl yk|exact .inr yk) (λi O U h3=>by rw[<-hY,gv (Ne.symm U),gv (Ne.symm h3),gu O])
    (by rw[<-hY,gv J,gv J,gz (gj _),kh];rfl)
   exact Qew
  refine xQ 16 15 [0,1,2,3,4] mixed ah ?_;simp-dsimp[go_sem,B,bo,xq',xk',xk2,xk3,rR,hzl,y3,hRp,hRg,hrq,LReq.c];refine⟨J,?_⟩;obtain⟨h',hY⟩:=Qaj (((H++[AObj.cells [I r.t,Bo r.w]]).set k (AObj.arr 152 2 (T.qs[nk].reqs.map LReq.c++[[V.val (Value.int IntKind.i64 r.t),V.val (Value.bool r.w)]]))).set q (AObj.oarr 192 2 (R.set nk [my T.qs[nk].key,V.own k (T.qs[nk].reqs.length+1)])))
  have hYl:h'.length=H.length+1:=by rw[<-hY];simp
  have yk:h'[k]?=some (AObj.arr 152 2 ((T.qs[nk].reqs++[r]).map LReq.c)):=by rw[<-hY,gv (Ne.symm k3),ji au,jr];rfl
  obtain⟨f1,f2,f3⟩:=fin h' _ hYl (by rw[<-hY];exact ji au) yk rfl (by first|exact .inl yk|exact .inr yk) (λi O U h3=>by rw[<-hY,gv (Ne.symm U),gv (Ne.symm h3),gu O])
   (by rw[<-hY,gv J,gv J,gz (gj _),kh];rfl)
  exact Qew
 refine BS (b:=true) (by simp[go_sem];simpa using hc) (λ_=>?_) (λh=>by cases h);refine qU [_,_,_,_,_,_,_,_] _ ?_;simp[go_sem,B,bo];intro c a w sm k;refine SK sm k (T:=99) (el:=192) (sz:=2) (x:=.tmp 26) (xa:=.tmp 23) (xb:=.tmp 24) (f:=.func 134) (d1:=27) (y:=.agg [my key,.nils]) (py:=134) ZV rfl rfl rfl J qhh rfl rfl af af af J J af af rfl rfl (i:=q) (n:=T.qs.length) af (nk:=nk) af Z Z rfl
  ⟨Tryz.f134,func134,ah,ah⟩ (bq _) hzl hps J λc' a' w' s' k'=>?_
 refine lF _ [_,_,_,_,_,_,_,_,_,_] _ rfl ?_ c' a' w' s' k';have hqo:q≠o:=λe=>by have O:=hT.hq;rw[e,hT.ho]at O;cases O
 have bo2:∀X:AObj,((H++[AObj.cells r.c]).set q X)[o]?=some (.cells [.own g T.glob.length,.own q T.qs.length]):=λX=>by rw[gv hqo];exact bo _
 simp[go_sem,B,bo2];obtain⟨R,hR⟩:=Qaj ((yb ks T.qs).take nk++[my key,.nils]::(yb ks T.qs).drop nk)
 rw[hR];have hRl:R.length=T.qs.length+1:=by rw[<-hR];simp[hzl];omega
 have hRp:R[nk]?=some [my key,.nils]:=by rw[<-hR,gz (by rw[kc,hzl];omega),kc,hzl,lx hps,kh];rfl
 have y3:nk<T.qs.length+1:=J;obtain⟨X,hX⟩:=Qaj (((H++[AObj.cells r.c]).set q (.oarr 192 2 R)).set o (.cells [.own g T.glob.length,.own q (T.qs.length+1)]))
 rw[hX];have pT:X.length=H.length+1:=by rw[<-hX];simp
 have xo:X[o]?=some (.cells [.own g T.glob.length,.own q (T.qs.length+1)]):=by rw[<-hX];exact ji au
 have xq:X[q]?=some (.oarr 192 2 R):=by rw[<-hX,gv (Ne.symm hqo)];exact ji au
 have xr:X[H.length]?=some (.cells r.c):=by rw[<-hX,gv J,gv J];simp
 have xe:∀i,i<H.length->i≠o->i≠q->X[i]?=H[i]?:=λi O U h3=>by rw[<-hX,gv (Ne.symm U),gv (Ne.symm h3),gu O]
 have xo':∀l,(X++l)[o]?=some (.cells [.own g T.glob.length,.own q (T.qs.length+1)]):=λl=>by rw[gu J];exact xo
 have xq':∀l,(X++l)[q]?=some (.oarr 192 2 R):=λl=>by rw[gu J];exact xq
 have hRg:∀h,R[nk]'h=[my key,.nils]:=λh=>by have h9:=hRp;rw[ii h]at h9;exact qiy h9
 have xrg:∀h,X[H.length]'h=.cells r.c:=λh=>by have h9:=xr;rw[ii h]at h9;exact qiy h9
 refine xQ 16 15 [0,1,2,3,4] mixed ah ?_;simp-dsimp[go_sem,B,xo,xq,xr,xo',xq',hRl,hRp,hRg,xrg,y3,pT,LReq.c];have hqs:=jB (by simpa using hc);obtain⟨n1,n2,n3⟩:=hT.gne;obtain⟨h',hY⟩:=Qaj ((X++[AObj.arr 152 2 [[V.val (Value.int IntKind.i64 r.t),V.val (Value.bool r.w)]]]).set q (.oarr 192 2 (R.set nk [my key,V.own (H.length+1) 1])))
 rw[hY];have hYl:h'.length=H.length+2:=by rw[<-hY];simp[pT]
 have yq:h'[q]?=some (.oarr 192 2 (R.set nk [my key,V.own (H.length+1) 1])):=by rw[<-hY];exact ji (by simp[pT];omega)
 have ye:∀i,i<H.length+1->i≠q->h'[i]?=X[i]?:=λi O U=>by rw[<-hY,gv (Ne.symm U),gu J]
 have yn:h'[H.length+1]?=some (.arr 152 2 [r.c]):=by rw[<-hY,gv J,gz J,pT,kh];rfl
 have Al:R.set nk [my key,V.own (H.length+1) 1]=yb (ks.take nk++(H.length+1)::ks.drop nk) (ua key r T.qs):=by rw[hqs,qsf hT.hkl,<-hR,Yj _ _ _ _ (by rw[kc,hzl];omega)];rfl
 have hksl:∀k∈ks.take nk++(H.length+1)::ks.drop nk,k=H.length+1\/k∈ks:=λk hk=>by grind
 refine⟨_,.refl _,h',rfl,hwk.refl _,J,?_,rfl,⟨ks.take nk++(H.length+1)::ks.drop nk,?_⟩,J,λi hi=>?_⟩
 .rw[lY];intro ob hob;obtain⟨i,hi⟩:=iw hob;have tq:i<h'.length:=(gn.1 hi).1;by_cases e1:i=q
  .subst e1;rw[yq]at hi;cases hi;simp only[AObj.under,jk];rw[Al];exact λr' o6=>JI (λk hk=>by
    rcases hksl k hk with rfl|O
    .omega
    have:=(hT.kne O).1;omega) r' o6
  by_cases e2:i=H.length+1
  .subst e2;rw[yn]at hi;cases hi;rfl
  rw[ye i J e1]at hi;by_cases e3:i=H.length
  .subst e3;rw[xr]at hi;cases hi;rfl
  by_cases e4:i=o
  .subst e4;rw[xo]at hi;cases hi;exact Qex
  rw[xe i J e4 e1]at hi;have:=lY.1 (aQ (by omega:H.length<=h'.length) Q) ob (gw hi);exact this
 .refine⟨?_,?_,by rw[yq,Al],?_,λp hp=>?_,?_,?_,hT.bo,hT.bg,hT.bq,λk hk=>?_⟩
  .rw[ye o J (Ne.symm n3),xo,hqs];simp;omega
  .rw[ye g J n2,xe g pa n1 n2];exact hT.hg
  .rw[hqs];simp[hT.hkl]
  .rw[hqs,List.zip_append (by simp[hT.hkl]),List.zip_cons_cons,SU,qqj]at hp;have old:p∈ks.zip T.qs->isQ h' p.1 p.2.reqs:=λO=>by
    have U:=hT.hk p O;have h3:=hT.kne (List.of_mem_zip O).1;grind[isQ]
   rcases jj.1 hp with O|O
   .exact old (qi2 O)
   rcases iq.1 O with rfl|O
   .exact .inr yn
   exact old (qjh O)
  .have hp:(ks.take nk++(H.length+1)::ks.drop nk).Perm ((H.length+1)::ks):=by
    grind[me,List.perm_middle]
   rw[hp.nodup_iff,l7];exact⟨λO=>by have:=(hT.kne O).1;omega,hT.nd⟩
  .intro O;rcases hksl g O with U|U
   .omega
   exact hT.gk U
  rcases hksl k hk with rfl|O
  .have:=hT.bo;omega
  exact hT.bk k O
 have O:=hT.bo;have U:=hT.bq;rw[ye i J J,xe i J J J]
end
def NS(c:Int):APure prog 319 [.val (.int .i32 c)] (Bo (yD c)):=by refine od func319 ntmps319 λE h B hh Q hb=>?_;simp-dsimp[go_sem,B,yD]
def Zp(s:na):APure prog 320 [my s] (I (pV (bl s))):=by
 refine ry func320 ntmps320 λE h B hh Q hb=>?_;refine M ?_;refine po s.size (λn=>n+pV ((bl s).drop n)=pV (bl s)) (λn=>⟨[(0,my s),(6,P0 h.length)],h++[.iter s n]⟩) Z ng ?_;intro n hn z;have hw:=oi hn hb;refine M ?_;by_cases hc:n<s.size
 .rw[lJ hc,pV]at z;refine Qab ?_;refine nc (NS _) (M ?_);by_cases h8:(w9 s n).toNat<128
  .simp only[Z8 hc h8];refine⟨W,og (λhg=>?_) (λhg=>?_)⟩
   .have pa:xY ((w9 s n).toNat:Int)=false:=by simp[xY]at hg|-;grind
    refine M ?_;rw[<-z];simp[pa]
   have pa:xY ((w9 s n).toNat:Int)=true:=by simp[xY]at hg|-;grind
   refine Qaa ?_;exact⟨hc,by rw[gh pa]at z;omega,ng⟩
  have h9:=Ub hc h8;have pa:xY ((w9 s n).toNat:Int)=false:=by grind[xY,yD]
  have hl:yD ((Utf8.decode s n).1:Int)=false:=by grind[yD]
  refine⟨W,og (λhg=>?_) (λhg=>?_)⟩
  .refine M ?_;rw[<-z];simp[pa]
  grind
 rw[vA hc,pV]at z;refine Qab ?_;have:pV (bl s)=s.size:=J;simp[this]
def Wy(s:na):APure prog 321 [my s] (Bo (kw s)):=by
 refine od func321 ntmps321 λE h B hh Q hb=>?_;refine M ?_
 iterate 25
  refine og (λhg=>?_) (λhg=>?_)
  .simp at hg;subst hg;refine M ?_;rfl
  refine M ?_
  try simp at hg
 simp[kw, *]
def qsa(s:na):APure prog 368 [my s] (Bo (tv s)):=by
 refine ry func368 ntmps368 λE h B hh Q hb=>?_;refine M ?_;refine po s.size (λn=>ue iN ((bl s).drop n)=ue iN (bl s)) (λn=>⟨[(0,my s),(3,I n)],h⟩) Z ng ?_;intro n hn z;have hw:=oi hn hb;refine nf (λhc=>?_) (λhc=>?_)
 .rw[lJ hc,ue]at z;refine Qab ?_;refine og (λhg=>?_) (λhg=>?_)
  .refine M ?_;simp[tv,<-z,iN,hg]
  exact Qec
 exact Qed
def qnd(op:Int):APure prog 367 [I op] (I (uv op)):=by
 refine od func367 ntmps367 λE h B hh Q hb=>?_;refine nf (λL=>?_) (λL=>?_)<;>simp-dsimp[go_sem,B,uv,L];refine ox (λO=>?_) (λO=>?_)<;>simp-dsimp[go_sem,B,uv,L,O];refine ox (λU=>?_) (λU=>?_)<;>simp-dsimp[go_sem,B,uv]
 .omega
 omega
def Fp(s:na):APure prog 283 [my s] (Bo (kJ s)):=by
 refine od func283 ntmps283 λE h B hh Q hb=>?_;rcases KY s with rfl|O
 .exact Qey
 have s7:0<s.size:=J;have he:¬s=em:=by rintro rfl;simp at O
 simp-dsimp[go_sem,B,s7,he];refine pz (NS _) Z (M ?_);refine pz (Zp s) Z (M ?_);refine pz (Wy s) Z ?_;simp-dsimp[go_sem,B,kJ,he]
def Xj(op n:Int)(s:na)(args:List Ex)(d:Nat):APure prog 358 [.agg [I op,I n,my s,.slice (args.map Ex.c)],I d] (I (dA op n s args.length d)):=by
 refine od func358 ntmps358 λE h B hh Q hb=>?_;refine M ?_;refine nc (qnd _) (M ?_)
 repeat refine⟨W,?_⟩
 refine og (λL=>?_) (λL=>?_)
 .refine M ?_;simp at L;rw[dA,gh W]
 have jR:¬(uv op<0\/(op≠1/\n≠0)\/(op≠2/\op≠3/\s≠em)):=W;refine M ?_;refine pz (Fp s) Z (M ?_);refine og (λO=>?_) (λO=>?_)
 .refine M ?_;simp at O;rw[dA,gg jR,gh W]
 have s7:¬(op=3/\kJ s=false):=W;refine M ?_
 repeat refine⟨W,?_⟩
 refine pz (qsa s) Z (M ?_)
 repeat refine⟨W,?_⟩
 refine og (λU=>?_) (λU=>?_)
 .refine M ?_;simp at U;rw[dA,gg jR,gg s7,gh W]
 have cY:¬((op=1/\n<0)\/(op=2/\tv s=false)\/(args.length:Int)≠uv op):=W;refine nf (λh3=>?_) (λh3=>?_)
 .refine M ?_;rw[dA,gg jR,gg s7,gg cY,gh J]
 refine M ?_;rw[dA,gg jR,gg s7,gg cY,gg J]
def QZ(e:Ex)(d:Nat):APure prog 349 [.agg [I e.op,I e.n,my e.s,.slice (e.args.map Ex.c)],I d] (I (te e d)):=by
 refine ry func349 ntmps349 λE h B hh Q hb=>?_;refine M ?_;refine nc (Xj _ _ _ _ _) ?_;refine nf (λL=>?_) (λL=>?_)
 .refine M ?_;rw[yL,gg L]
 have hd:d<=12:=by grind[dA]
 refine M ?_;refine po e.args.length (λn=>dC (e.args.drop n) (d+1)=dC e.args (d+1)) (λn=>⟨[(1,I d),(16,.slice (e.args.map Ex.c)),(17,I e.args.length),(18,I n)],h⟩) Z ng ?_;intro n hn z;have hw:=oi hn hb.2.1;have uc:IntKind.i64.wrap ((d:Int)+1)=((d+1:Nat):Int):=cq;refine nf (λhc=>?_) (λhc=>?_)
 .rw[ov hc,dC]at z;simp-dsimp[go_sem,B,hc,uc];have ni:SizeOf.sizeOf e.args[n]<SizeOf.sizeOf e:=Ex.arg_lt (ij hc);refine nc (QZ e.args[n] (d+1)) ?_;refine nf (λhg=>?_) (λhg=>?_)
  .refine M ?_;rw[yL e,gh L,<-z,gg hg]
  exact Qef
 rw[gq J,dC]at z;refine M ?_;rw[yL e,gh L,<-z]
termination_by SizeOf.sizeOf e
def Iy(e:Ex):APure prog 327 [.agg [I e.op,I e.n,my e.s,.slice (e.args.map Ex.c)]] (I (te e 1)):=by refine od func327 ntmps327 λE h B hh Q hb=>?_;refine M ?_;refine nc (QZ e 1) ?_;exact Qek
def U1(op:Int):APure prog 325 [I op] (.tuple [.agg (vz op).1.c,Bo (vz op).2]):=by
 refine od func325 ntmps325 λE h B hh Q hb=>?_;by_cases O:op=1
 .subst O;exact Qez
 by_cases U:op=2
 .subst U;exact Qez
 by_cases h3:op=3
 .subst h3;exact Qez
 by_cases h4:op=4
 .subst h4;exact Qez
 by_cases h7:op=7
 .subst h7;exact Qez
 by_cases h5:op=5
 .subst h5;exact Qez
 by_cases h6:op=6
 .subst h6;exact Qez
 by_cases h8:op=8
 .subst h8;exact Qez
 simp-dsimp[go_sem,B,vz,O,U,h3,h4,h5,h6,h7,h8]
def KJ(e:Ex):APure prog 348 [.agg e.x] (Bo (kP e)):=by
 refine od func348 ntmps348 λE h B hh Q hb=>?_;simp-dsimp[go_sem,B,kP]
 try grind
def qqn(s:St)(u:Uses):APure prog 326 [.agg s.x,.agg u.c] (Bo (fG s u)):=by
 refine od func326 ntmps326 λE h B hh Q hb=>?_;refine M ?_
 repeat refine⟨W,?_⟩
 refine pz (KJ s.a) Z (M ?_)
 repeat refine⟨W,?_⟩
 refine pz (KJ s.b) Z (M ?_)
 repeat refine⟨W,?_⟩
 refine og (λL=>?_) (λL=>?_)
 .refine M ?_;simp[fG]at L|-;grind
 refine nf (λO=>?_) (λO=>?_)<;>simp-dsimp[go_sem,B,O]
 .grind[fG]
 refine ox (λU=>?_) (λU=>?_)<;>simp-dsimp[go_sem,B,U]
 .grind[fG]
 grind[fG]
def XL(s:St)(d:Int):APure prog 287 [.agg s.x,I d] (I (bW s d)):=by
 refine od func287 ntmps287 λE h B hh Q hb=>?_;refine M ?_;refine nc (U1 _) (M ?_);refine pz (qqn s (vz s.op).1) Z (M ?_);refine og (λL=>?_) (λL=>?_)
 .refine M ?_;simp at L;rw[bW,gh W]
 have jR:¬((vz s.op).2=false\/fG s (vz s.op).1=false):=W;refine M ?_;refine pz (Fp _) Z (M ?_);refine og (λO=>?_) (λO=>?_)
 .refine M ?_;simp at O;rw[bW,gg jR,gh W]
 have s7:¬((vz s.op).1.name=true/\kJ s.name=false):=W;refine M ?_;have tail:¬((vz s.op).1.a=true/\te s.a 1≠0)->¬((vz s.op).1.b=true/\te s.b 1≠0)->∀x:Int,x=(if 12<d then 2 else 0)->x=bW s d:=fp;have tailb:¬((vz s.op).1.a=true/\te s.a 1≠0)->((vz s.op).1.b=true/\te s.b 1≠0)->te s.b 1=bW s d:=fp;refine og (λU=>?_) (λU=>?_)
 .refine M ?_;refine nc (Iy s.a) ?_;refine nf (λh3=>?_) (λh3=>?_)
  .refine M ?_;rw[bW,gg jR,gg s7,gh ⟨U,h3⟩]
  refine M ?_;refine og (λh4=>?_) (λh4=>?_)
  .refine M ?_;refine nc (Iy s.b) ?_;refine nf (λh5=>?_) (λh5=>?_)
   .refine M ?_;exact tailb W ⟨h4,h5⟩
   exact Qfa
  exact Qfa
 refine M ?_;refine og (λh4=>?_) (λh4=>?_)
 .refine M ?_;refine nc (Iy s.b) ?_;refine nf (λh5=>?_) (λh5=>?_)
  .refine M ?_;exact tailb W ⟨h4,h5⟩
  exact Qfa
 exact Qfa
def qo1(x:Param)(h:mz)(i:Nat)(p:Param)(hi:h[i]?=some (.cells p.c)):ACalls prog 323 [.agg x.c,.ptr i 0] h λr Y=>r=.ret (Bo (decide (x.name=p.name)))/\Y=h:=by
 refine s8 func323 ntmps323 λE B hh Q hb nl qb=>?_;have qj:i<h.length:=(gn.1 hi).1;have a1:∀l,(h++l)[i]?=some (.cells p.c):=λl=>by rw[gu qj];exact hi
 exact Qeo
def X8(l:List Param)(f:FuncId)(pk:List V)(q:Param->Bool)(h:mz)(mU:qu h pk=pk)(hp:∀x:Param,ACalls prog f ([.agg x.c]++pk) h λr Y=>r=.ret (Bo (q x))/\Y=h) :
  ACalls prog 346 [.slice (l.map Param.c),.fn (.func f) [] pk] h λr Y=>r=.ret (I (ul q l))/\Y=h:=by
 refine cD func346 ntmps346 λE B hh Q hb nl qb=>?_;refine M ?_;refine po l.length (λn=>vy q n (l.drop n)=ul q l) (λn=>⟨[(0,.slice (l.map Param.c)),(1,.fn (.func f) [] pk),(7,I l.length),(8,I n)],h⟩) e6 (Wk.mk bb Z ee bh) ?_;intro n hn z;have hw:=oi hn hb.1;refine nf (λhc=>?_) (λhc=>?_)
 .rw[ov hc,vy]at z;simp-dsimp[go_sem,B,hc,mU];refine se (hp l[n]) ?_;rintro r Y ⟨rfl,rfl⟩;refine M ?_;refine og ?_ ?_<;>intro hg<;>try simp at hg
  .exact Qep
  exact Qeq
 exact Qer
def Tw(l:List Param)(f:FuncId)(pk:List V)(q:Param->Bool)(h:mz)(mU:qu h pk=pk)(hp:∀x:Param,ACalls prog f ([.agg x.c]++pk) h λr Y=>r=.ret (Bo (q x))/\Y=h) :
  ACalls prog 322 [.slice (l.map Param.c),.fn (.func f) [] pk] h λr Y=>r=.ret (Bo (ut q l))/\Y=h:=by
 refine s8 func322 ntmps322 λE B hh Q hb nl qb=>?_;refine M ?_;refine se (X8 l f pk q h mU hp) ?_;rintro r Y ⟨rfl,rfl⟩;simp-dsimp[go_sem,B,KZ];exact⟨_,.refl _,Y,af,af,Z,ak,rfl,rfl⟩
def Zw(l:List Param):APure prog 284 [.slice (l.map Param.c)] (I (tM l)):=by
 refine od func284 ntmps284 λE h B hh Q hb=>?_;unfold tM;simp[go_sem]at hb;refine nf (λL=>?_) (λL=>?_)
 .exact Qfb
 refine M ?_;rw[gg J];refine po l.length (λn=>rV (l.take n) (l.drop n)=rV [] l) (λn=>⟨[(0,.slice (l.map Param.c)),(8,.slice (l.map Param.c)),(9,I l.length),(10,I n)],h⟩) Z ng ?_;intro n hn z;have hw:=oi hn hb.1;refine nf (λhc=>?_) (λhc=>?_)
 .rw[ov hc,rV]at z;refine Qab ?_;refine nc (Fp _) ?_;refine nf (λO=>?_) (λO=>?_)
  .refine M ?_;simpa[O]using z
  refine nf (λU=>?_) (λU=>?_)
  .refine M ?_;simpa[O,U]using z
  have cY:¬(l[n].ty<1\/3<l[n].ty):=J;simp-dsimp[go_sem,B,hn];have ecl:(List.map Param.c l).take n=(l.take n).map Param.c:=Z;rw[ecl];refine o7 (Tw (l.take n) _ _ (λx=>decide (x.name=l[n].name)) _ eg (λx=>qo1 x _ _ l[n] (by simp[Param.c]))) (M ?_);refine og ?_ ?_<;>intro h3<;>try simp at h3
  .refine M ?_;simpa[O,cY,h3]using z
  refine Qaa ?_;refine⟨hc,?_,ng⟩;rw[jn hc];simpa[O,cY,h3]using z
 rw[gq J,rV]at z;exact Qem
