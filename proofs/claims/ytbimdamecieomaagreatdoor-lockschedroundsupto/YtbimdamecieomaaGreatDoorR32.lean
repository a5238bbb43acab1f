/- Part 32 of a proof. -/
import Derived.Test.YtbimdamecieomaaGreatDoorProg
import Derived.KernelRfl
import Derived.Test.YtbimdamecieomaaGreatDoorR26
set_option linter.all false
namespace Go.Proofs.YtbimdamecieomaaGreatDoor
open Go Go.Abs Tryz
@[simp] theorem tk1:ij prog 1=.func∧iy prog 1=1∧jo prog 1=[.val .nilFunc]∧jn prog 1=8∧ij prog 2=.int .i64∧iy prog 2=1:=ai
@[simp] theorem tz2:jo prog 2=[.val (.int .i64 0)]∧jn prog 2=8∧ij prog 3=.int .i64∧iy prog 3=1∧jo prog 3=[.val (.int .i64 0)]∧jn prog 3=8:=ai
@[simp] theorem tk4:ij prog 4=.bool∧iy prog 4=1∧jo prog 4=[.val (.bool false)]∧jn prog 4=1∧ij prog 5=.int .u8∧iy prog 5=1:=ai
@[simp] theorem tz5:jo prog 5=[.val (.int .u8 0)]∧jn prog 5=1∧ij prog 9=.string∧iy prog 9=1∧jo prog 9=[.val (.string ⟨#[]⟩)]∧jn prog 9=16:=ai
@[simp] theorem jpt:ij prog 20=.iface∧iy prog 20=1∧jo prog 20=[.val .nilIface]∧jn prog 20=16∧ij prog 21=.int .i32∧iy prog 21=1:=ai
@[simp] theorem jqa:jo prog 21=[.val (.int .i32 0)]∧jn prog 21=4∧ij prog 22=.slice 78 3∧iy prog 22=1∧jo prog 22=[.nils]∧jn prog 22=24:=ai
@[simp] theorem jo6:ij prog 23=.slice 73 4∧iy prog 23=1∧jo prog 23=[.nils]∧jn prog 23=24∧ij prog 24=.slice 50 7∧iy prog 24=1:=ai
@[simp] theorem jq4:jo prog 24=[.nils]∧jn prog 24=24∧ij prog 25=.struct [(0,1),(1,1),(2,1)]∧iy prog 25=3∧jo prog 25=[.nils,.nils,.nils]∧jn prog 25=72:=ai
@[simp] theorem jq5:ij prog 26=.struct [(0,1),(1,1),(2,1)]∧iy prog 26=3∧jo prog 26=[.nils,.nils,.nils]∧jn prog 26=72∧ij prog 27=.slice 3 1∧iy prog 27=1:=ai
@[simp] theorem jo8:jo prog 27=[.nils]∧jn prog 27=24∧ij prog 28=.slice 63 8∧iy prog 28=1∧jo prog 28=[.nils]∧jn prog 28=24:=ai
@[simp] theorem jq7:ij prog 38=.slice 43 3∧iy prog 38=1∧jo prog 38=[.nils]∧jn prog 38=24∧ij prog 41=.slice 9 1∧iy prog 41=1:=ai
@[simp] theorem jqe:jo prog 41=[.nils]∧jn prog 41=24∧ij prog 43=.struct [(0,1),(1,1),(2,1)]∧iy prog 43=3∧jo prog 43=[.val (.bool false),.nils,.nils]∧jn prog 43=56:=ai
@[simp] theorem jrj:ij prog 45=.int .i64∧iy prog 45=1∧jo prog 45=[.val (.int .i64 0)]∧jn prog 45=8∧ij prog 48=.slice 71 3∧iy prog 48=1:=ai
@[simp] theorem jqf:jo prog 48=[.nils]∧jn prog 48=24∧ij prog 50=.struct [(0,1),(1,1),(2,1),(3,3),(6,1)]∧iy prog 50=7∧jo prog 50=[.val (.int .i64 0),.val (.string ⟨#[]⟩),.nils,.val (.bool false),.nils,.nils,.val (.int .i64 0)]∧jn prog 50=112:=ai
@[simp] theorem jpe:ij prog 53=.slice 95 2∧iy prog 53=1∧jo prog 53=[.nils]∧jn prog 53=24∧ij prog 54=.slice 107 2∧iy prog 54=1:=ai
@[simp] theorem jp5:jo prog 54=[.nils]∧jn prog 54=24∧ij prog 56=.struct [(0,1),(1,1)]∧iy prog 56=2∧jo prog 56=[.nils,.nils]∧jn prog 56=48:=ai
@[simp] theorem jql:ij prog 61=.struct [(0,1),(1,1),(2,1)]∧iy prog 61=3∧jo prog 61=[.val (.int .i64 0),.val (.int .i64 0),.nils]∧jn prog 61=40∧ij prog 63=.struct [(0,3),(3,1),(4,1),(5,1),(6,1),(7,1)]∧iy prog 63=8:=ai
@[simp] theorem jpp:jo prog 63=[.val (.int .i64 0),.val (.int .i64 0),.nils,.nils,.nils,.nils,.val (.string ⟨#[]⟩),.val (.int .i64 0)]∧jn prog 63=136∧ij prog 71=.struct [(0,1),(1,1),(2,1)]∧iy prog 71=3∧jo prog 71=[.val (.int .i64 0),.val (.int .i64 0),.val (.string ⟨#[]⟩)]:=ai
@[simp] theorem jpx:qm2 prog 71=[.int .i64,.int .i64,.string]:=ac
@[simp] theorem jox:jn prog 71=32∧ij prog 73=.struct [(0,1),(1,3)]∧iy prog 73=4∧jo prog 73=[.val (.string ⟨#[]⟩),.val (.int .i64 0),.val (.int .i64 0),.val (.string ⟨#[]⟩)]:=ai
@[simp] theorem jqg:qm2 prog 73=[.string,.int .i64,.int .i64,.string]:=ac
@[simp] theorem jqb:jn prog 73=48∧ij prog 75=.slice 116 2∧iy prog 75=1∧jo prog 75=[.nils]∧jn prog 75=24∧ij prog 76=.slice 121 13:=ai
@[simp] theorem jrt:iy prog 76=1∧jo prog 76=[.nils]∧jn prog 76=24∧ij prog 78=.struct [(0,1),(1,1),(2,1)]∧iy prog 78=3∧jo prog 78=[.val (.string ⟨#[]⟩),.nils,.nils]:=ai
@[simp] theorem jrx:jn prog 78=64∧ij prog 81=.func∧iy prog 81=1∧jo prog 81=[.val .nilFunc]∧jn prog 81=8∧ij prog 83=.struct [(0,1)]:=ai
@[simp] theorem jom:iy prog 83=1∧jo prog 83=[.val .nilFunc]∧jn prog 83=8∧ij prog 95=.struct [(0,1),(1,1)]∧iy prog 95=2∧jo prog 95=[.val (.int .i64 0),.val (.bool false)]:=ai
@[simp] theorem jq6:qm2 prog 95=[.int .i64,.bool]:=ac
@[simp] theorem joy:jn prog 95=16∧ij prog 98=.ptr∧iy prog 98=1∧jo prog 98=[.val (.pointer none)]∧jn prog 98=8∧ij prog 107=.struct [(0,1),(1,1)]:=ai
@[simp] theorem jpf:iy prog 107=2∧jo prog 107=[.val (.string ⟨#[]⟩),.nils]∧jn prog 107=40∧ij prog 116=.struct [(0,1),(1,1)]∧iy prog 116=2∧jo prog 116=[.val (.string ⟨#[]⟩),.val (.int .i64 0)]:=ai
@[simp] theorem jrs:qm2 prog 116=[.string,.int .i64]:=ac
@[simp] theorem jrc:jn prog 116=24∧ij prog 117=.slice 119 4∧iy prog 117=1∧jo prog 117=[.nils]∧jn prog 117=24∧ij prog 119=.struct [(0,1),(1,1),(2,1),(3,1)]:=ai
@[simp] theorem jp9:iy prog 119=4∧jo prog 119=[.val (.int .i64 0),.val (.int .i64 0),.val (.string ⟨#[]⟩),.nils]∧jn prog 119=56∧ij prog 121=.struct [(0,1),(1,1),(2,1),(3,4),(7,4),(11,1),(12,1)]∧iy prog 121=13∧jo prog 121=[.val (.int .i64 0),.val (.string ⟨#[]⟩),.val (.int .i64 0),.val (.int .i64 0),.val (.int .i64 0),.val (.string ⟨#[]⟩),.nils,.val (.int .i64 0),.val (.int .i64 0),.val (.string ⟨#[]⟩),.nils,.nils,.nils]:=ai
@[simp] theorem jp1:jn prog 121=192∧ij prog 128=.func∧iy prog 128=1∧jo prog 128=[.val .nilFunc]∧jn prog 128=8∧ij prog 131=.func:=ai
@[simp] theorem jrk:iy prog 131=1∧jo prog 131=[.val .nilFunc]∧jn prog 131=8∧ij prog 135=.func∧iy prog 135=1∧jo prog 135=[.val .nilFunc]:=ai
@[simp] theorem jp8:jn prog 135=8∧ij prog 139=.ptr∧iy prog 139=1∧jo prog 139=[.val (.pointer none)]∧jn prog 139=8∧ij prog 141=.map 9 71:=ai
@[simp] theorem jqy:iy prog 141=1∧jo prog 141=[.val (.map none)]∧jn prog 141=8∧ij prog 143=.struct [(0,1),(1,3),(4,1),(5,1),(6,8)]∧iy prog 143=14∧jo prog 143=[.nils,.val (.bool false),.nils,.nils,.val (.map none),.val (.map none),.val (.int .i64 0),.val (.int .i64 0),.nils,.nils,.nils,.nils,.val (.string ⟨#[]⟩),.val (.int .i64 0)]:=ai
@[simp] theorem jpa:jn prog 143=232∧ij prog 146=.struct [(0,3),(3,1)]∧iy prog 146=4∧jo prog 146=[.val (.int .i64 0),.val (.int .i64 0),.nils,.val (.string ⟨#[]⟩)]∧jn prog 146=56∧ij prog 150=.func:=ai
@[simp] theorem jqd:iy prog 150=1∧jo prog 150=[.val .nilFunc]∧jn prog 150=8∧ij prog 151=.func∧iy prog 151=1∧jo prog 151=[.val .nilFunc]:=ai
@[simp] theorem jp7:jn prog 151=8∧ij prog 153=.func∧iy prog 153=1∧jo prog 153=[.val .nilFunc]∧jn prog 153=8∧ij prog 154=.func:=ai
@[simp] theorem jpn:iy prog 154=1∧jo prog 154=[.val .nilFunc]∧jn prog 154=8∧ij prog 162=.struct [(0,1),(1,3),(4,1),(5,1),(6,8)]∧iy prog 162=14∧jo prog 162=[.nils,.val (.bool false),.nils,.nils,.nils,.nils,.val (.int .i64 0),.val (.int .i64 0),.nils,.nils,.nils,.nils,.val (.string ⟨#[]⟩),.val (.int .i64 0)]:=ai
@[simp] theorem jq1:jn prog 162=264∧ij prog 167=.int .u64∧iy prog 167=1∧jo prog 167=[.val (.int .u64 0)]∧jn prog 167=8∧ij prog 170=.func:=ai
@[simp] theorem jph:iy prog 170=1∧jo prog 170=[.val .nilFunc]∧jn prog 170=8∧ij prog 174=.array 4 3 1∧iy prog 174=4∧jo prog 174=[.val (.int .i64 0),.val (.int .i64 0),.val (.int .i64 0),.val (.int .i64 0)]:=ai
@[simp] theorem jri:jn prog 174=32∧ij prog 187=.struct [(0,1),(1,1)]∧iy prog 187=2∧jo prog 187=[.nils,.nils]∧jn prog 187=48∧ij prog 192=.struct [(0,1),(1,1),(2,1),(3,1)]:=ai
@[simp] theorem jqk:iy prog 192=4∧jo prog 192=[.val (.int .i64 0),.val (.int .i64 0),.val (.int .i64 0),.val (.int .i64 0)]:=ai
@[simp] theorem jpu:qm2 prog 192=[.int .i64,.int .i64,.int .i64,.int .i64]:=ac
@[simp] theorem jqh:jn prog 192=32∧ij prog 197=.map 9 3∧iy prog 197=1∧jo prog 197=[.val (.map none)]∧jn prog 197=8∧ij prog 210=.int .i64:=ai
@[simp] theorem jp4:iy prog 210=1∧jo prog 210=[.val (.int .i64 0)]∧jn prog 210=8∧ij prog 218=.int .u32∧iy prog 218=1∧jo prog 218=[.val (.int .u32 0)]:=ai
@[simp] theorem jqz:jn prog 218=4∧ij prog 220=.int .u64∧iy prog 220=1∧jo prog 220=[.val (.int .u64 0)]∧jn prog 220=8∧ij prog 222=.slice 225 20:=ai
@[simp] theorem jrb:iy prog 222=1∧jo prog 222=[.nils]∧jn prog 222=24∧ij prog 225=.struct [(0,1),(1,13),(14,1),(15,4),(19,1)]∧iy prog 225=20∧jo prog 225=[.val (.bool false),.val (.int .i64 0),.val (.string ⟨#[]⟩),.val (.int .i64 0),.val (.int .i64 0),.val (.int .i64 0),.val (.string ⟨#[]⟩),.nils,.val (.int .i64 0),.val (.int .i64 0),.val (.string ⟨#[]⟩),.nils,.nils,.nils,.val (.int .i64 0),.val (.int .i64 0),.val (.int .i64 0),.val (.string ⟨#[]⟩),.nils,.val (.bool false)]:=ai
@[simp] theorem jpw:jn prog 225=272∧ij prog 239=.ptr∧iy prog 239=1∧jo prog 239=[.val (.pointer none)]∧jn prog 239=8∧ij prog 240=.map 9 4:=ai
@[simp] theorem jq9:iy prog 240=1∧jo prog 240=[.val (.map none)]∧jn prog 240=8∧ij prog 242=.struct [(0,1),(1,1),(2,1)]∧iy prog 242=3∧jo prog 242=[.val (.map none),.val (.map none),.val (.map none)]:=ai
@[simp] theorem jpo:jn prog 242=24∧ij prog 256=.int .u64∧iy prog 256=1∧jo prog 256=[.val (.int .u64 0)]∧jn prog 256=8∧ij prog 260=.ptr:=ai
@[simp] theorem jpb:iy prog 260=1∧jo prog 260=[.val (.pointer none)]∧jn prog 260=8∧ij prog 266=.func∧iy prog 266=1∧jo prog 266=[.val .nilFunc]:=ai
@[simp] theorem jrn:jn prog 266=8∧ij prog 282=.func∧iy prog 282=1∧jo prog 282=[.val .nilFunc]∧jn prog 282=8∧ij prog 283=.func:=ai
@[simp] theorem jrp:iy prog 283=1∧jo prog 283=[.val .nilFunc]∧jn prog 283=8∧ij prog 306=.func∧iy prog 306=1∧jo prog 306=[.val .nilFunc]:=ai
@[simp] theorem jqi:jn prog 306=8∧ij prog 307=.ptr∧iy prog 307=1∧jo prog 307=[.val (.pointer none)]∧jn prog 307=8∧ij prog 309=.struct [(0,1),(1,1),(2,1)]:=ai
@[simp] theorem jqo:iy prog 309=3∧jo prog 309=[.val (.int .i64 0),.val .nilFunc,.val .nilFunc]∧jn prog 309=24∧ij prog 312=.struct [(0,1),(1,1),(2,1),(3,1),(4,1),(5,1)]∧iy prog 312=6∧jo prog 312=[.val (.bool false),.val (.bool false),.val (.bool false),.val (.bool false),.val (.bool false),.val (.bool false)]:=ai
@[simp] theorem jrl:qm2 prog 312=[.bool,.bool,.bool,.bool,.bool,.bool]:=ac
@[simp] theorem jr6:jn prog 312=6∧ij prog 328=.struct [(0,3),(3,3)]∧iy prog 328=6∧jo prog 328=[.val (.int .i64 0),.val (.int .i64 0),.val (.string ⟨#[]⟩),.val (.int .i64 0),.val (.int .i64 0),.val (.string ⟨#[]⟩)]:=ai
@[simp] theorem jov:qm2 prog 328=[.int .i64,.int .i64,.string,.int .i64,.int .i64,.string]:=ac
@[simp] theorem jqx:jn prog 328=64∧ij prog 331=.slice 5 1∧iy prog 331=1∧jo prog 331=[.nils]∧jn prog 331=24∧ij prog 333=.array 24 5 1:=ai
@[simp] theorem jou:iy prog 333=24∧jo prog 333=[.val (.int .u8 0),.val (.int .u8 0),.val (.int .u8 0),.val (.int .u8 0),.val (.int .u8 0),.val (.int .u8 0),.val (.int .u8 0),.val (.int .u8 0),.val (.int .u8 0),.val (.int .u8 0),.val (.int .u8 0),.val (.int .u8 0),.val (.int .u8 0),.val (.int .u8 0),.val (.int .u8 0),.val (.int .u8 0),.val (.int .u8 0),.val (.int .u8 0),.val (.int .u8 0),.val (.int .u8 0),.val (.int .u8 0),.val (.int .u8 0),.val (.int .u8 0),.val (.int .u8 0)]∧jn prog 333=24∧ij prog 340=.array 20 220 1∧iy prog 340=20∧jo prog 340=[.val (.int .u64 0),.val (.int .u64 0),.val (.int .u64 0),.val (.int .u64 0),.val (.int .u64 0),.val (.int .u64 0),.val (.int .u64 0),.val (.int .u64 0),.val (.int .u64 0),.val (.int .u64 0),.val (.int .u64 0),.val (.int .u64 0),.val (.int .u64 0),.val (.int .u64 0),.val (.int .u64 0),.val (.int .u64 0),.val (.int .u64 0),.val (.int .u64 0),.val (.int .u64 0),.val (.int .u64 0)]:=ai
@[simp] theorem joq:jn prog 340=160∧ij prog 343=.array 32 5 1∧iy prog 343=32∧jo prog 343=[.val (.int .u8 0),.val (.int .u8 0),.val (.int .u8 0),.val (.int .u8 0),.val (.int .u8 0),.val (.int .u8 0),.val (.int .u8 0),.val (.int .u8 0),.val (.int .u8 0),.val (.int .u8 0),.val (.int .u8 0),.val (.int .u8 0),.val (.int .u8 0),.val (.int .u8 0),.val (.int .u8 0),.val (.int .u8 0),.val (.int .u8 0),.val (.int .u8 0),.val (.int .u8 0),.val (.int .u8 0),.val (.int .u8 0),.val (.int .u8 0),.val (.int .u8 0),.val (.int .u8 0),.val (.int .u8 0),.val (.int .u8 0),.val (.int .u8 0),.val (.int .u8 0),.val (.int .u8 0),.val (.int .u8 0),.val (.int .u8 0),.val (.int .u8 0)]∧jn prog 343=32∧ij prog 344=.array 64 5 1:=ai
@[simp] theorem jrr:iy prog 344=64∧jo prog 344=[.val (.int .u8 0),.val (.int .u8 0),.val (.int .u8 0),.val (.int .u8 0),.val (.int .u8 0),.val (.int .u8 0),.val (.int .u8 0),.val (.int .u8 0),.val (.int .u8 0),.val (.int .u8 0),.val (.int .u8 0),.val (.int .u8 0),.val (.int .u8 0),.val (.int .u8 0),.val (.int .u8 0),.val (.int .u8 0),.val (.int .u8 0),.val (.int .u8 0),.val (.int .u8 0),.val (.int .u8 0),.val (.int .u8 0),.val (.int .u8 0),.val (.int .u8 0),.val (.int .u8 0),.val (.int .u8 0),.val (.int .u8 0),.val (.int .u8 0),.val (.int .u8 0),.val (.int .u8 0),.val (.int .u8 0),.val (.int .u8 0),.val (.int .u8 0),.val (.int .u8 0),.val (.int .u8 0),.val (.int .u8 0),.val (.int .u8 0),.val (.int .u8 0),.val (.int .u8 0),.val (.int .u8 0),.val (.int .u8 0),.val (.int .u8 0),.val (.int .u8 0),.val (.int .u8 0),.val (.int .u8 0),.val (.int .u8 0),.val (.int .u8 0),.val (.int .u8 0),.val (.int .u8 0),.val (.int .u8 0),.val (.int .u8 0),.val (.int .u8 0),.val (.int .u8 0),.val (.int .u8 0),.val (.int .u8 0),.val (.int .u8 0),.val (.int .u8 0),.val (.int .u8 0),.val (.int .u8 0),.val (.int .u8 0),.val (.int .u8 0),.val (.int .u8 0),.val (.int .u8 0),.val (.int .u8 0),.val (.int .u8 0)]∧jn prog 344=64:=ai
end Go.Proofs.YtbimdamecieomaaGreatDoor
namespace Go.Proofs.YtbimdamecieomaaGreatDoor
open Go Go.Abs Go.Cw Tryz
theorem mixed:prog.follows .mixedOrders=true:=ac
theorem jcy(s:g9):APure prog 173 [S s] (Bo (ml s)):=by
 refine ik func173 ntmps173 rfl ac rfl rfl fun E h hN hh hu hb=>?_;simp[go_sem]at hb;simp-dsimp[go_sem,hN];refine jl s.size (fun n=>o5 okB ((bl s).drop n)=o5 okB (bl s)) (fun n=>⟨[(0,S s),(3,I n)],h⟩) ae ic ?_;intro n hn hI;have hw:=iv hn hb;simp-dsimp[go_sem,hN];refine gy ?_ ?_<;>intro hc<;>try simp at hc
 ·rw[qvm hc,o5]at hI;simp-dsimp[go_sem,hN,hc];refine gy (fun hg=>?_) (fun hg=>?_)
  ·simp-dsimp[go_sem,hN];simp[ml,←hI,okB,hg]
  ·simp-dsimp[go_sem,hN,hw];exact⟨hc,qg4,ic⟩
 ·rw[qu3 aa,o5]at hI;simp-dsimp[go_sem,hN,ml,←hI]
theorem jm5(k n:Int)(s:g9):APure prog 140 [.agg [I k,I n,S s]] (Bo (vj k n s)):=by
 refine ik func140 ntmps140 rfl ac rfl rfl fun E h hN hh hu hb=>?_;simp-dsimp[go_sem,hN];refine gy ?_ ?_<;>intro h0<;>try simp at h0
 all_goals simp-dsimp[go_sem,hN,vj,h0]
 refine gy ?_ ?_<;>intro h1<;>try simp at h1
 all_goals simp-dsimp[go_sem,hN,vj,h0,h1]
 refine gy ?_ ?_<;>intro h2<;>try simp at h2
 all_goals simp-dsimp[go_sem,hN,vj,h0,h1,h2]
 refine ka (jcy s) ae ?_;simp-dsimp[go_sem,hN,vj,h0,h1,h2]
theorem ji0(b:UInt8):APure prog 128 [U8 b.toNat] (Bo (qt8 b)):=by
 refine ik func128 ntmps128 rfl ac rfl rfl fun E h hN hh hu hb=>?_;simp-dsimp[go_sem,hN,qt8];omega
theorem jj5(s:g9)(f:FuncId)(p:UInt8→Bool)(hp:∀b:UInt8,APure prog f [U8 b.toNat] (Bo (p b))):APure prog 127 [S s,.fn (.func f) [] []] (Bo (decide ((s.size:Int)≤24)&&o5 p (bl s))):=by
 refine ik func127 ntmps127 rfl ac rfl rfl fun E h hN hh hu hb=>?_;simp[go_sem]at hb;simp-dsimp[go_sem,hN];refine gy ?_ ?_<;>intro h0<;>try simp at h0
 all_goals simp-dsimp[go_sem,hN,h0]
 ·simp[Int.not_le.2 h0]
 refine jl s.size (fun n=>o5 p ((bl s).drop n)=o5 p (bl s)) (fun n=>⟨[(0,S s),(1,.fn (.func f) [] []),(10,I s.size),(11,I n)],h⟩) ae ic ?_;intro n hn hI;have hw:=iv hn hb;simp-dsimp[go_sem,hN];refine gy ?_ ?_<;>intro hc<;>try simp at hc
 ·rw[qvm hc,o5]at hI;simp-dsimp[go_sem,hN,hc];refine ia (hp _) ?_;simp-dsimp[go_sem,hN];refine gy ?_ ?_<;>intro hg<;>try simp at hg
  ·simp-dsimp[go_sem,hN];simp[h0,←hI,hg]
  ·simp-dsimp[go_sem,hN,hw];exact⟨hc,br,ic⟩
 ·rw[qu3 aa,o5]at hI;simp-dsimp[go_sem,hN,h0,←hI]
theorem qe2(s:g9):APure prog 74 [S s] (Bo (rk s)):=by
 refine ik func74 ntmps74 rfl ac rfl rfl fun E h hN hh hu hb=>?_;simp-dsimp[go_sem,hN];refine ka (jj5 s _ qt8 ji0) ae ?_;simp-dsimp[go_sem,hN,rk,Bool.and_assoc]
theorem xsm(l:List g9):APure prog 136 [.slice (l.map im)] (Bo (ui none l&&decide ((l.length:Int)≤64))):=by
 refine ik func136 ntmps136 rfl ac rfl rfl fun E h hN hh hu hb=>?_;simp[go_sem]at hb;simp-dsimp[go_sem,hN];refine jl l.length (fun n=>ui (nv l n) (l.drop n)=ui none l) (fun n=>⟨[(0,.slice (l.map im)),(5,.slice (l.map im)),(6,I l.length),(7,I n)],h⟩) qg6 ic ?_;intro n hn hI;have hw:=iv hn hb.1;simp-dsimp[go_sem,hN];refine gy ?_ ?_<;>intro hc<;>try simp at hc
 ·rw[ji hc,ui]at hI;simp-dsimp[go_sem,hN,hc];refine ia (qe2 _) ?_;cases n with
  |zero =>
   simp-dsimp[go_sem,hN];refine gy ?_ ?_<;>intro hg<;>try simp at hg
   ·simp-dsimp[go_sem,hN];simp[←hI,hg,nv,after]
   ·simp-dsimp[go_sem,hN,hw];exact⟨hc,qfs,ic⟩
  |succ m =>
   have hm:m<l.length:=aa;have oi:=qve (fp hm) hb.1;simp at hw;simp-dsimp[go_sem,hN,oi,hm];refine gy ?_ ?_<;>intro hg<;>try simp at hg
   ·simp-dsimp[go_sem,hN];rw[←hI];rcases hg with h1|h1<;>simp[nv,hm,after,h1]
   ·simp-dsimp[go_sem,hN,hw];simp[hg,nv,hm,after]at hI;exact⟨hc,qfx,ic⟩
 ·rw[cv aa,ui]at hI;simp-dsimp[go_sem,hN,←hI]
theorem jcq(a:Bool)(r w:List g9):APure prog 87 [.agg [Bo a,.slice (r.map im),.slice (w.map im)]] (Bo (my a r w)):=by
 refine ik func87 ntmps87 rfl ac rfl rfl fun E h hN hh hu hb=>?_;simp-dsimp[go_sem,hN];refine gy ?_ ?_<;>intro h0<;>try simp at h0
 all_goals simp-dsimp[go_sem,hN,my,h0]
 refine ia (xsm r) ?_;simp-dsimp[go_sem,hN];refine ka (xsm w) ae ?_;simp-dsimp[go_sem,hN,my,h0]
theorem xof(p:Pr):APure prog 97 [.agg p.c] (Bo (decide (p.v.k=0))):=by
 refine ik func97 ntmps97 rfl ac rfl rfl fun E h hN hh hu hb=>?_;simp-dsimp[go_sem,hN]
theorem jck(l:List Pr)(f:FuncId)(p:Pr→Bool)(hp:∀x:Pr,APure prog f [.agg x.c] (Bo (p x))):APure prog 166 [.slice (l.map Pr.c),.fn (.func f) [] []] (I (ni p l)):=by
 refine ik func166 ntmps166 rfl ac rfl rfl fun E h hN hh hu hb=>?_;simp[go_sem]at hb;simp-dsimp[go_sem,hN];refine jl l.length (fun n=>pp p n (l.drop n)=ni p l) (fun n=>⟨[(0,.slice (l.map Pr.c)),(1,.fn (.func f) [] []),(7,I l.length),(8,I n)],h⟩) qid ic ?_;intro n hn hI;have hw:=iv hn hb.1;simp-dsimp[go_sem,hN];refine gy ?_ ?_<;>intro hc<;>try simp at hc
 ·rw[ji hc,pp]at hI;simp-dsimp[go_sem,hN,hc];refine ia (hp l[n]) ?_;simp-dsimp[go_sem,hN];refine gy ?_ ?_<;>intro hg<;>try simp at hg
  ·simp-dsimp[go_sem,hN];simpa[hg]using hI
  ·simp-dsimp[go_sem,hN,hw];exact⟨hc,br,ic⟩
 ·rw[cv aa,pp]at hI;simp-dsimp[go_sem,hN,←hI]
theorem jec(l:List Pr)(f:FuncId)(p:Pr→Bool)(hp:∀x:Pr,APure prog f [.agg x.c] (Bo (p x))):APure prog 135 [.slice (l.map Pr.c),.fn (.func f) [] []] (Bo (mv p l)):=by
 refine ik func135 ntmps135 rfl ac rfl rfl fun E h hN hh hu hb=>?_;simp-dsimp[go_sem,hN];refine ia (jck l f p hp) ?_;simp-dsimp[go_sem,hN,xib]
theorem xt2(l:List Pr):APure prog 94 [.slice (l.map Pr.c)] (Bo (qtp none l)):=by
 refine ik func94 ntmps94 rfl ac rfl rfl fun E h hN hh hu hb=>?_;simp[go_sem]at hb;simp-dsimp[go_sem,hN];refine jl l.length (fun n=>qtp ((nv l n).map Pr.key) (l.drop n)=qtp none l) (fun n=>⟨[(0,.slice (l.map Pr.c)),(5,.slice (l.map Pr.c)),(6,I l.length),(7,I n)],h⟩) qg6 ic ?_;intro n hn hI;have hw:=iv hn hb.1;simp-dsimp[go_sem,hN];refine gy ?_ ?_<;>intro hc<;>try simp at hc
 ·rw[ji hc,qtp]at hI;simp-dsimp[go_sem,hN,hc];refine kf 22 mixed ac ac ?_;simp-dsimp[go_sem,hN];refine ku (qe2 _) ae ?_;simp-dsimp[go_sem,hN];refine ku (jm5 _ _ _) ae ?_;cases n with
  |zero =>
   simp-dsimp[go_sem,hN];refine gy ?_ ?_<;>intro hg<;>try simp at hg
   ·simp-dsimp[go_sem,hN];rw[←hI];rcases hg with h1|h1<;>simp[nv,after,h1]
   ·simp-dsimp[go_sem,hN,hw];exact⟨hc,qfs,ic⟩
  |succ m =>
   have hm:m<l.length:=aa;have oi:=qve (fp hm) hb.1;simp at hw;simp-dsimp[go_sem,hN,oi,hm];refine gy ?_ ?_<;>intro hg<;>try simp at hg
   ·simp-dsimp[go_sem,hN];rw[←hI];grind[nv,after]
   ·simp-dsimp[go_sem,hN,hw];simp[hg,nv,hm,after]at hI;exact⟨hc,qfx,ic⟩
 ·rw[cv aa,qtp]at hI;simp-dsimp[go_sem,hN,←hI]
theorem xm8(l:List Pr):APure prog 86 [.slice (l.map Pr.c)] (Bo (nn l)):=by
 refine ik func86 ntmps86 rfl ac rfl rfl fun E h hN hh hu hb=>?_;simp-dsimp[go_sem,hN];refine ia (xt2 l) ?_;simp-dsimp[go_sem,hN];refine ka (jec l _ _ xof) ae ?_;simp-dsimp[go_sem,hN,nn]
theorem jms(l:List Pr)(k:g9):APure prog 292 [.slice (l.map Pr.c),S k] (.agg (lh l k).c):=by
 refine ik func292 ntmps292 rfl ac rfl rfl fun E h hN hh hu hb=>?_;simp[go_sem]at hb;simp-dsimp[go_sem,hN];refine jl l.length (fun n=>lh (l.drop n) k=lh l k) (fun n=>⟨[(0,.slice (l.map Pr.c)),(1,S k),(4,P0 h.length),(7,.slice (l.map Pr.c)),(8,I l.length),(9,I n)],h++[.cells [I 0,I 0,S em]]⟩) ae ic ?_;intro n hn hI;have hw:=iv hn hb.1.1;simp-dsimp[go_sem,hN];refine gy ?_ ?_<;>intro hc<;>try simp at hc
 ·rw[ji hc,lh]at hI;simp-dsimp[go_sem,hN,hc];refine gy ?_ ?_<;>intro hg<;>try simp at hg
  ·simp-dsimp[go_sem,hN];simp[←hI,hg]
  ·simp-dsimp[go_sem,hN,hw];exact⟨hc,br,ic⟩
 ·rw[cv aa,lh]at hI;simp-dsimp[go_sem,hN,←hI]
end Go.Proofs.YtbimdamecieomaaGreatDoor
set_option maxRecDepth 4000
set_option maxHeartbeats 2000000
namespace Go.Proofs.YtbimdamecieomaaGreatDoor
open Go Go.Abs Go.Cw Tryz
@[simp] theorem jr1(r:LReq):r.c.length=2:=rfl
@[simp] theorem joz(r:LReq):r.c.take 2=r.c:=rfl
@[simp] theorem jp3(h:gz)(r:LReq):kc h r.c=r.c:=rfl
@[simp] theorem jpj(r:LQ):r.c.length=2:=rfl
@[simp] theorem jpg(r:LQ):r.c.take 2=r.c:=rfl
@[simp] theorem jrh(h:gz)(r:LQ):kc h r.c=r.c:=rfl
@[simp] theorem jo4(h:gz)(r:LT):kc h r.c=r.c:=rfl
theorem xle(l:List LReq):APure prog 73 [.slice (l.map LReq.c)] (Bo (yt none l)):=by
 refine ik func73 ntmps73 rfl ac rfl rfl fun E h hN hh hu hb=>?_;simp[go_sem]at hb;simp-dsimp[go_sem,hN];refine jl l.length (fun n=>yt ((nv l n).map (·.t)) (l.drop n)=yt none l) (fun n=>⟨[(0,.slice (l.map LReq.c)),(5,.slice (l.map LReq.c)),(6,I l.length),(7,I n)],h⟩) qg6 ic ?_
 intro n hn hI;have hw:=iv hn hb.1;simp-dsimp[go_sem,hN];refine gy ?_ ?_<;>intro hc<;>try simp at hc
 ·rw[ji hc,yt]at hI;simp-dsimp[go_sem,hN,hc,LReq.c];refine kf 15 mixed ac ac ?_;cases n with
  |zero =>
   simp-dsimp[go_sem,hN];refine gy ?_ ?_<;>intro hg<;>try simp at hg
   ·simp-dsimp[go_sem,hN];rw[←hI];simp[nv,hg]
   ·have h0:decide (l[0].t<0)=false:=cf;simp-dsimp[go_sem,hN,hw];exact⟨hc,by simpa[h0,nv,hc]using hI,ic⟩
  |succ m =>
   have hm:m<l.length:=aa;have oi:=qve (fp hm) hb.1;simp at hw;simp-dsimp[go_sem,hN,oi,hm,LReq.c];refine gy ?_ ?_<;>intro hg<;>try simp at hg
   ·simp-dsimp[go_sem,hN];rw[←hI];grind[nv]
   ·have h0:decide (l[m+1].t<0)=false:=by simpa using hg.1
    simp-dsimp[go_sem,hN,hw];simp[h0,hg,nv,hm]at hI;exact⟨hc,qfx,ic⟩
 ·rw[cv aa,yt]at hI;simp-dsimp[go_sem,hN,←hI]
theorem jk4(x:LReq)(h:gz)(i:Nat)(t:Int)(hi:h[i]?=some (.cells [I t])):ACalls prog 76 [.agg x.c,.ptr i 0] h fun r h'=>r=.ret (Bo (decide (x.t=t)))∧h'=h:=by
 refine lw func76 ntmps76 rfl ac rfl fun E hN hh hu hb il kr=>?_;have ke:i<h.length:=(cq.1 hi).1;have a1:∀l,(h++l)[i]?=some (.cells [I t]):=fun l=>by rw[cu ke];exact hi
 simp-dsimp[go_sem,hN,a1,hu,LReq.c];exact⟨_,.refl _,h,af,af,ae,aq,rfl,rfl⟩
theorem xu2(l:List LReq)(f:FuncId)(caps:List AV)(q:LReq→Bool)(h:gz)(hcn:kc h caps=caps)(hp:∀x:LReq,ACalls prog f ([.agg x.c]++caps) h fun r h'=>r=.ret (Bo (q x))∧h'=h) :
  ACalls prog 75 [.slice (l.map LReq.c),.fn (.func f) [] caps] h fun r h'=>r=.ret (I (ni q l))∧h'=h:=by
 refine lw func75 ntmps75 rfl ac rfl fun E hN hh hu hb il kr=>?_;simp[go_sem]at hb;simp-dsimp[go_sem,hN];refine jl l.length (fun n=>pp q n (l.drop n)=ni q l) (fun n=>⟨[(0,.slice (l.map LReq.c)),(1,.fn (.func f) [] caps),(7,I l.length),(8,I n)],h⟩) qid (Wk.mk bi ae qje qfp) ?_;intro n hn hI;have hw:=iv hn hb.1;simp-dsimp[go_sem,hN];refine gy ?_ ?_<;>intro hc<;>simp at hc
 ·rw[ji hc,pp]at hI;simp-dsimp[go_sem,hN,hc,hcn];refine it (hp l[n]) ?_;rintro r h' ⟨rfl,rfl⟩;simp-dsimp[go_sem,hN];refine gy ?_ ?_<;>intro hg<;>try simp at hg
  ·simp-dsimp[go_sem,hN];rw[if_pos hg]at hI;rw[hI];exact⟨_,.refl _,h',af,af,ae,aq,rfl,rfl⟩
  ·simp-dsimp[go_sem,hN,hw];exact⟨hc,br,Wk.mk bi ae qje qfp⟩
 ·rw[cv aa,pp]at hI;simp-dsimp[go_sem,hN,←hI];exact⟨_,.refl _,h,af,af,ae,aq,rfl,rfl⟩
abbrev r6(t:Int):LReq→Bool:=fun x=>decide (x.t=t)
theorem xb7(l:List LReq)(t:Int):APure prog 46 [.slice (l.map LReq.c),I t] (I (ni (r6 t) l)):=by
 refine ik func46 ntmps46 rfl ac rfl rfl fun E h hN hh hu hb=>?_;simp-dsimp[go_sem,hN];refine it (xu2 l _ _ (r6 t) _ qi6 (fun x=>jk4 x _ _ t ae)) ?_;rintro r h' ⟨rfl,rfl⟩;simp-dsimp[go_sem,hN]
theorem xgb{g:List LReq}{t:Int}:(ni (r6 t) g = -1∧y4 g t=false)∨∃(m:Nat) (hm:m<g.length),ni (r6 t) g=(m:Int)∧y4 g t = !g[m].w:=by
 rcases qzt (r6 t) g with⟨h1,h2⟩|⟨m,hm,h1,h2⟩
 ·exact .inl ⟨h1,by unfold y4;rw[h2]⟩
 ·exact .inr ⟨m,hm,h1,by unfold y4;rw[h2]⟩
theorem xiu(t:LT):APure prog 45 [.agg t.c] (Bo (zf t)):=by
 refine ik func45 ntmps45 rfl ac rfl rfl fun E h hN hh hu hb=>?_;simp[go_sem,LT.c]at hb;obtain⟨R,hR⟩:∃R,zf t=R:=⟨_,rfl⟩
 rw[hR];unfold zf at hR;simp-dsimp[go_sem,hN,LT.c];refine ia (xle t.glob) ?_;simp-dsimp[go_sem,hN];refine gy ?_ ?_<;>intro ha<;>simp at ha
 ·rw[ha]at hR;simp at hR;subst hR;simp-dsimp[go_sem,hN]
 ·rw[ha,fh]at hR;subst hR;simp-dsimp[go_sem,hN];refine jl t.qs.length (fun n=>yd t.glob ((nv t.qs n).map (·.key)) (t.qs.drop n)=yd t.glob none t.qs) (fun n=>⟨[(1,P0 h.length),(13,.slice (t.qs.map LQ.c)),(14,I t.qs.length),(15,I n)],h++[.cells [.slice (t.glob.map LReq.c),.slice (t.qs.map LQ.c)]]⟩) qg6 ic ?_
  intro n hn hI;have hw:=iv hn (show _≤68719476736 by omega);simp-dsimp[go_sem,hN];refine gy ?_ ?_<;>intro hc<;>simp at hc
  ·rw[ji hc,yd]at hI;simp-dsimp[go_sem,hN,hc,LQ.c];refine kf 17 mixed ac ac ?_;simp-dsimp[go_sem,hN];refine ku (qe2 _) ae ?_;have zo:rk t.qs[n].key=true→after ((nv t.qs n).map (·.key)) t.qs[n].key=true→t.qs[n].reqs≠[]→yt none t.qs[n].reqs=true →
     ((t.qs[n].reqs.all fun r=>y4 t.glob r.t)&&yd t.glob (some t.qs[n].key) (t.qs.drop (n+1)))=yd t.glob none t.qs:=fun h1 h2 h3 h4=>by
    have h5:t.qs[n].reqs.isEmpty=false:=by cases hq:t.qs[n].reqs with|nil=>exact(h3 hq).elim|cons=>rfl
    rw[h1,h2,h4,h5]at hI;simpa using hI
   have iz:(rk t.qs[n].key=false∨after ((nv t.qs n).map (·.key)) t.qs[n].key=false∨t.qs[n].reqs=[]∨yt none t.qs[n].reqs=false)→yd t.glob none t.qs=false:=fun h1=>by
    rw[←hI];rcases h1 with h1|h1|h1|h1<;>simp[h1]
   have jr:t.qs[n].reqs.length≤68719476736:=by
    have:=(qyo.1 hb.2.2) _ (dk.2 ⟨_,c9 hc,rfl⟩);have h9:t.qs[n].key.size≤68719476736∧t.qs[n].reqs.length≤68719476736∧qwl (t.qs[n].reqs.map LReq.c):=by simpa[LQ.c,yz,AV.bd]using this
    exact h9.2.1
   cases n with
   |zero =>
    simp-dsimp[go_sem,hN];refine ka (xle _) ae ?_;simp-dsimp[go_sem,hN];refine gy ?_ ?_<;>intro hg<;>simp at hg
    ·simp-dsimp[go_sem,hN];exact iz (by grind[nv,after])
    ·have mt:=zo ax (by simp[nv,after]) ax ax;clear zo iz;simp-dsimp[go_sem,hN];refine jl t.qs[0].reqs.length (fun k=>((t.qs[0].reqs.drop k).all fun r=>y4 t.glob r.t)=t.qs[0].reqs.all fun r=>y4 t.glob r.t) (fun k=>⟨[(1,P0 h.length),(13,.slice (t.qs.map LQ.c)),(14,I t.qs.length),(15,I (0:Nat)),(53,.slice (t.qs[0].reqs.map LReq.c)),(54,I t.qs[0].reqs.length),(55,I k)],h++[.cells [.slice (t.glob.map LReq.c),.slice (t.qs.map LQ.c)]]⟩) ae ic ?_;intro k hk hJ;have hwk:=iv hk jr;simp-dsimp[go_sem,hN];refine gy ?_ ?_<;>intro hd<;>simp at hd
     ·rw[ji hd,qll]at hJ;simp-dsimp[go_sem,hN,hd,LReq.c];refine ia (xb7 t.glob _) ?_;rcases xgb (g:=t.glob) (t:=t.qs[0].reqs[k].t)with⟨h1,h2⟩|⟨j,hj,h1,h2⟩
      ·rw[h1];rw[h2,qlu]at hJ;simp-dsimp[go_sem,hN];rw[←mt,←hJ,qlu]
      ·rw[h1];simp-dsimp[go_sem,hN,hj,LReq.c];refine gy ?_ ?_<;>intro v6<;>simp at v6
       ·have hg3:t.glob[j].w=true:=v6.elim (fun h9=>by omega) id;rw[h2,hg3]at hJ;simp-dsimp[go_sem,hN];rw[←mt,←hJ];simp
       ·simp-dsimp[go_sem,hN,hwk];exact⟨hd,qia,ic⟩
     ·rw[cv aa,ql7]at hJ;rw[←hJ,fh]at mt;simp-dsimp[go_sem,hN,hw];exact⟨hc,qhz,ic⟩
   |succ m =>
    have hm:m<t.qs.length:=aa;have oi:=qve (fp hm) hb.2.1;have hpv:(nv t.qs (m+1)).map (·.key)=some t.qs[m].key:=by simp[nv,hm]
    rw[hpv]at iz zo;simp only[after]at iz zo;rw[xb6]at iz zo;simp at hw;simp-dsimp[go_sem,hN,oi,hm,LQ.c];refine ka (xle _) ae ?_;simp-dsimp[go_sem,hN,oi,hm,LQ.c];refine gy ?_ ?_<;>intro hg<;>simp at hg
    ·simp-dsimp[go_sem,hN];exact iz qkp
    ·have mt:=zo ax qkp ax ax;clear zo iz;simp-dsimp[go_sem,hN];refine jl t.qs[m+1].reqs.length (fun k=>((t.qs[m+1].reqs.drop k).all fun r=>y4 t.glob r.t)=t.qs[m+1].reqs.all fun r=>y4 t.glob r.t) (fun k=>⟨[(1,P0 h.length),(13,.slice (t.qs.map LQ.c)),(14,I t.qs.length),(15,I (m+1:Nat)),(53,.slice (t.qs[m+1].reqs.map LReq.c)),(54,I t.qs[m+1].reqs.length),(55,I k)],h++[.cells [.slice (t.glob.map LReq.c),.slice (t.qs.map LQ.c)]]⟩) ae ic ?_;intro k hk hJ;have hwk:=iv hk jr;simp-dsimp[go_sem,hN];refine gy ?_ ?_<;>intro hd<;>simp at hd
     ·rw[ji hd,qll]at hJ;simp-dsimp[go_sem,hN,hd,LReq.c];refine ia (xb7 t.glob _) ?_;rcases xgb (g:=t.glob) (t:=t.qs[m+1].reqs[k].t)with⟨h1,h2⟩|⟨j,hj,h1,h2⟩
      ·rw[h1];rw[h2,qlu]at hJ;simp-dsimp[go_sem,hN];rw[←mt,←hJ,qlu]
      ·rw[h1];simp-dsimp[go_sem,hN,hj,LReq.c];refine gy ?_ ?_<;>intro v6<;>simp at v6
       ·have hg3:t.glob[j].w=true:=v6.elim (fun h9=>by omega) id;rw[h2,hg3]at hJ;simp-dsimp[go_sem,hN];rw[←mt,←hJ];simp
       ·simp-dsimp[go_sem,hN,hwk];exact⟨hd,qia,ic⟩
     ·rw[cv aa,ql7]at hJ;rw[←hJ,fh]at mt;simp-dsimp[go_sem,hN,hw];exact⟨hc,qhz,ic⟩
  ·rw[cv aa,yd]at hI;simp-dsimp[go_sem,hN,←hI]
theorem xhk(l:List LReq)(h:gz):ACalls prog 77 [.slice (l.map LReq.c)] h fun r h'=>r=.ret (.own h.length l.length)∧h'=h++[.uarr 95 2 (l.map LReq.c)]:=by
 refine qda func77 rfl ac (by simp[ntmps77]) ?_;intro E hN hh hu hb il kr;rw[ntmps77]at hN;simp[go_sem]at hb;have hw:=iv (ct l.length) (show l.length≤68719476736 by omega);refine ln (ub ?_);simp[go_sem,hN];refine ln (yf [_,_,_,_,_] _ ?_);simp[go_sem,hN,hw];intro c a w sm k;refine jjv sm k (el:=95) (x:=.tmp 5) (y:=.tmp 8) (d1:=9) (n:=l.length) (m:=l.length+1) (sz:=2) (zr:=[I 0,Bo false]) rfl rfl aa rfl af af af aa af af qg3 af af af aa aa aa fun c' a' w' s' k'=>?_;refine xf _ [_,_,_,_,_,_] _ rfl ?_ c' a' w' s' k';simp[go_sem,hN];refine ln (yf [_,_] _ ?_);simp[go_sem,hN];intro c a w sm k;refine jgy sm k (el:=95) (sz:=2) (i:=h.length) (n:=l.length) (d1:=12) (x:=.tmp 10) (y:=.tmp 11) (rows:=List.replicate l.length [I 0,Bo false]) (rows2:=l.map LReq.c) rfl rfl aa rfl af af af aa af af af ae ae ae (by intro r hr;simp only[dk]at hr;obtain⟨e,_,rfl⟩:=hr;rfl) fun a' w' s' k'=>?_;refine xf _ [_,_,_] _ rfl ?_ _ a' w' s' k';simp[go_sem,hN];apply na;simp-dsimp[go_sem,hN];exact⟨_,.refl _,h++[.uarr 95 2 (l.map LReq.c)],af,by simp[hwk.refl],ae,bj,ae,rfl⟩
def v2:Nat→List LQ→List (List AV)
 |_,[]=>[]
 |k,q::l=>[S q.key,.own k q.reqs.length]::v2 (k+2) l
def qnj(tR:TypeId):List LQ→gz
 | []=>[]
 |q::l=>.none::.uarr tR 2 (q.reqs.map LReq.c)::qnj tR l
theorem xqk(q:LQ):∀(k:Nat) (l:List LQ),v2 k (l++[q])=v2 k l++[[S q.key,.own (k+2 * l.length) q.reqs.length]]
 |k,[]=>by simp[v2]
 |k,x::l=>by simp only[qlg,v2,xqk q (k+2) l,d5];rw[show k+2+2 * l.length=k+2 * (l.length+1)by omega]
theorem xon(tR:TypeId)(q:LQ):∀(l:List LQ),qnj tR (l++[q])=qnj tR l++[.none,.uarr tR 2 (q.reqs.map LReq.c)]
 | []=>by simp[qnj]
 |x::l=>by simp[qnj,xon tR q l]
@[simp] theorem jcj:∀(k:Nat) (l:List LQ),(v2 k l).length=l.length
 |_,[]=>rfl
 |k,_::l=>by simp[v2,jcj (k+2) l]
@[simp] theorem jjh(tR:TypeId):∀(l:List LQ),(qnj tR l).length=2 * l.length
 | []=>rfl
 |_::l=>by simp[qnj,jjh tR l];omega
theorem xdc(tR:TypeId)(n:Nat):∀(l:List LQ),hUnder n (qnj tR l)=true
 | []=>rfl
 |_::l=>by simp[qnj,hUnder,AObj.under,xdc tR n l]
theorem xjg{n:Nat}:∀{k:Nat} {l:List LQ},k+2 * l.length≤n+1→(v2 k l).all (fun r=>nb n r)=true
 |_,[],_=>rfl
 |k,_::l,h=>by
  simp only[d5]at h;simp only[v2,qll,c0];exact⟨by simp[nb,AV.under];omega,xjg aa⟩
abbrev hpC(T:LT)(L:Nat)(k:Nat):gz:=[.cells [.slice (T.glob.map LReq.c),.slice (T.qs.map LQ.c)],.cells [.nils,.nils],.uarr 95 2 (T.glob.map LReq.c),.cells [.own (L+2) T.glob.length,.own (L+4) k],.oarr 107 2 (v2 (L+6) (T.qs.take k))]
theorem jb3(T:LT)(h:gz):ACalls prog 47 [.agg T.c] h fun r h'=>r=.ret (.agg [.own (h.length+2) T.glob.length,.own (h.length+4) T.qs.length])∧h'=h++([.none,.none,.uarr 95 2 (T.glob.map LReq.c),.none,.oarr 107 2 (v2 (h.length+6) T.qs)]++qnj 95 T.qs):=by
 refine lw func47 ntmps47 rfl ac rfl fun E hN hh hu hb il kr=>?_;simp[go_sem,LT.c]at hb;simp-dsimp[go_sem,hN,LT.c];refine it (xhk T.glob _) ?_;rintro r h' ⟨rfl,rfl⟩;simp-dsimp[go_sem,hN];refine jl T.qs.length (fun n=>True) (fun n=>⟨[(1,P0 h.length),(2,P0 (h.length+1)),(3,P0 (h.length+3)),(11,.slice (T.qs.map LQ.c)),(12,I T.qs.length),(13,I n)],h++(hpC T h.length n++qnj 95 (T.qs.take n))⟩) trivial ((je4 E _ (p:=h.length+3) (j:=1) (t:=107) (sz:=2) (xs:=[.own (h.length+2) T.glob.length,.nils]) ae ae).trans ?_) ?_
 ·simp[qnj,v2];exact(Wk.mk bi (by simp[go_sem,v2]) (by simp[hu,vf hu,go_sem,v2]) af)
 intro n hn _;have hw:=iv hn (show _≤68719476736 by omega);obtain⟨H,hH⟩:∃H,h++(hpC T h.length n++qnj 95 (T.qs.take n))=H:=⟨_,rfl⟩
 have hHl:H.length=h.length+(5+2 * n):=qkd;have a3:H[h.length+3]?=some (.cells [.own (h.length+2) T.glob.length,.own (h.length+4) n]):=qhm;have a4:H[h.length+4]?=some (.oarr 107 2 (v2 (h.length+6) (T.qs.take n))):=qhm;have b3:∀l,(H++l)[h.length+3]?=some (.cells [.own (h.length+2) T.glob.length,.own (h.length+4) n]):=fun l=>by rw[cu aa];exact a3
 have b4:∀l,(H++l)[h.length+4]?=some (.oarr 107 2 (v2 (h.length+6) (T.qs.take n))):=fun l=>by rw[cu aa];exact a4
 simp only[hH];simp-dsimp[go_sem,hN];refine gy ?_ ?_<;>intro hc<;>simp at hc
 ·simp-dsimp[go_sem,hN,hc,LQ.c];refine xae 9 6 [0,1,2,3] mixed ac ?_;simp-dsimp[go_sem,hN,b3,b4];refine xaw (xhk T.qs[n].reqs _) ?_;simp-dsimp[go_sem,hN,b3,b4,hHl];refine⟨aa,aa,hc,?_⟩;have et:T.qs.take (n+1)=T.qs.take n++[T.qs[n]]:=(List.take_append_getElem hc).symm;rw[et,xqk,xon,←hH];have sp:(T.qs.take n).length=n:=am;rw[sp,show h.length+6+2 * n=h.length+(5+2 * n)+1 by omega];refine Wk.mk ?_ ?_ ?_ ?_
  ·simp[hh]
  ·simp[go_sem]
  ·simp[hu,vf hu,go_sem,xdc];have hU:=xjg (n:=h.length+(2 * min n T.qs.length+2+1+1+1+1+1)) (k:=h.length+6) (l:=T.qs.take n) am;rw[dw]at hU;exact⟨⟨hU,aa⟩,by rw[tn,xdc];simp[hUnder,AObj.under]⟩
  ·simp[go_sem,hw]
 ·have e:n=T.qs.length:=aa;subst e;have a1:H[h.length+1]?=some (.cells [.nils,.nils]):=qhm;have a2:H[h.length+2]?=some (.uarr 95 2 (T.glob.map LReq.c)):=qhm;have s1:∀X,(H.set (h.length+1) X)[h.length+1]?=some X:=fun X=>ep aa;have s2:∀X,(H.set (h.length+1) X)[h.length+2]?=some (.uarr 95 2 (T.glob.map LReq.c)):=fun X=>by rw[dm aa];exact a2
  have s4:∀X,(H.set (h.length+1) X)[h.length+4]?=some (.oarr 107 2 (v2 (h.length+6) (T.qs.take T.qs.length))):=fun X=>by rw[dm aa];exact a4
  simp-dsimp[go_sem,hN,a1,a3,s1,s2,s4];rw[qly]at hH;have hU:=xjg (n:=h.length+(5+2 * T.qs.length)) (k:=h.length+6) (l:=T.qs) aa;rw[dw]at hU;refine⟨_,.refl _,_,?_,?_,?_,?_,rfl,rfl⟩
  ·simp[go_sem]
  ·rw[←hH];simp[go_sem]
  ·simp
  ·simp[hu,vf hu,go_sem,xdc];rw[show h.length+(2 * T.qs.length+1+1+1+1+1)=h.length+(5+2 * T.qs.length)by omega];exact hU
end Go.Proofs.YtbimdamecieomaaGreatDoor
