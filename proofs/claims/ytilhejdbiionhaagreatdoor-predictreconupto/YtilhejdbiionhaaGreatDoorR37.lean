/- Part 37 of a proof: W27, W14, W15, W16, W17 -/
import Derived.Shelf.Small.Strs
import Derived.Shelf.Strconv.Itoa4
import Derived.Lib.ItoaLen
import Derived.Test.YtilhejdbiionhaaGreatDoorR13
import Derived.Test.YtilhejdbiionhaaGreatDoorR14
import Derived.Test.YtilhejdbiionhaaGreatDoorR16
import Derived.Test.YtilhejdbiionhaaGreatDoorR17
import Derived.Test.YtilhejdbiionhaaGreatDoorR21
import Derived.Test.YtilhejdbiionhaaGreatDoorR22
import Derived.Test.YtilhejdbiionhaaGreatDoorR23
import Derived.Test.YtilhejdbiionhaaGreatDoorR27
import Derived.Test.YtilhejdbiionhaaGreatDoorR31
import Derived.Test.YtilhejdbiionhaaGreatDoorR32
import Derived.Test.YtilhejdbiionhaaGreatDoorR34
import Derived.Test.YtilhejdbiionhaaGreatDoorR35
set_option linter.all false

set_option maxRecDepth 4000
set_option maxHeartbeats 1000000
namespace Go.Proofs.YtilhejdbiionhaaGreatDoor
open Go Go.Abs Go.Cw
theorem c_interp_wrong(h:qab):ACalls Tryz.prog 40 [] h fun r h'=>r=.ret (.agg wrongE.c)∧h'=h:=by
 refine qaz Tryz.func40 Tryz.ntmps40 rfl (by kernel_rfl) rfl fun E hN hh hu hb hb' hua=>?_;simp-dsimp[go_sem,hN];exact⟨_,.refl _,h,by simp[go_sem],by simp[go_sem],by simp,by simp[hu,go_sem],rfl,rfl⟩
theorem c_interp_newMachine(st:List Pr)(ft:Foot)(h:qab):ACalls Tryz.prog 41 [.slice (st.map Pr.c),.agg ft.c] h fun r h'=>r=.ret (.ptr (h.length+3) 0) ∧
  h'=h++[.cells ft.c,.map [],.map [],.cells [.slice (st.map Pr.c),Bo ft.all,.slice (ft.reads.map qa1),.slice (ft.writes.map qa1),.mapr (h.length+1),.mapr (h.length+2),I 0,I 0,.nils,.nils,.nils,.nils,S em,I 0]]:=by
 refine qaz Tryz.func41 Tryz.ntmps41 rfl (by kernel_rfl) rfl fun E hN hh hu hb hb' hua=>?_;simp-dsimp[go_sem,hN];refine⟨by simp[liftK,liftC],_,.refl _,_,?_,hwk.refl _,by simp,?_,rfl,by rfl⟩
 ·simp[go_sem]
 ·simp[hu,qan hu,qar,go_sem]
end Go.Proofs.YtilhejdbiionhaaGreatDoor

set_option maxRecDepth 4000
namespace Go.Proofs.YtilhejdbiionhaaGreatDoor
open Go Go.Abs Go.Cw
variable {c a b d:Nat} {H:TS→qab} {n0:Nat}
theorem c_checker_declare(T:TH c a b d H n0)(s:TS)(name:qac)(ty:Int) :
  ACalls Tryz.prog 142 [.ptr c 0,S name,I ty] (H s) fun r h'=>r=.ret (.tuple [])∧h'=H (s.decl name ty):=by
 refine qaz Tryz.func142 Tryz.ntmps142 rfl (by kernel_rfl) rfl fun E hN hh hu hb hb' hua=>?_;simp-dsimp[go_sem,hN,T.lc,T.la,T.ld,T.sa,T.sd];exact⟨_,.refl _,H (s.decl name ty),rfl,by simp[TS.decl],by simp[T.len],T.und' _,rfl,rfl⟩
theorem c_checker_operands(T:TH c a b d H n0)(s:TS)(t:St)(hA:t.op≠8→chkE t.a 1=0)(hB:t.op=3∨t.op=6→chkE t.b 1=0) :
  ACalls Tryz.prog 238 [.ptr c 0,.agg t.x] (H s) fun r h'=>r=.ret (.tuple [I (qc5 s.visible t).1,I (qc5 s.visible t).2.1,I (qc5 s.visible t).2.2])∧h'=H s:=by
 refine qaz Tryz.func238 Tryz.ntmps238 rfl (by kernel_rfl) rfl fun E hN hh hu hb hb' hua=>?_;simp-dsimp[go_sem,hN];refine cnd ?_ ?_<;>intro h0<;>simp at h0
 ·simp-dsimp[go_sem,hN];rw[qc5,if_pos h0];exact⟨_,.refl _,H s,rfl,by simp,by simp,hu,rfl,rfl⟩
 simp-dsimp[go_sem,hN];refine qek 11 6 [] mixed (by kernel_rfl) ?_;simp-dsimp[go_sem,hN,T.lc',T.la'];refine qd2 (c_types_of s.visible t.a 1 (hA h0) _ a (T.la' s _)) ?_;simp-dsimp[go_sem,hN];refine⟨by grind,?_⟩;refine cnd ?_ ?_<;>intro h1<;>simp at h1
 ·simp-dsimp[go_sem,hN];refine qek 11 6 [] mixed (by kernel_rfl) ?_;simp-dsimp[go_sem,hN,T.lc',T.la'];refine qd2 (c_types_of s.visible t.b 1 (hB h1.2) _ a (T.la' s _)) ?_;simp-dsimp[go_sem,hN];rw[qc5,if_neg h0,if_pos h1];exact⟨_,.refl _,H s,rfl,by simp,by simp,hu,rfl,rfl⟩
 ·simp-dsimp[go_sem,hN];rw[qc5,if_neg h0,if_neg (by rintro⟨h2,h3⟩;have:=h1 h2;omega)];exact⟨_,.refl _,H s,rfl,by simp,by simp,hu,rfl,rfl⟩
set_option maxHeartbeats 4000000 in
mutual
theorem qei{H:TS→qab}{n0:Nat}(T:TH c a b d H n0)(s:TS)(l:List St)(dp:Nat)(hl:okL l dp) :
  ACalls Tryz.prog 143 [.ptr c 0,.slice (l.map St.c)] (H s) fun r h'=>r=.ret (I (blkT l s).1)∧h'=H (blkT l s).2:=by
 refine qaz Tryz.func143 Tryz.ntmps143 rfl (by kernel_rfl) rfl fun E hN hh hu hb hb' hua=>?_;simp[go_sem]at hb;simp-dsimp[go_sem,hN];refine qap (α:=TS) l.length (fun n x=>qde (l.drop n) x=qde l s) (fun n x=>⟨[(0,.ptr c 0),(1,.slice (l.map St.c)),(10,.slice (l.map St.c)),(11,I l.length),(12,I n)],H x⟩) s (by simp) (Wk.mk (by simp[hh,T.len]) (by simp[go_sem]) (T.und' _) (by have:=T.hc;simp[go_sem,T.len];omega)) ?_;intro n x hn hI;have hw:=qa2 hn hb.1;simp-dsimp[go_sem,hN];refine cnd ?_ ?_<;>intro hc<;>simp at hc
 ·rw[qaf hc,qde]at hI;have hlt:SizeOf.sizeOf l[n]<SizeOf.sizeOf l:=List.sizeOf_lt_of_mem (List.getElem_mem hc);simp-dsimp[go_sem,hN,hc];refine qaj (c_checker_statement (T.ext [.cells l[n].x] (by simp[go_sem])) x l[n] dp (hl _ (List.getElem_mem hc))) ?_;rintro r h' ⟨rfl,rfl⟩;simp-dsimp[go_sem,hN];refine cnd ?_ ?_<;>intro h1<;>simp at h1
  ·rw[if_pos h1]at hI;simp-dsimp[go_sem,hN];rw[blkT,qch,←hI,if_pos h1];exact⟨_,.refl _,H (stT l[n] x).2,rfl,by simp,by simp[T.len],T.und' _,rfl,rfl⟩
  ·rw[if_neg (by simpa using h1)]at hI;simp-dsimp[go_sem,hN,hw];exact⟨hc,_,hI,Wk.mk (by simp[hh,T.len]) (by simp[go_sem]) (T.und' _) (by have:=T.hc;simp[go_sem,T.len];omega)⟩
 rw[List.drop_eq_nil_of_le (by omega),qde]at hI;simp-dsimp[go_sem,hN];refine qap (α:=List (qac×Int)) l.length (fun n v=>delLets (l.drop n) v=delLets l x.visible) (fun n v=>⟨[(0,.ptr c 0),(23,.slice (l.map St.c)),(24,I l.length),(25,I n)],H ⟨v,x.loops,x.all⟩⟩) x.visible (by simp) (Wk.mk (by simp[hh,T.len]) (by simp[go_sem]) (T.und' _) (by have:=T.hc;simp[go_sem,T.len];omega)) ?_;intro n v hn hJ;have hw:=qa2 hn hb.1;simp-dsimp[go_sem,hN];refine cnd ?_ ?_<;>intro hc<;>simp at hc
 ·rw[qaf hc,delLets]at hJ;simp-dsimp[go_sem,hN,hc];refine cnd ?_ ?_<;>intro h1<;>simp at h1
  ·rw[if_pos h1]at hJ;simp-dsimp[go_sem,hN];refine qai 6 mixed (by kernel_rfl) (by kernel_rfl) ?_;simp-dsimp[go_sem,hN,T.lc',T.la',T.sa',hw];exact⟨hc,_,hJ,Wk.mk (by simp[hh,T.len]) (by simp[go_sem]) (T.und' _) (by have:=T.hc;simp[go_sem,T.len];omega)⟩
  ·rw[if_neg h1]at hJ;simp-dsimp[go_sem,hN,hw];exact⟨hc,_,hJ,Wk.mk (by simp[hh,T.len]) (by simp[go_sem]) (T.und' _) (by have:=T.hc;simp[go_sem,T.len];omega)⟩
 ·rw[List.drop_eq_nil_of_le (by omega),delLets]at hJ;simp-dsimp[go_sem,hN];rw[blkT,qch,←hI,if_neg (by simp),hJ];exact⟨_,.refl _,H ⟨delLets l x.visible,x.loops,x.all⟩,rfl,by simp,by simp[T.len],T.und' _,rfl,rfl⟩
termination_by SizeOf.sizeOf l
theorem c_checker_statement{H:TS→qab}{n0:Nat}(T:TH c a b d H n0)(s:TS)(t:St)(dp:Nat)(ht:okS t dp) :
  ACalls Tryz.prog 195 [.ptr c 0,.agg t.x] (H s) fun r h'=>r=.ret (I (stT t s).1)∧h'=H (stT t s).2:=by
 refine qaz Tryz.func195 Tryz.ntmps195 rfl (by kernel_rfl) rfl fun E hN hh hu hb hb' hua=>?_;simp-dsimp[go_sem,hN];refine qaj (c_checker_operands (T.ext [.cells t.x] (by simp[go_sem])) s t ?_ ?_) ?_
 ·exact fun h0=>okS_a ht h0
 ·exact fun h0=>okS_b ht h0
 rintro r h' ⟨rfl,rfl⟩;have hbody:=((qco t dp).1 ht).2.1;have hels:=((qco t dp).1 ht).2.2;have lt1:=St.body_le t;have lt2:=St.els_le t;have lb0:∀(s:TS) (l:qab),(H s++l).length=n0+l.length:=fun s l=>by rw[List.length_append,T.len]
 rw[stT_eq,stStep];simp-dsimp[go_sem,hN];refine cnd ?_ ?_<;>intro h1<;>simp at h1
 ·rw[if_pos h1];simp-dsimp[go_sem,hN];exact⟨_,.refl _,H s,rfl,by simp,by simp,hu,rfl,rfl⟩
 rw[if_neg (by simpa using h1)];simp-dsimp[go_sem,hN];refine cnd ?_ ?_<;>intro h2<;>simp at h2
 ·rw[if_pos h2];simp-dsimp[go_sem,hN];refine qaj (c_checker_declare (T.ext [.cells t.x] (by simp[go_sem])) s t.name _) ?_;rintro r h' ⟨rfl,rfl⟩;simp-dsimp[go_sem,hN];exact⟨_,.refl _,H (s.decl t.name (qc5 s.visible t).1),rfl,by simp,by simp[T.len],T.und' _,by first|rfl|grind|simp[*],by first|rfl|grind|simp[*]⟩
 rw[if_neg h2];simp-dsimp[go_sem,hN];refine cnd ?_ ?_<;>intro h3<;>simp at h3
 ·rw[if_pos h3];simp-dsimp[go_sem,hN];refine qai 11 mixed (by kernel_rfl) (by kernel_rfl) ?_;rcases hk:qbg s.visible t.name with _|ty
  ·simp-dsimp[go_sem,hN,T.lc',T.la',hk];exact⟨_,.refl _,H s,rfl,by simp,by simp[T.len],T.und' _,by first|rfl|grind|simp[*],by first|rfl|grind|simp[*]⟩
  ·simp-dsimp[go_sem,hN,T.lc',T.la',hk];refine qai 6 mixed (by kernel_rfl) (by kernel_rfl) ?_;rcases hl:qbg s.loops t.name with _|bo
   ·simp-dsimp[go_sem,hN,T.lc',T.lb',hl];refine cnd ?_ ?_<;>intro h4<;>simp at h4
    ·simp-dsimp[go_sem,hN];exact⟨_,.refl _,H s,rfl,by simp,by simp[T.len],T.und' _,by first|rfl|grind|simp[*],by first|rfl|grind|simp[*]⟩
    ·simp-dsimp[go_sem,hN];exact⟨_,.refl _,H s,rfl,by simp,by simp[T.len],T.und' _,by first|rfl|grind|simp[*],by first|rfl|grind|simp[*]⟩
   ·simp-dsimp[go_sem,hN,T.lc',T.lb',hl];refine cnd (fun h4=>?_) (fun h4=>?_)
    ·simp-dsimp[go_sem,hN];exact⟨_,.refl _,H s,rfl,by simp,by simp[T.len],T.und' _,by first|rfl|grind|simp[*],by first|rfl|grind|simp[*]⟩
    ·simp-dsimp[go_sem,hN];refine cnd ?_ ?_<;>intro h5<;>simp at h5
     ·simp-dsimp[go_sem,hN];exact⟨_,.refl _,H s,rfl,by simp,by simp[T.len],T.und' _,by first|rfl|grind|simp[*],by first|rfl|grind|simp[*]⟩
     ·simp-dsimp[go_sem,hN];exact⟨_,.refl _,H s,rfl,by simp,by simp[T.len],T.und' _,by first|rfl|grind|simp[*],by first|rfl|grind|simp[*]⟩
 rw[if_neg h3];simp-dsimp[go_sem,hN];refine cnd ?_ ?_<;>intro h4<;>simp at h4
 ·rw[if_pos h4];simp-dsimp[go_sem,hN]
  repeat refine⟨by grind,?_⟩
  refine cnd ?_ ?_<;>intro h5<;>simp at h5
  ·simp-dsimp[go_sem,hN];exact⟨_,.refl _,H s,rfl,by simp,by simp[T.len],T.und' _,by first|rfl|grind|simp[*],by first|rfl|grind|simp[*]⟩
  ·simp-dsimp[go_sem,hN];exact⟨_,.refl _,H s,rfl,by simp,by simp[T.len],T.und' _,by first|rfl|grind|simp[*],by first|rfl|grind|simp[*]⟩
 rw[if_neg h4];simp-dsimp[go_sem,hN];refine cnd ?_ ?_<;>intro h5<;>simp at h5
 ·rw[if_pos h5];simp-dsimp[go_sem,hN];refine cnd ?_ ?_<;>intro h6<;>simp at h6
  ·simp-dsimp[go_sem,hN];exact⟨_,.refl _,H s,rfl,by simp,by simp[T.len],T.und' _,by first|rfl|grind|simp[*],by first|rfl|grind|simp[*]⟩
  ·simp-dsimp[go_sem,hN];exact⟨_,.refl _,H s,rfl,by simp,by simp[T.len],T.und' _,by first|rfl|grind|simp[*],by first|rfl|grind|simp[*]⟩
 rw[if_neg h5];simp-dsimp[go_sem,hN];refine cnd ?_ ?_<;>intro h6<;>simp at h6
 ·rw[if_pos h6];simp-dsimp[go_sem,hN];refine cnd ?_ ?_<;>intro h7<;>simp at h7
  ·simp-dsimp[go_sem,hN];exact⟨_,.refl _,H s,rfl,by simp,by simp[T.len],T.und' _,by first|rfl|grind|simp[*],by first|rfl|grind|simp[*]⟩
  ·simp-dsimp[go_sem,hN];exact⟨_,.refl _,H s,rfl,by simp,by simp[T.len],T.und' _,by first|rfl|grind|simp[*],by first|rfl|grind|simp[*]⟩
 rw[if_neg h6];simp-dsimp[go_sem,hN];refine cnd ?_ ?_<;>intro h7<;>simp at h7
 ·rw[if_pos h7];simp-dsimp[go_sem,hN];refine cnd ?_ ?_<;>intro h8<;>simp at h8
  ·simp-dsimp[go_sem,hN];exact⟨_,.refl _,H s,rfl,by simp,by simp[T.len],T.und' _,by first|rfl|grind|simp[*],by first|rfl|grind|simp[*]⟩
  rw[if_neg (by simpa using h8)];simp-dsimp[go_sem,hN];refine qaj (qei (T.ext [.cells t.x] (by simp[go_sem])) s t.body (dp+1) hbody) ?_;rintro r h' ⟨rfl,rfl⟩;simp-dsimp[go_sem,hN];refine cnd ?_ ?_<;>intro h9<;>simp at h9
  ·simp-dsimp[go_sem,hN];exact⟨_,.refl _,H (blkT t.body s).2,rfl,by simp,by simp[T.len],T.und' _,by first|rfl|grind|simp[*],by first|rfl|grind|simp[*]⟩
  rw[if_neg (by simpa using h9)];simp-dsimp[go_sem,hN,lb0,T.len];refine qaj (qei (T.ext [.cells t.x] (by simp[go_sem])) (blkT t.body s).2 t.els (dp+1) hels) ?_;rintro r h' ⟨rfl,rfl⟩;simp-dsimp[go_sem,hN];exact⟨_,.refl _,H (blkT t.els (blkT t.body s).2).2,rfl,by simp,by simp[T.len],T.und' _,by first|rfl|grind|simp[*],by first|rfl|grind|simp[*]⟩
 rw[if_neg h7];simp-dsimp[go_sem,hN];refine cnd ?_ ?_<;>intro h8<;>simp at h8
 ·rw[if_pos h8];simp-dsimp[go_sem,hN]
  repeat refine⟨by grind,?_⟩
  refine cnd ?_ ?_<;>intro h9<;>simp at h9
  ·simp-dsimp[go_sem,hN];exact⟨_,.refl _,H s,rfl,by simp,by simp[T.len],T.und' _,by first|rfl|grind|simp[*],by first|rfl|grind|simp[*]⟩
  rw[if_neg (by grind)];simp-dsimp[go_sem,hN];refine qaj (c_checker_declare (T.ext [.cells t.x] (by simp[go_sem])) s t.name 1) ?_;rintro r h' ⟨rfl,rfl⟩;simp-dsimp[go_sem,hN];refine qai 6 mixed (by kernel_rfl) (by kernel_rfl) ?_;simp-dsimp[go_sem,hN,T.lc',T.lb',T.sb',T.len];refine qaj (qei (T.ext [.cells t.x] (by simp[go_sem])) ⟨qbr s.visible t.name 1,qbr s.loops t.name true,qbr s.all t.name 1⟩ t.body (dp+1) hbody) ?_;rintro r h' ⟨rfl,rfl⟩;simp-dsimp[go_sem,hN];refine qai 6 mixed (by kernel_rfl) (by kernel_rfl) ?_;simp-dsimp[go_sem,hN,T.lc',T.la',T.sa',T.len];exact⟨_,.refl _,H ⟨kDel (blkT t.body ⟨qbr s.visible t.name 1,qbr s.loops t.name true,qbr s.all t.name 1⟩).2.visible t.name,(blkT t.body ⟨qbr s.visible t.name 1,qbr s.loops t.name true,qbr s.all t.name 1⟩).2.loops,(blkT t.body ⟨qbr s.visible t.name 1,qbr s.loops t.name true,qbr s.all t.name 1⟩).2.all⟩,rfl,by simp,by simp[T.len],T.und' _,by first|rfl|grind|simp[*],by first|rfl|grind|simp[*]⟩
 rw[if_neg h8];simp-dsimp[go_sem,hN];exact⟨_,.refl _,H s,rfl,by simp,by simp[T.len],T.und' _,by first|rfl|grind|simp[*],by first|rfl|grind|simp[*]⟩
termination_by SizeOf.sizeOf t
end
end Go.Proofs.YtilhejdbiionhaaGreatDoor

set_option maxRecDepth 4000
namespace Go.Proofs.YtilhejdbiionhaaGreatDoor
open Go Go.Abs Go.Cw
def chkH(h:qab)(p:Proc)(s:TS):qab:=h++[.cells p.c,.map (kAV I s.visible),.map (kAV Bo s.loops),.map (kAV I s.all),.cells [.mapr (h.length+1),.mapr (h.length+2),.mapr (h.length+3)]]
theorem chkTH(h:qab)(hu:hUnder h.length h=true)(p:Proc):TH (h.length+4) (h.length+1) (h.length+2) (h.length+3) (chkH h p) (h.length+5) where
 len:=fun s=>by simp[chkH]
 hc:=by omega
 ha:=by omega
 hb:=by omega
 hd:=by omega
 lc:=fun s=>by simp[chkH]
 la:=fun s=>by simp[chkH]
 lb:=fun s=>by simp[chkH]
 ld:=fun s=>by simp[chkH]
 sa:=fun s v=>by simp[chkH]
 sb:=fun s v=>by simp[chkH]
 sd:=fun s v=>by simp[chkH]
 und:=fun s=>by
  rw[chkH,qan hu];have k1:∀n l,(AObj.map (kAV I l)).under n=true:=kAV_und (fun _ _=>rfl);have k2:∀n l,(AObj.map (kAV Bo l)).under n=true:=kAV_und (fun _ _=>rfl);simp only[hUnder,k1,k2,Bool.and_true,Bool.true_and];simp[go_sem]
set_option maxHeartbeats 2000000 in
theorem c_types_check(p:Proc)(h:qab):ACalls Tryz.prog 86 [.agg p.c] h fun r h'=>r=.ret (.tuple [.top,I (qc1 p)])∧h'=h:=by
 refine qaz Tryz.func86 Tryz.ntmps86 rfl (by kernel_rfl) rfl fun E hN hh hu hb hb' hua=>?_;simp[go_sem]at hb;have T:=chkTH h hu p;simp-dsimp[go_sem,hN];refine qaa (c_ast_Validate p) ?_;simp-dsimp[go_sem,hN];refine cnd ?_ ?_<;>intro h0<;>simp at h0
 ·simp-dsimp[go_sem,hN];refine⟨.tuple [.top,_],.tuple ⟨.top _,.refl _,trivial⟩,h,?_⟩;rw[qc1,if_pos h0];simp[go_sem,hu]
 have hlen:p.params.length≤6:=by
  unfold qcn at h0;split at h0
  ·contradiction
  split at h0
  ·contradiction
  rename_i h1;simp only[Decidable.not_not]at h1;unfold paramsE at h1;split at h1
  ·contradiction
  ·omega
 simp-dsimp[go_sem,hN];refine qap (α:=TS) p.params.length (fun n x=>declP (p.params.drop n) x=declP p.params ⟨[],[],[]⟩∧(p.params.drop n).any (fun x=>decide (x.ty=3))=p.params.any (fun x=>decide (x.ty=3))) (fun n x=>⟨[(1,.ptr h.length 0),(5,.ptr (h.length+4) 0),(23,.slice (p.params.map Param.c)),(24,I p.params.length),(25,I n)],chkH h p x⟩) ⟨[],[],[]⟩ (by simp) (Wk.mk (by simp[hh,T.len]) (by simp[go_sem,chkH,kAV,qb5]) (T.und' _) (by simp[go_sem,T.len])) ?_;intro n x hn ⟨hI,hJ⟩;have hw:=qa2 hn hb.2.1.1;simp-dsimp[go_sem,hN];refine cnd ?_ ?_<;>intro hc<;>simp at hc
 ·rw[qaf hc]at hI hJ;rw[List.any_cons]at hJ;rw[declP,List.foldl_cons]at hI;simp-dsimp[go_sem,hN,hc];refine cnd ?_ ?_<;>intro h1<;>simp at h1
  ·simp-dsimp[go_sem,hN];refine⟨.tuple [.top,_],.tuple ⟨.top _,.refl _,trivial⟩,h,?_⟩;rw[qc1,if_neg (by simpa using h0),if_pos (by rw[←hJ];simp[h1])];simp[go_sem,hu,chkH,hwk.app0]
  simp-dsimp[go_sem,hN];refine qaj (c_checker_declare (T.ext [.cells p.params[n].c] (by simp[go_sem])) x p.params[n].name p.params[n].ty) ?_;rintro r h' ⟨rfl,rfl⟩;simp-dsimp[go_sem,hN,hw];exact⟨hc,_,⟨hI,by rw[←hJ];simp[h1]⟩,Wk.mk (by simp[hh,T.len]) (by simp[go_sem]) (T.und' _) (by simp[go_sem,T.len])⟩
 rw[List.drop_eq_nil_of_le (by omega)]at hI hJ;have x0:∀(x:TS) (l:qab),(chkH h p x++l)[h.length]?=some (.cells p.c):=fun x l=>by simp[chkH]
 have x1:∀(x:TS) (o:AObj) (l:qab),(chkH h p x++o::l)[h.length+5]?=some o:=fun x o l=>by
  rw[List.getElem?_append_right (by rw[T.len];omega),T.len,Nat.sub_self];rfl
 have x2:∀(x:TS) (o o':AObj) (l:qab),(chkH h p x++o::l).set (h.length+5) o'=chkH h p x++o'::l:=fun x o o' l=>by
  rw[List.set_append_right _ _ (by rw[T.len];omega),T.len,Nat.sub_self];rfl
 have k2:∀n l,(AObj.map (kAV Bo l)).under n=true:=kAV_und (fun _ _=>rfl);have xu:∀(x:TS) (m:List (qac×Bool)),hUnder (chkH h p x++[AObj.map (kAV Bo m)]).length (chkH h p x++[AObj.map (kAV Bo m)])=true:=fun x m=>by
  rw[List.length_append,qan (T.und' x)];simp only[hUnder,k2,Bool.and_true]
 simp-dsimp[go_sem,hN,x0];refine qaa (c_ast_Names p (by omega)) ?_;simp-dsimp[go_sem,hN];refine qap (α:=List (qac×Bool)) (qd4 p).length (fun n m=>dupM m ((qd4 p).drop n)=dupM [] (qd4 p)) (fun n m=>⟨[(1,.ptr h.length 0),(5,.ptr (h.length+4) 0),(8,.mapr (h.length+5)),(41,.slice ((qd4 p).map qa1)),(42,I (qd4 p).length),(43,I n)],chkH h p x++[AObj.map (kAV Bo m)]⟩) [] (by simp) (Wk.mk (by simp[hh,T.len];omega) (by simp[go_sem,T.len,kAV,qb5]) (xu _ _) (by simp[go_sem,T.len];try omega)) ?_;intro n m hn hM;have hnl:(qd4 p).length≤407:=by
  have:=blkW_K nameS qb2 List.length nameS_len (fun s _=>by simp[qb2]) p.body 1 (401,p.params.map (·.name))
  simp only[List.length_map]at this;unfold qd4;omega
 have hw:=qa2 hn (by omega);simp-dsimp[go_sem,hN];refine cnd ?_ ?_<;>intro hc<;>simp at hc
 ·rw[qaf hc,dupM]at hM;rcases hk:qbg m (qd4 p)[n]with _|bo
  ·rw[hk]at hM;simp-dsimp[go_sem,hN,hc,x1,x2,hk,qa1,hw];exact⟨_,hM,Wk.mk (by simp[hh,T.len];omega) (by simp[go_sem,T.len]) (xu _ _) (by simp[go_sem,T.len])⟩
  ·rw[hk]at hM;simp-dsimp[go_sem,hN,hc,x1,x2,hk,qa1,hw];refine cnd (fun h1=>?_) (fun h1=>?_)
   ·simp-dsimp[go_sem,hN];refine⟨.tuple [.top,_],.tuple ⟨.top _,.refl _,trivial⟩,h,?_⟩;rw[qc1,if_neg (by simpa using h0),if_neg (by rw[←hJ];simp),if_pos (by rw[←hM];simp[h1])];simp[go_sem,hu,chkH,hwk.app0]
   ·simp-dsimp[go_sem,hN,x1,x2,hw];subst h1;exact⟨hc,_,hM,Wk.mk (by simp[hh,T.len];omega) (by simp[go_sem,T.len]) (xu _ _) (by simp[go_sem,T.len])⟩
 rw[List.drop_eq_nil_of_le (by omega),dupM]at hM;have y0:∀(x:TS) (l:qab),(chkH h p x++l)[h.length+4]?=some (.cells [.mapr (h.length+1),.mapr (h.length+2),.mapr (h.length+3)]):=fun x l=>T.lc' x l;simp-dsimp[go_sem,hN,x0];refine qaj (qei (T.ext [AObj.map (kAV Bo m)] (by simp only[hUnder,k2,Bool.and_true])) x p.body 1 (validP_ok h0)) ?_;rintro r h' ⟨rfl,rfl⟩;simp-dsimp[go_sem,hN,y0];refine⟨.tuple [.top,_],.tuple ⟨.top _,.refl _,trivial⟩,h,?_⟩;rw[qc1,if_neg (by simpa using h0),if_neg (by rw[←hJ];simp),if_neg (by rw[←hM];simp),←hI];simp[go_sem,hu,chkH,hwk.app0,declP]
theorem c_types_Check(p:Proc):APure Tryz.prog 57 [.agg p.c] (I (qc1 p)):=by
 refine qak Tryz.func57 Tryz.ntmps57 rfl (by kernel_rfl) rfl rfl fun E h hN hh hu hb=>?_;simp-dsimp[go_sem,hN];refine qaj (c_types_check p _) ?_;rintro r h' ⟨rfl,rfl⟩;simp-dsimp[go_sem,hN]
theorem c_types_Args(p:Proc)(l:List V):APure Tryz.prog 38 [.agg p.c,.slice (l.map V.c)] (I (qcl p l)):=by
 refine qak Tryz.func38 Tryz.ntmps38 rfl (by kernel_rfl) rfl rfl fun E h hN hh hu hb=>?_;simp[go_sem]at hb;simp-dsimp[go_sem,hN];refine qaa (c_types_Check p) ?_;simp-dsimp[go_sem,hN];refine cnd ?_ ?_<;>intro h0<;>simp at h0
 ·simp-dsimp[go_sem,hN];rw[qcl,if_pos (by by_cases h1:qc1 p=0<;>grind)]
 rw[qcl,if_neg (by have:=h0.2;have:=h0.1;omega)];have hle:l.length=p.params.length:=by have:=h0.2;omega
 simp-dsimp[go_sem,hN];refine qam l.length (fun n=>argsOk (p.params.drop n) (l.drop n)=argsOk p.params l) (fun n=>⟨[(2,.ptr h.length 0),(20,.slice (l.map V.c)),(21,I l.length),(22,I n)],h++[.cells p.c]⟩) (by simp) wkA ?_;intro n hn hI;have hw:=qa2 hn hb.2.1;simp-dsimp[go_sem,hN];refine cnd ?_ ?_<;>intro hc<;>simp at hc
 ·have hc':n<p.params.length:=by omega
  rw[qaf hc,qaf hc',argsOk]at hI;simp-dsimp[go_sem,hN,hc,hc'];refine qae (c_types_plain l[n].s) (by simp) ?_;simp-dsimp[go_sem,hN,hc']
  repeat refine⟨by grind,?_⟩
  refine cnd (fun h1=>?_) (fun h1=>?_)
  ·simp-dsimp[go_sem,hN];rw[←hI];unfold argOk;simp at h1;grind
  ·simp-dsimp[go_sem,hN,hw];refine⟨hc,by rw[←hI];unfold argOk;simp at h1;grind,wkA⟩
 ·rw[List.drop_eq_nil_of_le (by omega),List.drop_eq_nil_of_le (by omega)]at hI;simp-dsimp[go_sem,hN];exact hI.symm.trans (by simp[argsOk])
end Go.Proofs.YtilhejdbiionhaaGreatDoor

set_option maxRecDepth 4000
namespace Go.Proofs.YtilhejdbiionhaaGreatDoor
open Go Go.Abs Go.Cw
attribute [local go_sem] Cnt.c Cnt.plus Cnt.times Cnt.larger
set_option maxHeartbeats 1000000 in
theorem c_cost_plus(x y:Cnt):APure Tryz.prog 113 [.agg x.c,.agg y.c] (.agg (x.plus y).c):=by
 refine qak Tryz.func113 Tryz.ntmps113 rfl (by kernel_rfl) rfl rfl fun E h hN hh hu hb=>?_;simp-dsimp[go_sem,hN];refine qam 4 (fun _=>True) (fun n=>⟨[(2,.ptr h.length 0),(3,.ptr (h.length+1) 0),(4,.ptr (h.length+2) 0),(6,I n)],h++[.cells ((x.plus y).c.take n++x.c.drop n),.cells y.c,.cells [I 0,I 0,I 0,I 0]]⟩) trivial wkA ?_;intro n hn _;have hw:=qa2 hn (by omega);have cases:n=0∨n=1∨n=2∨n=3∨n=4:=by omega
 rcases cases with rfl|rfl|rfl|rfl|rfl
 ·simp-dsimp[go_sem,hN];refine qai 9 mixed (by kernel_rfl) (by kernel_rfl) ?_;simp-dsimp[go_sem,hN,if_mn,wrap_3,wrap_4];exact wkA
 ·simp-dsimp[go_sem,hN];refine qai 9 mixed (by kernel_rfl) (by kernel_rfl) ?_;simp-dsimp[go_sem,hN,if_mn,wrap_3,wrap_4];exact wkA
 ·simp-dsimp[go_sem,hN];refine qai 9 mixed (by kernel_rfl) (by kernel_rfl) ?_;simp-dsimp[go_sem,hN,if_mn,wrap_3,wrap_4];exact wkA
 ·simp-dsimp[go_sem,hN];refine qai 9 mixed (by kernel_rfl) (by kernel_rfl) ?_;simp-dsimp[go_sem,hN,if_mn,wrap_3,wrap_4];exact wkA
 ·simp-dsimp[go_sem,hN]
set_option maxHeartbeats 1000000 in
theorem c_cost_larger(x y:Cnt):APure Tryz.prog 171 [.agg x.c,.agg y.c] (.agg (x.larger y).c):=by
 refine qak Tryz.func171 Tryz.ntmps171 rfl (by kernel_rfl) rfl rfl fun E h hN hh hu hb=>?_;simp-dsimp[go_sem,hN];refine qam 4 (fun _=>True) (fun n=>⟨[(2,.ptr h.length 0),(3,.ptr (h.length+1) 0),(4,.ptr (h.length+2) 0),(6,I n)],h++[.cells ((x.larger y).c.take n++x.c.drop n),.cells y.c,.cells [I 0,I 0,I 0,I 0]]⟩) trivial wkA ?_;intro n hn _;have hw:=qa2 hn (by omega);have cases:n=0∨n=1∨n=2∨n=3∨n=4:=by omega
 rcases cases with rfl|rfl|rfl|rfl|rfl
 ·simp-dsimp[go_sem,hN];refine qai 8 mixed (by kernel_rfl) (by kernel_rfl) ?_;simp-dsimp[go_sem,hN,if_mx,wrap_3,wrap_4];exact wkA
 ·simp-dsimp[go_sem,hN];refine qai 8 mixed (by kernel_rfl) (by kernel_rfl) ?_;simp-dsimp[go_sem,hN,if_mx,wrap_3,wrap_4];exact wkA
 ·simp-dsimp[go_sem,hN];refine qai 8 mixed (by kernel_rfl) (by kernel_rfl) ?_;simp-dsimp[go_sem,hN,if_mx,wrap_3,wrap_4];exact wkA
 ·simp-dsimp[go_sem,hN];refine qai 8 mixed (by kernel_rfl) (by kernel_rfl) ?_;simp-dsimp[go_sem,hN,if_mx,wrap_3,wrap_4];exact wkA
 ·simp-dsimp[go_sem,hN]
set_option maxHeartbeats 1000000 in
theorem c_cost_times(x:Cnt)(k:Int):APure Tryz.prog 172 [.agg x.c,I k] (.agg (x.times k).c):=by
 refine qak Tryz.func172 Tryz.ntmps172 rfl (by kernel_rfl) rfl rfl fun E h hN hh hu hb=>?_;simp-dsimp[go_sem,hN];refine qam 4 (fun _=>True) (fun n=>⟨[(1,I k),(2,.ptr h.length 0),(4,.ptr (h.length+1) 0),(6,I n)],h++[.cells ((x.times k).c.take n++x.c.drop n),.cells [I 0,I 0,I 0,I 0]]⟩) trivial wkA ?_;intro n hn _;have hw:=qa2 hn (by omega);have cases:n=0∨n=1∨n=2∨n=3∨n=4:=by omega
 rcases cases with rfl|rfl|rfl|rfl|rfl
 ·simp-dsimp[go_sem,hN,if_mn,wrap_3,wrap_4];exact wkA
 ·simp-dsimp[go_sem,hN,if_mn,wrap_3,wrap_4];exact wkA
 ·simp-dsimp[go_sem,hN,if_mn,wrap_3,wrap_4];exact wkA
 ·simp-dsimp[go_sem,hN,if_mn,wrap_3,wrap_4];exact wkA
 ·simp-dsimp[go_sem,hN]
end Go.Proofs.YtilhejdbiionhaaGreatDoor

set_option maxRecDepth 4000
set_option maxHeartbeats 1000000
namespace Go.Proofs.YtilhejdbiionhaaGreatDoor
open Go Go.Abs Go.Cw
attribute [local go_sem] Cnt.c
theorem qdi(e:Ex):APure Tryz.prog 170 [.agg e.x] (I (rdsE e)):=by
 refine qak Tryz.func170 Tryz.ntmps170 rfl (by kernel_rfl) rfl rfl fun E h hN hh hu hb=>?_;simp[go_sem]at hb;rw[rdsE_eq];obtain⟨G,hG⟩:∃G:Int,G=if e.op=22∨e.op=23∨e.op=24 then 1 else 0:=⟨_,rfl⟩
 rw[←hG];simp-dsimp[go_sem,hN];refine cnd ?_ ?_<;>intro h1<;>simp at h1
 ·simp-dsimp[go_sem,hN,decide_eq_true h1];have hv:G=1:=by rw[hG,if_pos (by omega)]
  refine qap (α:=Int) e.args.length (fun n m=>rdsL (e.args.drop n) m=rdsL e.args G) (fun n m=>⟨[(1,.ptr h.length 0),(3,I m),(13,.slice (e.args.map Ex.c)),(14,I e.args.length),(15,I n)],h++[.cells e.x]⟩) G (by simp) (wkA (by simp[go_sem,hv])) ?_;intro n m hn hI;have hw:=qa2 hn hb.2.1;simp-dsimp[go_sem,hN];refine cnd ?_ ?_<;>intro hc<;>simp at hc
  ·rw[qaf hc,rdsL]at hI;have hlt:SizeOf.sizeOf e.args[n]<SizeOf.sizeOf e:=Ex.arg_lt (List.getElem_mem hc);simp-dsimp[go_sem,hN,hc];refine qaa (qdi e.args[n]) ?_;simp-dsimp[go_sem,hN,hw];exact⟨hc,_,hI,wkA⟩
  ·rw[List.drop_eq_nil_of_le (by omega),rdsL]at hI;simp-dsimp[go_sem,hN,if_mn];rw[hI]
 simp-dsimp[go_sem,hN];refine cnd ?_ ?_<;>intro h2<;>simp at h2
 ·simp-dsimp[go_sem,hN,decide_eq_true h2];have hv:G=1:=by rw[hG,if_pos (by omega)]
  refine qap (α:=Int) e.args.length (fun n m=>rdsL (e.args.drop n) m=rdsL e.args G) (fun n m=>⟨[(1,.ptr h.length 0),(3,I m),(13,.slice (e.args.map Ex.c)),(14,I e.args.length),(15,I n)],h++[.cells e.x]⟩) G (by simp) (wkA (by simp[go_sem,hv])) ?_;intro n m hn hI;have hw:=qa2 hn hb.2.1;simp-dsimp[go_sem,hN];refine cnd ?_ ?_<;>intro hc<;>simp at hc
  ·rw[qaf hc,rdsL]at hI;have hlt:SizeOf.sizeOf e.args[n]<SizeOf.sizeOf e:=Ex.arg_lt (List.getElem_mem hc);simp-dsimp[go_sem,hN,hc];refine qaa (qdi e.args[n]) ?_;simp-dsimp[go_sem,hN,hw];exact⟨hc,_,hI,wkA⟩
  ·rw[List.drop_eq_nil_of_le (by omega),rdsL]at hI;simp-dsimp[go_sem,hN,if_mn];rw[hI]
 simp-dsimp[go_sem,hN];refine cnd ?_ ?_<;>intro h3<;>simp at h3
 ·simp-dsimp[go_sem,hN];have hv:G=1:=by rw[hG,if_pos (by omega)]
  refine qap (α:=Int) e.args.length (fun n m=>rdsL (e.args.drop n) m=rdsL e.args G) (fun n m=>⟨[(1,.ptr h.length 0),(3,I m),(13,.slice (e.args.map Ex.c)),(14,I e.args.length),(15,I n)],h++[.cells e.x]⟩) G (by simp) (wkA (by simp[go_sem,hv])) ?_;intro n m hn hI;have hw:=qa2 hn hb.2.1;simp-dsimp[go_sem,hN];refine cnd ?_ ?_<;>intro hc<;>simp at hc
  ·rw[qaf hc,rdsL]at hI;have hlt:SizeOf.sizeOf e.args[n]<SizeOf.sizeOf e:=Ex.arg_lt (List.getElem_mem hc);simp-dsimp[go_sem,hN,hc];refine qaa (qdi e.args[n]) ?_;simp-dsimp[go_sem,hN,hw];exact⟨hc,_,hI,wkA⟩
  ·rw[List.drop_eq_nil_of_le (by omega),rdsL]at hI;simp-dsimp[go_sem,hN,if_mn];rw[hI]
 ·simp-dsimp[go_sem,hN];have hv:G=0:=by rw[hG,if_neg (by omega)]
  refine qap (α:=Int) e.args.length (fun n m=>rdsL (e.args.drop n) m=rdsL e.args G) (fun n m=>⟨[(1,.ptr h.length 0),(3,I m),(13,.slice (e.args.map Ex.c)),(14,I e.args.length),(15,I n)],h++[.cells e.x]⟩) G (by simp) (wkA (by simp[go_sem,hv])) ?_;intro n m hn hI;have hw:=qa2 hn hb.2.1;simp-dsimp[go_sem,hN];refine cnd ?_ ?_<;>intro hc<;>simp at hc
  ·rw[qaf hc,rdsL]at hI;have hlt:SizeOf.sizeOf e.args[n]<SizeOf.sizeOf e:=Ex.arg_lt (List.getElem_mem hc);simp-dsimp[go_sem,hN,hc];refine qaa (qdi e.args[n]) ?_;simp-dsimp[go_sem,hN,hw];exact⟨hc,_,hI,wkA⟩
  ·rw[List.drop_eq_nil_of_le (by omega),rdsL]at hI;simp-dsimp[go_sem,hN,if_mn];rw[hI]
termination_by SizeOf.sizeOf e
mutual
theorem c_cost_statement(t:St):APure Tryz.prog 114 [.agg t.x] (.agg (cntS t).c):=by
 refine qak Tryz.func114 Tryz.ntmps114 rfl (by kernel_rfl) rfl rfl fun E h hN hh hu hb=>?_;have lt1:=St.body_le t;have lt2:=St.els_le t;rw[cntS_eq];simp-dsimp[go_sem,hN];refine cnd ?_ ?_<;>intro h8<;>simp at h8
 ·simp-dsimp[go_sem,hN];refine qaa (qdi t.a) ?_;simp-dsimp[go_sem,hN];refine cnd ?_ ?_<;>intro h3<;>simp at h3<;>simp-dsimp[go_sem,hN]
  ·refine qai 5 mixed (by kernel_rfl) (by kernel_rfl) ?_;simp-dsimp (maxSteps:=1000000) [go_sem,hN];refine qax (qdi t.b) (by simp) ?_;simp-dsimp[go_sem,hN,if_mn];simp[cnt0,h3]
  refine cnd ?_ ?_<;>intro h4<;>simp at h4<;>simp-dsimp[go_sem,hN]
  ·simp[cnt0,h4]
  refine cnd ?_ ?_<;>intro h7<;>simp at h7<;>simp-dsimp[go_sem,hN]
  ·simp[cnt0,h7]
  refine cnd ?_ ?_<;>intro h5<;>simp at h5<;>simp-dsimp[go_sem,hN]
  ·refine qai 8 mixed (by kernel_rfl) (by kernel_rfl) ?_;simp-dsimp[go_sem,hN];refine qax (c_cost_block t.body) (by simp) ?_;simp-dsimp[go_sem,hN];refine qax (c_cost_block t.els) (by simp) ?_;simp-dsimp[go_sem,hN];refine qax (c_cost_larger (cntB t.body) (cntB t.els)) (by simp) ?_;simp-dsimp[go_sem,hN];refine qaa (c_cost_plus ⟨1,rdsE t.a,0,0⟩ ((cntB t.body).larger (cntB t.els))) ?_;simp-dsimp[go_sem,hN];rw[if_pos h5];simp[cnt0,h5]
  refine cnd ?_ ?_<;>intro h6<;>simp at h6<;>simp-dsimp[go_sem,hN]
  ·refine qai 5 mixed (by kernel_rfl) (by kernel_rfl) ?_;simp-dsimp[go_sem,hN];refine qax (qdi t.b) (by simp) ?_;simp-dsimp[go_sem,hN,if_mn];refine qai 7 mixed (by kernel_rfl) (by kernel_rfl) ?_;simp-dsimp[go_sem,hN];refine qax (c_cost_block t.body) (by simp) ?_;simp-dsimp[go_sem,hN];refine qax (c_cost_times (cntB t.body) t.max) (by simp) ?_;simp-dsimp[go_sem,hN];refine qaa (c_cost_plus ⟨W64 (1+t.max),mn (W64 (rdsE t.a+rdsE t.b)) 16385,0,0⟩ ((cntB t.body).times t.max)) ?_;simp-dsimp[go_sem,hN];rw[if_neg (by omega),if_pos h6];simp[cnt0,h6]
  rw[if_neg h5,if_neg h6];simp[cnt0,h3,h4,h5,h6,h7,h8]
 ·simp-dsimp[go_sem,hN];refine cnd (fun h3=>by simp at h3;omega) (fun h3=>?_);simp at h3;simp-dsimp[go_sem,hN];refine cnd (fun h4=>by simp at h4;omega) (fun h4=>?_);simp at h4;simp-dsimp[go_sem,hN];refine cnd (fun h7=>by simp at h7;omega) (fun h7=>?_);simp at h7;simp-dsimp[go_sem,hN];refine cnd (fun h5=>by simp at h5;omega) (fun h5=>?_);simp at h5;simp-dsimp[go_sem,hN];refine cnd (fun h6=>by simp at h6;omega) (fun h6=>?_);simp at h6;simp-dsimp[go_sem,hN];rw[if_neg h5,if_neg h6];simp[cnt0,h3,h4,h5,h6,h7,h8]
termination_by SizeOf.sizeOf t
theorem c_cost_block(l:List St):APure Tryz.prog 69 [.slice (l.map St.c)] (.agg (cntB l).c):=by
 refine qak Tryz.func69 Tryz.ntmps69 rfl (by kernel_rfl) rfl rfl fun E h hN hh hu hb=>?_;simp[go_sem]at hb;simp-dsimp[go_sem,hN];refine qap (α:=Cnt) l.length (fun n c=>cntL (l.drop n) c=cntB l) (fun n c=>⟨[(2,.ptr h.length 0),(3,.ptr (h.length+1) 0),(6,.slice (l.map St.c)),(7,I l.length),(8,I n)],h++[.cells [I 0,I 0,I 0,I 0],.cells c.c]⟩) ⟨0,0,0,0⟩ (by simp) (wkA (by simp[go_sem,Cnt.c])) ?_;intro n c hn hI;have hw:=qa2 hn hb.1;simp-dsimp[go_sem,hN];refine cnd ?_ ?_<;>intro hc<;>simp at hc
 ·rw[qaf hc,cntL]at hI;have hlt:SizeOf.sizeOf l[n]<SizeOf.sizeOf l:=List.sizeOf_lt_of_mem (List.getElem_mem hc);simp-dsimp[go_sem,hN,hc];refine qai 3 mixed (by kernel_rfl) (by kernel_rfl) ?_;simp-dsimp[go_sem,hN,hc];refine qax (c_cost_statement l[n]) (by simp) ?_;simp-dsimp[go_sem,hN,hc];refine qaa (c_cost_plus c (cntS l[n])) ?_;simp-dsimp[go_sem,hN,hc,hw];exact⟨_,hI,wkA⟩
 ·rw[List.drop_eq_nil_of_le (by omega),cntL]at hI;simp-dsimp[go_sem,hN];subst hI;simp[Cnt.c]
termination_by SizeOf.sizeOf l
end
end Go.Proofs.YtilhejdbiionhaaGreatDoor
