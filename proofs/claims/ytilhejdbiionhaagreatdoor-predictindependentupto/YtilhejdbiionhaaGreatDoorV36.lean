/- Part 36 of a proof: W15, W16, W17, W18 -/
import Derived.Shelf.Small.Strs
import Derived.Test.YtilhejdbiionhaaGreatDoorV13
import Derived.Test.YtilhejdbiionhaaGreatDoorV16
import Derived.Test.YtilhejdbiionhaaGreatDoorV17
import Derived.Test.YtilhejdbiionhaaGreatDoorV22
import Derived.Test.YtilhejdbiionhaaGreatDoorV23
import Derived.Test.YtilhejdbiionhaaGreatDoorV26
import Derived.Test.YtilhejdbiionhaaGreatDoorV30
import Derived.Test.YtilhejdbiionhaaGreatDoorV35
set_option linter.all false

set_option maxRecDepth 4000
namespace Go.Proofs.YtilhejdbiionhaaGreatDoor
open Go Go.Abs Go.Cw
def chkH (h:qab) (p:Proc) (s:TS):qab:=h++[.cells p.c,.map (kAV I s.visible),.map (kAV Bo s.loops),.map (kAV I s.all),.cells [.mapr (h.length+1),.mapr (h.length+2),.mapr (h.length+3)]]
theorem chkTH (h:qab) (hu:hUnder h.length h=true) (p:Proc):TH (h.length+4) (h.length+1) (h.length+2) (h.length+3) (chkH h p) (h.length+5) where
 len:=fun s=>by simp [chkH]
 hc:=by omega
 ha:=by omega
 hb:=by omega
 hd:=by omega
 lc:=fun s=>by simp [chkH]
 la:=fun s=>by simp [chkH]
 lb:=fun s=>by simp [chkH]
 ld:=fun s=>by simp [chkH]
 sa:=fun s v=>by simp [chkH]
 sb:=fun s v=>by simp [chkH]
 sd:=fun s v=>by simp [chkH]
 und:=fun s=>by
  rw [chkH,qal hu];have k1:∀ n l,(AObj.map (kAV I l)).under n=true:=kAV_und (fun _ _=>rfl);have k2:∀ n l,(AObj.map (kAV Bo l)).under n=true:=kAV_und (fun _ _=>rfl);simp only [hUnder,k1,k2,Bool.and_true,Bool.true_and];simp [go_sem]
set_option maxHeartbeats 2000000 in
theorem c_types_check (p:Proc) (h:qab):ACalls Tryz.prog 86 [.agg p.c] h fun r h'=>r=.ret (.tuple [.top,I (qb3 p)])∧h'=h:=by
 refine qaq Tryz.func86 Tryz.ntmps86 rfl (by kernel_rfl) rfl fun E hN hh hu hb hb' hua=>?_;simp [go_sem] at hb;have T:=chkTH h hu p;simp -dsimp [go_sem,hN];refine qaa (c_ast_Validate p) ?_;simp -dsimp [go_sem,hN];refine cnd ?_ ?_<;>intro h0<;>simp at h0
 ·
  simp -dsimp [go_sem,hN];refine ⟨.tuple [.top,_],.tuple ⟨.top _,.refl _,trivial⟩,h,?_⟩;rw [qb3,if_pos h0];simp [go_sem,hu]
 have hlen:p.params.length≤6:=by
  unfold qb7 at h0;split at h0
  · contradiction
  split at h0
  · contradiction
  rename_i h1;simp only [Decidable.not_not] at h1;unfold paramsE at h1;split at h1
  · contradiction
  · omega
 simp -dsimp [go_sem,hN];refine qat (α:=TS) p.params.length (fun n x=>declP (p.params.drop n) x=declP p.params ⟨[],[],[]⟩∧(p.params.drop n).any (fun x=>decide (x.ty=3))=p.params.any (fun x=>decide (x.ty=3))) (fun n x=>⟨[(1,.ptr h.length 0),(5,.ptr (h.length+4) 0),(23,.slice (p.params.map Param.c)),(24,I p.params.length),(25,I n)],chkH h p x⟩) ⟨[],[],[]⟩ (by simp) (Wk.mk (by simp [hh,T.len]) (by simp [go_sem,chkH,kAV,qbv]) (T.und' _) (by simp [go_sem,T.len])) ?_;intro n x hn ⟨hI,hJ⟩;have hw:=qa3 hn hb.2.1.1;simp -dsimp [go_sem,hN];refine cnd ?_ ?_<;>intro hc<;>simp at hc
 ·
  rw [qae hc] at hI hJ;rw [List.any_cons] at hJ;rw [declP,List.foldl_cons] at hI;simp -dsimp [go_sem,hN,hc];refine cnd ?_ ?_<;>intro h1<;>simp at h1
  ·
   simp -dsimp [go_sem,hN];refine ⟨.tuple [.top,_],.tuple ⟨.top _,.refl _,trivial⟩,h,?_⟩;rw [qb3,if_neg (by simpa using h0),if_pos (by rw [← hJ];simp [h1])];simp [go_sem,hu,chkH,hwk.app0]
  simp -dsimp [go_sem,hN];refine qaj (c_checker_declare (T.ext [.cells p.params[n].c] (by simp [go_sem])) x p.params[n].name p.params[n].ty) ?_;rintro r h' ⟨rfl,rfl⟩;simp -dsimp [go_sem,hN,hw];exact ⟨hc,_,⟨hI,by rw [← hJ];simp [h1]⟩,Wk.mk (by simp [hh,T.len]) (by simp [go_sem]) (T.und' _) (by simp [go_sem,T.len])⟩
 rw [List.drop_eq_nil_of_le (by omega)] at hI hJ;have x0:∀ (x:TS) (l:qab),(chkH h p x++l)[h.length]?=some (.cells p.c):=fun x l=>by simp [chkH]
 have x1:∀ (x:TS) (o:AObj) (l:qab),(chkH h p x++o::l)[h.length+5]?=some o:=fun x o l=>by
  rw [List.getElem?_append_right (by rw [T.len];omega),T.len,Nat.sub_self];rfl
 have x2:∀ (x:TS) (o o':AObj) (l:qab),(chkH h p x++o::l).set (h.length+5) o'=chkH h p x++o'::l:=fun x o o' l=>by
  rw [List.set_append_right _ _ (by rw [T.len];omega),T.len,Nat.sub_self];rfl
 have k2:∀ n l,(AObj.map (kAV Bo l)).under n=true:=kAV_und (fun _ _=>rfl);have xu:∀ (x:TS) (m:List (qac×Bool)),hUnder (chkH h p x++[AObj.map (kAV Bo m)]).length (chkH h p x++[AObj.map (kAV Bo m)])=true:=fun x m=>by
  rw [List.length_append,qal (T.und' x)];simp only [hUnder,k2,Bool.and_true]
 simp -dsimp [go_sem,hN,x0];refine qaa (c_ast_Names p (by omega)) ?_;simp -dsimp [go_sem,hN];refine qat (α:=List (qac×Bool)) (qcf p).length (fun n m=>dupM m ((qcf p).drop n)=dupM [] (qcf p)) (fun n m=>⟨[(1,.ptr h.length 0),(5,.ptr (h.length+4) 0),(8,.mapr (h.length+5)),(41,.slice ((qcf p).map qa1)),(42,I (qcf p).length),(43,I n)],chkH h p x++[AObj.map (kAV Bo m)]⟩) [] (by simp) (Wk.mk (by simp [hh,T.len];omega) (by simp [go_sem,T.len,kAV,qbv]) (xu _ _) (by simp [go_sem,T.len];try omega)) ?_;intro n m hn hM;have hnl:(qcf p).length≤407:=by
  have:=blkW_K qd4 qby List.length nameS_len (fun s _=>by simp [qby]) p.body 1 (401,p.params.map (·.name))
  simp only [List.length_map] at this;unfold qcf;omega
 have hw:=qa3 hn (by omega);simp -dsimp [go_sem,hN];refine cnd ?_ ?_<;>intro hc<;>simp at hc
 ·
  rw [qae hc,dupM] at hM;rcases hk:qbm m (qcf p)[n] with _ | bo
  ·
   rw [hk] at hM;simp -dsimp [go_sem,hN,hc,x1,x2,hk,qa1,hw];exact ⟨_,hM,Wk.mk (by simp [hh,T.len];omega) (by simp [go_sem,T.len]) (xu _ _) (by simp [go_sem,T.len])⟩
  ·
   rw [hk] at hM;simp -dsimp [go_sem,hN,hc,x1,x2,hk,qa1,hw];refine cnd (fun h1=>?_) (fun h1=>?_)
   ·
    simp -dsimp [go_sem,hN];refine ⟨.tuple [.top,_],.tuple ⟨.top _,.refl _,trivial⟩,h,?_⟩;rw [qb3,if_neg (by simpa using h0),if_neg (by rw [← hJ];simp),if_pos (by rw [← hM];simp [h1])];simp [go_sem,hu,chkH,hwk.app0]
   ·
    simp -dsimp [go_sem,hN,x1,x2,hw];subst h1;exact ⟨hc,_,hM,Wk.mk (by simp [hh,T.len];omega) (by simp [go_sem,T.len]) (xu _ _) (by simp [go_sem,T.len])⟩
 rw [List.drop_eq_nil_of_le (by omega),dupM] at hM;have y0:∀ (x:TS) (l:qab),(chkH h p x++l)[h.length+4]?=some (.cells [.mapr (h.length+1),.mapr (h.length+2),.mapr (h.length+3)]):=fun x l=>T.lc' x l;simp -dsimp [go_sem,hN,x0];refine qaj (qd8 (T.ext [AObj.map (kAV Bo m)] (by simp only [hUnder,k2,Bool.and_true])) x p.body 1 (validP_ok h0)) ?_;rintro r h' ⟨rfl,rfl⟩;simp -dsimp [go_sem,hN,y0];refine ⟨.tuple [.top,_],.tuple ⟨.top _,.refl _,trivial⟩,h,?_⟩;rw [qb3,if_neg (by simpa using h0),if_neg (by rw [← hJ];simp),if_neg (by rw [← hM];simp),← hI];simp [go_sem,hu,chkH,hwk.app0,declP]
theorem c_types_Check (p:Proc):APure Tryz.prog 57 [.agg p.c] (I (qb3 p)):=by
 refine qap Tryz.func57 Tryz.ntmps57 rfl (by kernel_rfl) rfl rfl fun E h hN hh hu hb=>?_;simp -dsimp [go_sem,hN];refine qaj (c_types_check p _) ?_;rintro r h' ⟨rfl,rfl⟩;simp -dsimp [go_sem,hN]
theorem c_types_Args (p:Proc) (l:List V):APure Tryz.prog 38 [.agg p.c,.slice (l.map V.c)] (I (qcp p l)):=by
 refine qap Tryz.func38 Tryz.ntmps38 rfl (by kernel_rfl) rfl rfl fun E h hN hh hu hb=>?_;simp [go_sem] at hb;simp -dsimp [go_sem,hN];refine qaa (c_types_Check p) ?_;simp -dsimp [go_sem,hN];refine cnd ?_ ?_<;>intro h0<;>simp at h0
 ·
  simp -dsimp [go_sem,hN];rw [qcp,if_pos (by by_cases h1:qb3 p=0<;>grind)]
 rw [qcp,if_neg (by have:=h0.2;have:=h0.1;omega)];have hle:l.length=p.params.length:=by have:=h0.2;omega
 simp -dsimp [go_sem,hN];refine qao l.length (fun n=>argsOk (p.params.drop n) (l.drop n)=argsOk p.params l) (fun n=>⟨[(2,.ptr h.length 0),(20,.slice (l.map V.c)),(21,I l.length),(22,I n)],h++[.cells p.c]⟩) (by simp) wkA ?_;intro n hn hI;have hw:=qa3 hn hb.2.1;simp -dsimp [go_sem,hN];refine cnd ?_ ?_<;>intro hc<;>simp at hc
 ·
  have hc':n<p.params.length:=by omega
  rw [qae hc,qae hc',argsOk] at hI;simp -dsimp [go_sem,hN,hc,hc'];refine qaf (c_types_plain l[n].s) (by simp) ?_;simp -dsimp [go_sem,hN,hc']
  repeat refine ⟨by grind,?_⟩
  refine cnd (fun h1=>?_) (fun h1=>?_)
  ·
   simp -dsimp [go_sem,hN];rw [← hI];unfold argOk;simp at h1;grind
  ·
   simp -dsimp [go_sem,hN,hw];refine ⟨hc,by rw [← hI];unfold argOk;simp at h1;grind,wkA⟩
 ·
  rw [List.drop_eq_nil_of_le (by omega),List.drop_eq_nil_of_le (by omega)] at hI;simp -dsimp [go_sem,hN];exact hI.symm.trans (by simp [argsOk])
end Go.Proofs.YtilhejdbiionhaaGreatDoor

set_option maxRecDepth 4000
namespace Go.Proofs.YtilhejdbiionhaaGreatDoor
open Go Go.Abs Go.Cw
attribute [local go_sem] Cnt.c Cnt.plus Cnt.times Cnt.larger
set_option maxHeartbeats 1000000 in
theorem c_cost_plus (x y:Cnt):APure Tryz.prog 113 [.agg x.c,.agg y.c] (.agg (x.plus y).c):=by
 refine qap Tryz.func113 Tryz.ntmps113 rfl (by kernel_rfl) rfl rfl fun E h hN hh hu hb=>?_;simp -dsimp [go_sem,hN];refine qao 4 (fun _=>True) (fun n=>⟨[(2,.ptr h.length 0),(3,.ptr (h.length+1) 0),(4,.ptr (h.length+2) 0),(6,I n)],h++[.cells ((x.plus y).c.take n++x.c.drop n),.cells y.c,.cells [I 0,I 0,I 0,I 0]]⟩) trivial wkA ?_;intro n hn _;have hw:=qa3 hn (by omega);have cases:n=0∨n=1∨n=2∨n=3∨n=4:=by omega
 rcases cases with rfl | rfl | rfl | rfl | rfl
 ·
  simp -dsimp [go_sem,hN];refine qak 9 mixed (by kernel_rfl) (by kernel_rfl) ?_;simp -dsimp [go_sem,hN,if_mn,wrap_3,wrap_4];exact wkA
 ·
  simp -dsimp [go_sem,hN];refine qak 9 mixed (by kernel_rfl) (by kernel_rfl) ?_;simp -dsimp [go_sem,hN,if_mn,wrap_3,wrap_4];exact wkA
 ·
  simp -dsimp [go_sem,hN];refine qak 9 mixed (by kernel_rfl) (by kernel_rfl) ?_;simp -dsimp [go_sem,hN,if_mn,wrap_3,wrap_4];exact wkA
 ·
  simp -dsimp [go_sem,hN];refine qak 9 mixed (by kernel_rfl) (by kernel_rfl) ?_;simp -dsimp [go_sem,hN,if_mn,wrap_3,wrap_4];exact wkA
 · simp -dsimp [go_sem,hN]
set_option maxHeartbeats 1000000 in
theorem c_cost_larger (x y:Cnt):APure Tryz.prog 171 [.agg x.c,.agg y.c] (.agg (x.larger y).c):=by
 refine qap Tryz.func171 Tryz.ntmps171 rfl (by kernel_rfl) rfl rfl fun E h hN hh hu hb=>?_;simp -dsimp [go_sem,hN];refine qao 4 (fun _=>True) (fun n=>⟨[(2,.ptr h.length 0),(3,.ptr (h.length+1) 0),(4,.ptr (h.length+2) 0),(6,I n)],h++[.cells ((x.larger y).c.take n++x.c.drop n),.cells y.c,.cells [I 0,I 0,I 0,I 0]]⟩) trivial wkA ?_;intro n hn _;have hw:=qa3 hn (by omega);have cases:n=0∨n=1∨n=2∨n=3∨n=4:=by omega
 rcases cases with rfl | rfl | rfl | rfl | rfl
 ·
  simp -dsimp [go_sem,hN];refine qak 8 mixed (by kernel_rfl) (by kernel_rfl) ?_;simp -dsimp [go_sem,hN,if_mx,wrap_3,wrap_4];exact wkA
 ·
  simp -dsimp [go_sem,hN];refine qak 8 mixed (by kernel_rfl) (by kernel_rfl) ?_;simp -dsimp [go_sem,hN,if_mx,wrap_3,wrap_4];exact wkA
 ·
  simp -dsimp [go_sem,hN];refine qak 8 mixed (by kernel_rfl) (by kernel_rfl) ?_;simp -dsimp [go_sem,hN,if_mx,wrap_3,wrap_4];exact wkA
 ·
  simp -dsimp [go_sem,hN];refine qak 8 mixed (by kernel_rfl) (by kernel_rfl) ?_;simp -dsimp [go_sem,hN,if_mx,wrap_3,wrap_4];exact wkA
 · simp -dsimp [go_sem,hN]
set_option maxHeartbeats 1000000 in
theorem c_cost_times (x:Cnt) (k:Int):APure Tryz.prog 172 [.agg x.c,I k] (.agg (x.times k).c):=by
 refine qap Tryz.func172 Tryz.ntmps172 rfl (by kernel_rfl) rfl rfl fun E h hN hh hu hb=>?_;simp -dsimp [go_sem,hN];refine qao 4 (fun _=>True) (fun n=>⟨[(1,I k),(2,.ptr h.length 0),(4,.ptr (h.length+1) 0),(6,I n)],h++[.cells ((x.times k).c.take n++x.c.drop n),.cells [I 0,I 0,I 0,I 0]]⟩) trivial wkA ?_;intro n hn _;have hw:=qa3 hn (by omega);have cases:n=0∨n=1∨n=2∨n=3∨n=4:=by omega
 rcases cases with rfl | rfl | rfl | rfl | rfl
 ·
  simp -dsimp [go_sem,hN,if_mn,wrap_3,wrap_4];exact wkA
 ·
  simp -dsimp [go_sem,hN,if_mn,wrap_3,wrap_4];exact wkA
 ·
  simp -dsimp [go_sem,hN,if_mn,wrap_3,wrap_4];exact wkA
 ·
  simp -dsimp [go_sem,hN,if_mn,wrap_3,wrap_4];exact wkA
 · simp -dsimp [go_sem,hN]
end Go.Proofs.YtilhejdbiionhaaGreatDoor

set_option maxRecDepth 4000
set_option maxHeartbeats 1000000
namespace Go.Proofs.YtilhejdbiionhaaGreatDoor
open Go Go.Abs Go.Cw
attribute [local go_sem] Cnt.c
theorem qc5 (e:Ex):APure Tryz.prog 170 [.agg e.x] (I (rdsE e)):=by
 refine qap Tryz.func170 Tryz.ntmps170 rfl (by kernel_rfl) rfl rfl fun E h hN hh hu hb=>?_;simp [go_sem] at hb;rw [rdsE_eq];obtain ⟨G,hG⟩:∃ G:Int,G=if e.op=22∨e.op=23∨e.op=24 then 1 else 0:=⟨_,rfl⟩
 rw [← hG];simp -dsimp [go_sem,hN];refine cnd ?_ ?_<;>intro h1<;>simp at h1
 ·
  simp -dsimp [go_sem,hN,decide_eq_true h1];have hv:G=1:=by rw [hG,if_pos (by omega)]
  refine qat (α:=Int) e.args.length (fun n m=>rdsL (e.args.drop n) m=rdsL e.args G) (fun n m=>⟨[(1,.ptr h.length 0),(3,I m),(13,.slice (e.args.map Ex.c)),(14,I e.args.length),(15,I n)],h++[.cells e.x]⟩) G (by simp) (wkA (by simp [go_sem,hv])) ?_;intro n m hn hI;have hw:=qa3 hn hb.2.1;simp -dsimp [go_sem,hN];refine cnd ?_ ?_<;>intro hc<;>simp at hc
  ·
   rw [qae hc,rdsL] at hI;have hlt:SizeOf.sizeOf e.args[n]<SizeOf.sizeOf e:=Ex.arg_lt (List.getElem_mem hc);simp -dsimp [go_sem,hN,hc];refine qaa (qc5 e.args[n]) ?_;simp -dsimp [go_sem,hN,hw];exact ⟨hc,_,hI,wkA⟩
  ·
   rw [List.drop_eq_nil_of_le (by omega),rdsL] at hI;simp -dsimp [go_sem,hN,if_mn];rw [hI]
 simp -dsimp [go_sem,hN];refine cnd ?_ ?_<;>intro h2<;>simp at h2
 ·
  simp -dsimp [go_sem,hN,decide_eq_true h2];have hv:G=1:=by rw [hG,if_pos (by omega)]
  refine qat (α:=Int) e.args.length (fun n m=>rdsL (e.args.drop n) m=rdsL e.args G) (fun n m=>⟨[(1,.ptr h.length 0),(3,I m),(13,.slice (e.args.map Ex.c)),(14,I e.args.length),(15,I n)],h++[.cells e.x]⟩) G (by simp) (wkA (by simp [go_sem,hv])) ?_;intro n m hn hI;have hw:=qa3 hn hb.2.1;simp -dsimp [go_sem,hN];refine cnd ?_ ?_<;>intro hc<;>simp at hc
  ·
   rw [qae hc,rdsL] at hI;have hlt:SizeOf.sizeOf e.args[n]<SizeOf.sizeOf e:=Ex.arg_lt (List.getElem_mem hc);simp -dsimp [go_sem,hN,hc];refine qaa (qc5 e.args[n]) ?_;simp -dsimp [go_sem,hN,hw];exact ⟨hc,_,hI,wkA⟩
  ·
   rw [List.drop_eq_nil_of_le (by omega),rdsL] at hI;simp -dsimp [go_sem,hN,if_mn];rw [hI]
 simp -dsimp [go_sem,hN];refine cnd ?_ ?_<;>intro h3<;>simp at h3
 ·
  simp -dsimp [go_sem,hN];have hv:G=1:=by rw [hG,if_pos (by omega)]
  refine qat (α:=Int) e.args.length (fun n m=>rdsL (e.args.drop n) m=rdsL e.args G) (fun n m=>⟨[(1,.ptr h.length 0),(3,I m),(13,.slice (e.args.map Ex.c)),(14,I e.args.length),(15,I n)],h++[.cells e.x]⟩) G (by simp) (wkA (by simp [go_sem,hv])) ?_;intro n m hn hI;have hw:=qa3 hn hb.2.1;simp -dsimp [go_sem,hN];refine cnd ?_ ?_<;>intro hc<;>simp at hc
  ·
   rw [qae hc,rdsL] at hI;have hlt:SizeOf.sizeOf e.args[n]<SizeOf.sizeOf e:=Ex.arg_lt (List.getElem_mem hc);simp -dsimp [go_sem,hN,hc];refine qaa (qc5 e.args[n]) ?_;simp -dsimp [go_sem,hN,hw];exact ⟨hc,_,hI,wkA⟩
  ·
   rw [List.drop_eq_nil_of_le (by omega),rdsL] at hI;simp -dsimp [go_sem,hN,if_mn];rw [hI]
 ·
  simp -dsimp [go_sem,hN];have hv:G=0:=by rw [hG,if_neg (by omega)]
  refine qat (α:=Int) e.args.length (fun n m=>rdsL (e.args.drop n) m=rdsL e.args G) (fun n m=>⟨[(1,.ptr h.length 0),(3,I m),(13,.slice (e.args.map Ex.c)),(14,I e.args.length),(15,I n)],h++[.cells e.x]⟩) G (by simp) (wkA (by simp [go_sem,hv])) ?_;intro n m hn hI;have hw:=qa3 hn hb.2.1;simp -dsimp [go_sem,hN];refine cnd ?_ ?_<;>intro hc<;>simp at hc
  ·
   rw [qae hc,rdsL] at hI;have hlt:SizeOf.sizeOf e.args[n]<SizeOf.sizeOf e:=Ex.arg_lt (List.getElem_mem hc);simp -dsimp [go_sem,hN,hc];refine qaa (qc5 e.args[n]) ?_;simp -dsimp [go_sem,hN,hw];exact ⟨hc,_,hI,wkA⟩
  ·
   rw [List.drop_eq_nil_of_le (by omega),rdsL] at hI;simp -dsimp [go_sem,hN,if_mn];rw [hI]
termination_by SizeOf.sizeOf e
mutual
theorem c_cost_statement (t:St):APure Tryz.prog 114 [.agg t.x] (.agg (cntS t).c):=by
 refine qap Tryz.func114 Tryz.ntmps114 rfl (by kernel_rfl) rfl rfl fun E h hN hh hu hb=>?_;have lt1:=St.body_le t;have lt2:=St.els_le t;rw [cntS_eq];simp -dsimp [go_sem,hN];refine cnd ?_ ?_<;>intro h8<;>simp at h8
 ·
  simp -dsimp [go_sem,hN];refine qaa (qc5 t.a) ?_;simp -dsimp [go_sem,hN];refine cnd ?_ ?_<;>intro h3<;>simp at h3<;>simp -dsimp [go_sem,hN]
  ·
   refine qak 5 mixed (by kernel_rfl) (by kernel_rfl) ?_;simp -dsimp (maxSteps:=1000000) [go_sem,hN];refine qa9 (qc5 t.b) (by simp) ?_;simp -dsimp [go_sem,hN,if_mn];simp [cnt0,h3]
  refine cnd ?_ ?_<;>intro h4<;>simp at h4<;>simp -dsimp [go_sem,hN]
  · simp [cnt0,h4]
  refine cnd ?_ ?_<;>intro h7<;>simp at h7<;>simp -dsimp [go_sem,hN]
  · simp [cnt0,h7]
  refine cnd ?_ ?_<;>intro h5<;>simp at h5<;>simp -dsimp [go_sem,hN]
  ·
   refine qak 8 mixed (by kernel_rfl) (by kernel_rfl) ?_;simp -dsimp [go_sem,hN];refine qa9 (c_cost_block t.body) (by simp) ?_;simp -dsimp [go_sem,hN];refine qa9 (c_cost_block t.els) (by simp) ?_;simp -dsimp [go_sem,hN];refine qa9 (c_cost_larger (cntB t.body) (cntB t.els)) (by simp) ?_;simp -dsimp [go_sem,hN];refine qaa (c_cost_plus ⟨1,rdsE t.a,0,0⟩ ((cntB t.body).larger (cntB t.els))) ?_;simp -dsimp [go_sem,hN];rw [if_pos h5];simp [cnt0,h5]
  refine cnd ?_ ?_<;>intro h6<;>simp at h6<;>simp -dsimp [go_sem,hN]
  ·
   refine qak 5 mixed (by kernel_rfl) (by kernel_rfl) ?_;simp -dsimp [go_sem,hN];refine qa9 (qc5 t.b) (by simp) ?_;simp -dsimp [go_sem,hN,if_mn];refine qak 7 mixed (by kernel_rfl) (by kernel_rfl) ?_;simp -dsimp [go_sem,hN];refine qa9 (c_cost_block t.body) (by simp) ?_;simp -dsimp [go_sem,hN];refine qa9 (c_cost_times (cntB t.body) t.max) (by simp) ?_;simp -dsimp [go_sem,hN];refine qaa (c_cost_plus ⟨W64 (1+t.max),mn (W64 (rdsE t.a+rdsE t.b)) 16385,0,0⟩ ((cntB t.body).times t.max)) ?_;simp -dsimp [go_sem,hN];rw [if_neg (by omega),if_pos h6];simp [cnt0,h6]
  rw [if_neg h5,if_neg h6];simp [cnt0,h3,h4,h5,h6,h7,h8]
 ·
  simp -dsimp [go_sem,hN];refine cnd (fun h3=>by simp at h3;omega) (fun h3=>?_);simp at h3;simp -dsimp [go_sem,hN];refine cnd (fun h4=>by simp at h4;omega) (fun h4=>?_);simp at h4;simp -dsimp [go_sem,hN];refine cnd (fun h7=>by simp at h7;omega) (fun h7=>?_);simp at h7;simp -dsimp [go_sem,hN];refine cnd (fun h5=>by simp at h5;omega) (fun h5=>?_);simp at h5;simp -dsimp [go_sem,hN];refine cnd (fun h6=>by simp at h6;omega) (fun h6=>?_);simp at h6;simp -dsimp [go_sem,hN];rw [if_neg h5,if_neg h6];simp [cnt0,h3,h4,h5,h6,h7,h8]
termination_by SizeOf.sizeOf t
theorem c_cost_block (l:List St):APure Tryz.prog 69 [.slice (l.map St.c)] (.agg (cntB l).c):=by
 refine qap Tryz.func69 Tryz.ntmps69 rfl (by kernel_rfl) rfl rfl fun E h hN hh hu hb=>?_;simp [go_sem] at hb;simp -dsimp [go_sem,hN];refine qat (α:=Cnt) l.length (fun n c=>cntL (l.drop n) c=cntB l) (fun n c=>⟨[(2,.ptr h.length 0),(3,.ptr (h.length+1) 0),(6,.slice (l.map St.c)),(7,I l.length),(8,I n)],h++[.cells [I 0,I 0,I 0,I 0],.cells c.c]⟩) ⟨0,0,0,0⟩ (by simp) (wkA (by simp [go_sem,Cnt.c])) ?_;intro n c hn hI;have hw:=qa3 hn hb.1;simp -dsimp [go_sem,hN];refine cnd ?_ ?_<;>intro hc<;>simp at hc
 ·
  rw [qae hc,cntL] at hI;have hlt:SizeOf.sizeOf l[n]<SizeOf.sizeOf l:=List.sizeOf_lt_of_mem (List.getElem_mem hc);simp -dsimp [go_sem,hN,hc];refine qak 3 mixed (by kernel_rfl) (by kernel_rfl) ?_;simp -dsimp [go_sem,hN,hc];refine qa9 (c_cost_statement l[n]) (by simp) ?_;simp -dsimp [go_sem,hN,hc];refine qaa (c_cost_plus c (cntS l[n])) ?_;simp -dsimp [go_sem,hN,hc,hw];exact ⟨_,hI,wkA⟩
 ·
  rw [List.drop_eq_nil_of_le (by omega),cntL] at hI;simp -dsimp [go_sem,hN];subst hI;simp [Cnt.c]
termination_by SizeOf.sizeOf l
end
end Go.Proofs.YtilhejdbiionhaaGreatDoor

set_option maxRecDepth 4000
namespace Go.Proofs.YtilhejdbiionhaaGreatDoor
open Go Go.Abs Go.Cw
theorem c_visit {l:Nat} {HF:Nat→qab} {HX:Nat→Ex→qab} {stop:Ex→Bool} {n0:Nat} (Y:YH Tryz.prog l HF HX stop n0) (e:Ex) (k:Nat) :
  ACalls Tryz.prog 213 [.agg e.x,.fn (.yield l) [] []] (HF k) fun r h'=>r=.ret (Bo (scan stop (preE e) k).2.isNone)∧h'=finY HF HX (scan stop (preE e) k):=by
 refine acalls_introI Tryz.func213 rfl (by kernel_rfl) (by simp [Tryz.ntmps213]) ?_;intro E hN hh hu hb hb' hua;rw [Tryz.ntmps213] at hN;simp [go_sem] at hb;have y0:∀ (k:Nat) (x:AObj) (L:qab),(HF k++x::L)[n0]?=some x:=fun k x L=>by
  rw [List.getElem?_append_right (by rw [Y.len];omega),Y.len,Nat.sub_self];rfl
 have y1:∀ (k:Nat) (z:Ex) (x:AObj) (L:qab),(HX k z++x::L)[n0]?=some x:=fun k z x L=>by
  rw [List.getElem?_append_right (by rw [Y.lenX];omega),Y.lenX,Nat.sub_self];rfl
 refine awpI_seq (qb9 _ _ _ _ ?_);simp -dsimp [go_sem,hN,Y.len,y0];refine awpI_seq (awpI_seq (awpI_opsY (by kernel_rfl) ?_));simp -dsimp [go_sem,hN,Y.len,y0];have hfin:∀ (r:Nat×Option Ex),(finY HF HX r).length=n0:=fun r=>by
  unfold finY;split
  · exact Y.len _
  · exact Y.lenX _ _
 have hfu:∀ (r:Nat×Option Ex),hUnder (finY HF HX r).length (finY HF HX r)=true:=fun r=>by
  rw [hfin];unfold finY;split
  · exact Y.und _
  · exact Y.undX _ _
 refine (Y.y k e _).mono ?_;rintro r h' ⟨hst,hsf⟩;rw [scan_pre];cases hs:stop e with
 | true =>
  obtain ⟨rfl,rfl⟩:=hst hs;simp -dsimp [go_sem,hN];refine awpI_of_awp (qay _ _ _ ?_);simp -dsimp [go_sem,hN];refine ⟨[],rfl,List.nodup_nil,by simp,?_⟩;simp -dsimp [go_sem,hN,takeAll];exact ⟨_,.refl _,HX k e,rfl,by simp,by simp [Y.len,Y.lenX],by rw [Y.lenX];exact Y.undX _ _,by simp,by simp [finY]⟩
 | false =>
  obtain ⟨rfl,rfl⟩:=hsf hs;simp -dsimp [go_sem,hN];refine awpI_of_awp (qay _ _ _ ?_);simp -dsimp [go_sem,hN];refine awpI_of_awp (qay _ _ _ ?_);simp -dsimp [go_sem,hN,Y.len,y0];refine qat (α:=Nat) e.args.length (fun n m=>scan stop (preL (e.args.drop n)) m=scan stop (preL e.args) (k+1)) (fun n m=>⟨[(1,.fn (.yield l) [] []),(12,.slice (e.args.map Ex.c)),(13,I e.args.length),(14,I n)],HF m⟩) (k+1) (by simp) (Wk.mk (by simp [hh,Y.len]) (by simp [go_sem]) (by rw [Y.len];exact Y.und _) (by simp [go_sem])) ?_;intro n m hn hI;have hw:=qa3 hn hb.2.1;simp -dsimp [go_sem,hN];refine cnd ?_ ?_<;>intro hc<;>simp at hc
  ·
   rw [qae hc,scan_preL] at hI;have hlt:SizeOf.sizeOf e.args[n]<SizeOf.sizeOf e:=Ex.arg_lt (List.getElem_mem hc);simp -dsimp [go_sem,hN,hc,Y.len,y0];refine qaj (c_visit (Y.ext [.cells e.args[n].x] (by simp [go_sem])) e.args[n] m) ?_;rintro r h' ⟨rfl,rfl⟩;rcases hq:scan stop (preE e.args[n]) m with ⟨m',_ | y⟩
   ·
    rw [hq] at hI;simp -dsimp [go_sem,hN,hw,finY];exact ⟨hc,_,hI,Wk.mk (by simp [hh,Y.len]) (by simp [go_sem]) (by rw [Y.len];exact Y.und _) (by simp [go_sem])⟩
   ·
    rw [hq] at hI;simp only at hI;simp -dsimp [go_sem,hN,finY];refine ⟨[],rfl,List.nodup_nil,by simp,?_⟩;rw [← hI];simp -dsimp [go_sem,hN,takeAll,finY];exact ⟨_,.refl _,HX m' y,rfl,by simp,by simp [Y.len,Y.lenX],by rw [Y.lenX];exact Y.undX _ _,rfl,rfl⟩
  ·
   rw [List.drop_eq_nil_of_le (by omega),preL,scan] at hI;simp -dsimp [go_sem,hN];refine ⟨[],rfl,List.nodup_nil,by simp,?_⟩;rw [← hI];simp -dsimp [go_sem,hN,takeAll,finY];exact ⟨_,.refl _,HF m,rfl,by simp,by simp [Y.len],by rw [Y.len];exact Y.und _,rfl,rfl⟩
termination_by SizeOf.sizeOf e
theorem c_nodes1 {l:Nat} {HF:Nat→qab} {HX:Nat→Ex→qab} {stop:Ex→Bool} {n0:Nat} (Y:YH Tryz.prog l HF HX stop n0) (e:Ex) (k i:Nat) (hi:(HF k)[i]?=some (.cells e.x)) :
  ACalls Tryz.prog 212 [.fn (.yield l) [] [],.ptr i 0] (HF k) fun r h'=>r=.ret (.tuple [])∧h'=finY HF HX (scan stop (preE e) k):=by
 refine qaq Tryz.func212 Tryz.ntmps212 rfl (by kernel_rfl) rfl fun E hN hh hu hb hb' hua=>?_;simp -dsimp [go_sem,hN,hi];refine qaj (c_visit Y e k) ?_;rintro r h' ⟨rfl,rfl⟩;simp -dsimp [go_sem,hN];refine ⟨_,.refl _,finY HF HX (scan stop (preE e) k),rfl,hwk.refl _,?_,?_,rfl,rfl⟩
 · unfold finY;split<;>simp [Y.len,Y.lenX]
 ·
  unfold finY;split
  · rw [Y.len];exact Y.und _
  · rw [Y.lenX];exact Y.undX _ _
theorem nilF:liftK Value.nilFunc=.val .nilFunc:=rfl
theorem c_nodes (e:Ex) (h:qab):ACalls Tryz.prog 168 [.agg e.x] h fun r h'=>r=.ret (.fn (.func 212) [] [.ptr h.length 0])∧h'=h++[.cells e.x]:=by
 refine qaq Tryz.func168 Tryz.ntmps168 rfl (by kernel_rfl) rfl fun E hN hh hu hb hb' hua=>?_;simp -dsimp [go_sem,hN,nilF];exact ⟨_,.refl _,_,by simp [AV.under,qam],hwk.refl _,by simp,by rw [List.length_append,qal hu];simp [go_sem],rfl,rfl⟩
theorem c_First (p:Proc) (h:qab):ACalls Tryz.prog 112 [.agg p.c] h fun r h'=>r=.ret (.tuple [I (firstP p).1,I (IntKind.i64.wrap (firstP p).2.1),Bo (firstP p).2.2])∧h'=h:=by
 refine acalls_introI Tryz.func112 rfl (by kernel_rfl) (by simp [Tryz.ntmps112]) ?_;intro E hN hh hu hb hb' hua;rw [Tryz.ntmps112] at hN;simp [go_sem] at hb;refine qb9 _ _ _ _ ?_;simp -dsimp [go_sem,hN];refine qaa (c_ast_Validate p) ?_;simp -dsimp [go_sem,hN];refine cnd ?_ ?_<;>intro h0<;>simp at h0
 ·
  simp -dsimp [go_sem,hN];refine ⟨[],rfl,List.nodup_nil,by simp,?_⟩;simp -dsimp [go_sem,hN,takeAll];rw [firstP,if_pos h0];exact ⟨_,.refl _,h,by simp [go_sem],by simp [go_sem],by simp,by simp [hu,go_sem],rfl,rfl⟩
 rw [firstP,if_neg (by simpa using h0)];have hxl:(qb8 p).length≤401:=by
  have:=blkW_K keepS exprR List.length (fun s _ _=>by simp [keepS]) (fun s _=>by simp [exprR]) p.body 1 (401,[]);simp only [List.length_nil] at this;unfold qb8;omega
 simp -dsimp [go_sem,hN];refine qaa (c_ast_Exprs p) ?_;simp -dsimp [go_sem,hN];obtain ⟨T,hT⟩:∃ T:AV→AV→AV→AV→qab,T=fun a b d f=>h++[.cells p.c,.cells [a],.cells [b],.cells [d],.cells [f]]:=⟨_,rfl⟩
 have hTl:∀ a b d f,(T a b d f).length=h.length+5:=fun a b d f=>by rw [hT];simp
 have g1:∀ a b d f (Z:qab),(T a b d f++Z)[h.length+1]?=some (.cells [a]):=fun a b d f Z=>by rw [hT];simp
 have g2:∀ a b d f (Z:qab),(T a b d f++Z)[h.length+2]?=some (.cells [b]):=fun a b d f Z=>by rw [hT];simp
 have g3:∀ a b d f (Z:qab),(T a b d f++Z)[h.length+3]?=some (.cells [d]):=fun a b d f Z=>by rw [hT];simp
 have g4:∀ a b d f (Z:qab),(T a b d f++Z)[h.length+4]?=some (.cells [f]):=fun a b d f Z=>by rw [hT];simp
 have s1:∀ a b d f a' (Z:qab),(T a b d f++Z).set (h.length+1) (.cells [a'])=T a' b d f++Z:=fun a b d f a' Z=>by rw [hT];simp
 have s2:∀ a b d f a' (Z:qab),(T a b d f++Z).set (h.length+2) (.cells [a'])=T a a' d f++Z:=fun a b d f a' Z=>by rw [hT];simp
 have s3:∀ a b d f a' (Z:qab),(T a b d f++Z).set (h.length+3) (.cells [a'])=T a b a' f++Z:=fun a b d f a' Z=>by rw [hT];simp
 have s4:∀ a b d f a' (Z:qab),(T a b d f++Z).set (h.length+4) (.cells [a'])=T a b d a'++Z:=fun a b d f a' Z=>by rw [hT];simp
 have hTu:∀ (a b:Int) (d:Bool) (f:Int),hUnder (h.length+5) (T (I a) (I b) (Bo d) (I f))=true:=fun a b d f=>by rw [hT,qal hu];simp [go_sem]
 obtain ⟨B,hB⟩:∃ B:Nat→qab,B=fun (k:Nat)=>T (I 0) (I 0) (Bo false) (I (IntKind.i64.wrap (k:Int))):=⟨_,rfl⟩
 have hBl:∀ k,(B k).length=h.length+5:=fun k=>by rw [hB,hTl]
 have hBu:∀ k,hUnder (h.length+5) (B k)=true:=fun k=>by rw [hB,hT,qal hu];simp [go_sem]
 refine awpI_loop (ι:=Nat×Nat×List (Option Nat)) (fun i=>i.1≤(qb8 p).length∧scan (fun e=>nonDet e.op) (preL ((qb8 p).drop i.1)) i.2.1=scan (fun e=>nonDet e.op) (preL (qb8 p)) 0)
  (fun i=>(dM i.2.2,⟨[(2,.ptr (h.length+1) 0),(3,.ptr (h.length+2) 0),(4,.ptr (h.length+3) 0),(5,.ptr (h.length+4) 0),(13,.slice ((qb8 p).map Ex.c)),(14,I (qb8 p).length),(15,I i.1)],B i.2.1++gM i.2.2⟩)) (fun i=>(qb8 p).length - i.1) (0,0,[]) ⟨by simp,by simp⟩ rfl ?_ ?_
 ·
  simp only [gM,List.map_nil,List.append_nil,hB,hT];exact wkA
 rintro ⟨n,k,ms⟩ ⟨hn,hI⟩;simp only at hn hI;have hw:=qa3 hn (by omega);refine qb9 _ _ _ _ ?_;simp -dsimp [go_sem,hN];refine cnd ?_ ?_<;>intro hc<;>simp at hc
 ·
  rw [qae hc,scan_preL] at hI;simp -dsimp [go_sem,hN,hc];refine qaj (c_nodes (qb8 p)[n] _) ?_;rintro r h' ⟨rfl,rfl⟩;simp -dsimp [go_sem,hN];have hBu':∀ k L m,hUnder (h.length+5+m) L=true→hUnder (h.length+5+m) (B k++L)=true:=fun k L m hL=>by
   rw [qan,qas (by omega) (hBu k),hL];rfl
  have hgu:=gM_und;obtain ⟨G,hG⟩:∃ G:qab,G=gM ms++[.cells (qb8 p)[n].x,.cells (qb8 p)[n].x]:=⟨_,rfl⟩
  have hGu:∀ m,hUnder m G=true:=fun m=>by
   rw [hG,qan,hgu];simp [go_sem]
  obtain ⟨X,hX⟩:∃ X:Nat→Ex→qab,X=fun (j:Nat) (x:Ex)=>T (I x.op) (I (IntKind.i64.wrap (j:Int))) (Bo true) (I (IntKind.i64.wrap (j:Int))):=⟨_,rfl⟩
  have hXl:∀ j x,(X j x).length=h.length+5:=fun j x=>by rw [hX,hTl]
  have hXu:∀ j x,hUnder (h.length+5) (X j x)=true:=fun j x=>by rw [hX,hT,qal hu];simp [go_sem]
  refine awpI_wk (e1:=⟨[(2,.ptr (h.length+1) 0),(3,.ptr (h.length+2) 0),(4,.ptr (h.length+3) 0),(5,.ptr (h.length+4) 0),(13,.slice ((qb8 p).map Ex.c)),(14,I (qb8 p).length),(15,I n),(20,.fn (.func 212) [] [.ptr (h.length+5+(gM ms).length+1) 0])],B k++G⟩) (Wk.mk (by simp [hh,hBl];omega) (by rw [hG];exact hwk.refl _) (by rw [List.length_append,hBl];exact hBu' _ _ _ (hGu _)) (by rw [hG];simp [go_sem,hBl,Nat.add_assoc];try omega)) ?_;have hGl:G.length=(gM ms).length+2:=by rw [hG];simp
  refine awpI_rangeY (gf:=212) (caps:=[.ptr (h.length+5+(gM ms).length+1) 0]) rfl (fun H=>rfl) (fun j=>B j++G) (fun j x=>X j x++G) (fun e=>nonDet e.op) (preE (qb8 p)[n]) k (h.length+5+G.length) rfl
   (fun j=>by rw [List.length_append,hBl]) (fun j x=>by rw [List.length_append,hXl]) (fun j=>hBu' _ _ _ (hGu _)) (fun j x=>by rw [qan,qas (by omega) (hXu j x),hGu];rfl) ?_ (by rw [hN];decide) ?_ ?_ ?_ ?_
  ·
   rw [hN,hGl];simp [slots,List.range,List.range.loop,go_sem];omega
  ·
   intro l L HX n1 Y;refine c_nodes1 Y (qb8 p)[n] k _ ?_;rw [List.append_assoc,List.getElem?_append_right (by rw [hBl];omega),hBl,hG,show h.length+5+(gM ms).length+1 - (h.length+5)=(gM ms).length+1 by omega,List.append_assoc,List.getElem?_append_right (by omega),show (gM ms).length+1 - (gM ms).length=1 by omega];rfl
  ·
   intro E' l D j x L r0 rb rd hr hN' hh' hu' hbd;rw [hN] at hN';have n0l:∀ a b d f (M:qab) (o o':AObj),(T a b d f++(G++o::o'::M))[h.length+5+G.length+1]?=some o':=fun a b d f M o o'=>by
    rw [← List.append_assoc,List.getElem?_append_right (by rw [List.length_append,hTl];omega),List.length_append,hTl,show h.length+5+G.length+1 - (h.length+5+G.length)=1 by omega];rfl
   have n0s:∀ a b d f (M:qab) (o o' y:AObj),(T a b d f++(G++o::o'::M)).set (h.length+5+G.length+1) y=T a b d f++(G++o::y::M):=fun a b d f M o o' y=>by
    rw [← List.append_assoc,List.set_append_right _ _ (by rw [List.length_append,hTl];omega),List.length_append,hTl,show h.length+5+G.length+1 - (h.length+5+G.length)=1 by omega,List.append_assoc];rfl
   have zl:∀ a b d f (o o' y:AObj),(T a b d f++(G++o::o'::(L++[y])))[h.length+5+(G.length+(L.length+1+1))]?=some y:=fun a b d f o o' y=>by
    rw [← List.append_assoc,List.getElem?_append_right (by rw [List.length_append,hTl];omega),List.length_append,hTl,show h.length+5+(G.length+(L.length+1+1)) - (h.length+5+G.length)=L.length+2 by omega];simp
   have zs:∀ a b d f (o o' y z:AObj),(T a b d f++(G++o::o'::(L++[y]))).set (h.length+5+(G.length+(L.length+1+1))) z=T a b d f++(G++o::o'::(L++[z])):=fun a b d f o o' y z=>by
    rw [← List.append_assoc,List.set_append_right _ _ (by rw [List.length_append,hTl];omega),List.length_append,hTl,show h.length+5+(G.length+(L.length+1+1)) - (h.length+5+G.length)=L.length+2 by omega,List.append_assoc];simp
   have hEl:E'.h.length=h.length+5+G.length+2+L.length:=by rw [hh'];simp [hBl];omega
   have hLu:hUnder (h.length+5+G.length+2+L.length) L=true:=by
    rw [hEl,hh',qan,Bool.and_eq_true] at hu';have:=hu'.2;simp only [hUnder,Bool.and_eq_true] at this;exact this.2.2
   have fin:∀ (a b:Int) (d:Bool) (f:Int) (r:AObj),r.under (h.length+5+G.length+2+L.length)=true→Wk E' ⟨[],T (I a) (I b) (Bo d) (I f)++(G++qdq D::r::(L++[.cells x.x]))⟩ ⟨[],T (I a) (I b) (Bo d) (I f)++(G++qdq D::r::L)⟩:=fun a b d f r hru=>by
    refine Wk.mk ?_ ?_ ?_ trivial
    · rw [hEl];simp [hTl];omega
    · exact hwk_app.2 (hwk_app.2 ⟨.refl _,.refl _,hwk.app0 _⟩)
    ·
     have e1:(T (I a) (I b) (Bo d) (I f)++(G++qdq D::r::L)).length=h.length+5+G.length+2+L.length:=by simp [hTl];omega
     show hUnder (T (I a) (I b) (Bo d) (I f)++(G++qdq D::r::L)).length _=true;rw [e1,qan,qas (by omega) (hTu a b d f),qan,hGu];have hm0:(qdq D).under (h.length+5+G.length+2+L.length)=true:=rfl;simp only [hUnder,hru,hLu,hm0,Bool.and_true]
   have hrm:=hr (h.length+5+G.length+2+L.length) (by omega);rw [hh',hN];simp only [hB,hX,List.append_assoc];refine qb9 _ _ _ _ ?_;simp -dsimp [slots,List.range,List.range.loop,go_sem,hN',hTl,zl,zs,n0l,n0s];refine qb9 _ _ _ _ ?_;simp -dsimp [go_sem,hN',hTl,zl];refine qaa (c_nondeterministic x.op) ?_;simp -dsimp [go_sem,hN',hTl,zl];refine cnd (fun hx=>?_) (fun hx=>?_)
   ·
    simp -dsimp [go_sem,hN',hTl,zl];refine awpI_drawG 4 mixed (by kernel_rfl) (by kernel_rfl) ?_;simp -dsimp [go_sem,hN',hTl,zl,g1,g2,g3,g4,s1,s2,s3];refine ⟨by simp [sepD,List.zipIdx];omega,?_⟩;refine ⟨n0l _ _ _ _ _ _ _,T (I x.op) (I (IntKind.i64.wrap (j:Int))) (Bo true) (I (IntKind.i64.wrap (j:Int)))++(G++qdq D::rd::L),?_,fun _=>⟨rfl,rfl⟩,fun hh=>by rw [hx] at hh;cases hh⟩;rw [n0s];exact fin _ _ _ _ _ hrm.2.2
   ·
    simp -dsimp [go_sem,hN',hTl,zl,g4,s4];rw [W64_succ];refine ⟨n0l _ _ _ _ _ _ _,T (I 0) (I 0) (Bo false) (I (IntKind.i64.wrap ((j:Int)+1)))++(G++qdq D::r0::L),?_,fun hh=>(by rw [hx] at hh;cases hh),fun _=>⟨rfl,by simp⟩⟩;rw [n0s];exact fin _ _ _ _ _ hrm.1
  ·
   intro j D o hs;rw [hs] at hI;simp only at hI;simp -dsimp [go_sem,hN,hw];refine ⟨n+1,j,⟨by omega,hI⟩,by omega,ms++[none,none,some D],(dM_snoc ms D).symm,Wk.mk (by simp [hh,hBl];omega) ?_ ?_ (by simp [go_sem,hBl];try omega)⟩
   ·
    rw [hG,gM_app,List.append_assoc];exact hwk_app.2 (hwk_app.2 ⟨trivial,trivial,.refl _,trivial⟩)
   · rw [List.length_append,hBl,qan,qas (by omega) (hBu j),gM_und];rfl
  ·
   intro j x D o hs;rw [hs] at hI;simp only at hI;simp -dsimp [go_sem,hN];refine ⟨(h.length+5+ms.length+2,D)::idxM (h.length+5) ms,by rw [List.map_cons,idxM_coll],?_,?_,?_⟩
   ·
    rw [List.map_cons,List.nodup_cons];refine ⟨fun hm=>?_,idxM_nodup _ _⟩;rw [List.mem_map] at hm;obtain ⟨q,hq,he⟩:=hm;have:=idxM_ge _ _ q hq;omega
   ·
    intro q hq;show (X j x++(G++[qdq D,o]))[q.1]?=_;rcases List.mem_cons.1 hq with rfl | hq
    ·
     rw [List.getElem?_append_right (by rw [hXl];simp only;omega),hXl,hG,List.append_assoc,List.getElem?_append_right (by simp [gM];omega)];simp only [gM,List.length_map];rw [show h.length+5+ms.length+2 - (h.length+5) - ms.length=2 by omega];rfl
    ·
     obtain ⟨q1,q2,q3⟩:=idxM_ge _ _ q hq;rw [List.getElem?_append_right (by rw [hXl];exact q1),hXl,hG,List.append_assoc,List.getElem?_append_left (by simp [gM];omega)];exact q3
   ·
    obtain ⟨Z',hZ⟩:=takeA ((h.length+5+ms.length+2,D)::idxM (h.length+5) ms) (X j x) (G++[qdq D,o]) (fun q hq=>by
     rw [hXl];rcases List.mem_cons.1 hq with rfl | hq
     · simp only;omega
     · exact (idxM_ge _ _ q hq).1)
    show RetOk _ _ _ _ ⟨_,takeAll ((h.length+5+ms.length+2,D)::idxM (h.length+5) ms) (X j x++(G++[qdq D,o]))⟩;rw [hZ,hX];have hf:=firstN_scan (preL (qb8 p)) 0;rw [← hI] at hf;simp only at hf;rw [show ((0:Nat):Int)=0 from rfl] at hf;rw [hf];simp -dsimp [go_sem,hN,g1,g2,g3];exact ⟨_,.refl _,h,rfl,by rw [hT,List.append_assoc];exact hwk.app0 _,by simp,hu,rfl,rfl⟩
 ·
  rw [List.drop_eq_nil_of_le (by omega),preL,scan] at hI;simp -dsimp [go_sem,hN,hB,g1,g2,g3,s1,s2,s3];refine ⟨idxM (h.length+5) ms,(idxM_coll _ _).symm,idxM_nodup _ _,?_,?_⟩
  ·
   intro q hq;obtain ⟨q1,q2,q3⟩:=idxM_ge _ _ q hq;show (T _ _ _ _++gM ms)[q.1]?=_;rw [List.getElem?_append_right (by rw [hTl];exact q1),hTl];exact q3
  ·
   obtain ⟨Z',hZ⟩:=takeA (idxM (h.length+5) ms) (T (I 0) (I 0) (Bo false) (I (IntKind.i64.wrap (k:Int)))) (gM ms) (fun q hq=>by
    rw [hTl];exact (idxM_ge _ _ q hq).1)
   show RetOk _ _ _ _ ⟨_,takeAll (idxM (h.length+5) ms) (T (I 0) (I 0) (Bo false) (I (IntKind.i64.wrap (k:Int)))++gM ms)⟩;rw [hZ];have hf:=firstN_scan (preL (qb8 p)) 0;rw [← hI] at hf;simp only at hf;rw [show ((0:Nat):Int)=0 from rfl] at hf;rw [hf];simp -dsimp [go_sem,hN,g1,g2,g3];exact ⟨_,.refl _,h,rfl,by rw [hT,List.append_assoc];exact hwk.app0 _,by simp,hu,rfl,rfl⟩
theorem c_determinism_Check (p:Proc):APure Tryz.prog 68 [.agg p.c] (I (detErr p)):=by
 refine qap Tryz.func68 Tryz.ntmps68 rfl (by kernel_rfl) rfl rfl fun E h hN hh hu hb=>?_;simp -dsimp [go_sem,hN];refine qaa (c_types_Check p) ?_;simp -dsimp [go_sem,hN];refine cnd ?_ ?_<;>intro h0<;>simp at h0
 ·
  simp -dsimp [go_sem,hN];rw [detErr,if_pos h0]
 simp -dsimp [go_sem,hN];refine qaj (c_First p _) ?_;rintro r h' ⟨rfl,rfl⟩;simp -dsimp [go_sem,hN];refine cnd (fun h1=>?_) (fun h1=>?_)
 ·
  simp -dsimp [go_sem,hN];rw [detErr,if_neg (by simpa using h0),if_pos h1]
 ·
  simp -dsimp [go_sem,hN];rw [detErr,if_neg (by simpa using h0),if_neg (by rw [h1];simp)]
end Go.Proofs.YtilhejdbiionhaaGreatDoor
