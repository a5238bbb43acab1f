/- Part 38 of a proof: W18, W28, W29 -/
import Derived.Shelf.Small.Strs
import Derived.Shelf.Strconv.Itoa4
import Derived.Lib.ItoaLen
import Derived.Test.YtilhejdbiionhaaGreatDoorR13
import Derived.Test.YtilhejdbiionhaaGreatDoorR14
import Derived.Test.YtilhejdbiionhaaGreatDoorR16
import Derived.Test.YtilhejdbiionhaaGreatDoorR17
import Derived.Test.YtilhejdbiionhaaGreatDoorR21
import Derived.Test.YtilhejdbiionhaaGreatDoorR22
import Derived.Test.YtilhejdbiionhaaGreatDoorR23
import Derived.Test.YtilhejdbiionhaaGreatDoorR27
import Derived.Test.YtilhejdbiionhaaGreatDoorR31
import Derived.Test.YtilhejdbiionhaaGreatDoorR32
import Derived.Test.YtilhejdbiionhaaGreatDoorR35
import Derived.Test.YtilhejdbiionhaaGreatDoorR37
set_option linter.all false

set_option maxRecDepth 4000
namespace Go.Proofs.YtilhejdbiionhaaGreatDoor
open Go Go.Abs Go.Cw
theorem c_visit{l:Nat}{HF:Nat→qab}{HX:Nat→Ex→qab}{stop:Ex→Bool}{n0:Nat}(Y:YH Tryz.prog l HF HX stop n0)(e:Ex)(k:Nat) :
  ACalls Tryz.prog 213 [.agg e.x,.fn (.yield l) [] []] (HF k) fun r h'=>r=.ret (Bo (scan stop (preE e) k).2.isNone)∧h'=finY HF HX (scan stop (preE e) k):=by
 refine acalls_introI Tryz.func213 rfl (by kernel_rfl) (by simp[Tryz.ntmps213]) ?_;intro E hN hh hu hb hb' hua;rw[Tryz.ntmps213]at hN;simp[go_sem]at hb;have y0:∀(k:Nat) (x:AObj) (L:qab),(HF k++x::L)[n0]?=some x:=fun k x L=>by
  rw[List.getElem?_append_right (by rw[Y.len];omega),Y.len,Nat.sub_self];rfl
 have y1:∀(k:Nat) (z:Ex) (x:AObj) (L:qab),(HX k z++x::L)[n0]?=some x:=fun k z x L=>by
  rw[List.getElem?_append_right (by rw[Y.lenX];omega),Y.lenX,Nat.sub_self];rfl
 refine awpI_seq (qcd _ _ _ _ ?_);simp-dsimp[go_sem,hN,Y.len,y0];refine awpI_seq (awpI_seq (awpI_opsY (by kernel_rfl) ?_));simp-dsimp[go_sem,hN,Y.len,y0];have hfin:∀(r:Nat×Option Ex),(finY HF HX r).length=n0:=fun r=>by
  unfold finY;split
  ·exact Y.len _
  ·exact Y.lenX _ _
 have hfu:∀(r:Nat×Option Ex),hUnder (finY HF HX r).length (finY HF HX r)=true:=fun r=>by
  rw[hfin];unfold finY;split
  ·exact Y.und _
  ·exact Y.undX _ _
 refine(Y.y k e _).mono ?_;rintro r h' ⟨hst,hsf⟩;rw[scan_pre];cases hs:stop e with
 |true =>
  obtain⟨rfl,rfl⟩:=hst hs;simp-dsimp[go_sem,hN];refine awpI_of_awp (qay _ _ _ ?_);simp-dsimp[go_sem,hN];refine⟨[],rfl,List.nodup_nil,by simp,?_⟩;simp-dsimp[go_sem,hN,takeAll];exact⟨_,.refl _,HX k e,rfl,by simp,by simp[Y.len,Y.lenX],by rw[Y.lenX];exact Y.undX _ _,by simp,by simp[finY]⟩
 |false =>
  obtain⟨rfl,rfl⟩:=hsf hs;simp-dsimp[go_sem,hN];refine awpI_of_awp (qay _ _ _ ?_);simp-dsimp[go_sem,hN];refine awpI_of_awp (qay _ _ _ ?_);simp-dsimp[go_sem,hN,Y.len,y0];refine qap (α:=Nat) e.args.length (fun n m=>scan stop (preL (e.args.drop n)) m=scan stop (preL e.args) (k+1)) (fun n m=>⟨[(1,.fn (.yield l) [] []),(12,.slice (e.args.map Ex.c)),(13,I e.args.length),(14,I n)],HF m⟩) (k+1) (by simp) (Wk.mk (by simp[hh,Y.len]) (by simp[go_sem]) (by rw[Y.len];exact Y.und _) (by simp[go_sem])) ?_;intro n m hn hI;have hw:=qa2 hn hb.2.1;simp-dsimp[go_sem,hN];refine cnd ?_ ?_<;>intro hc<;>simp at hc
  ·rw[qaf hc,scan_preL]at hI;have hlt:SizeOf.sizeOf e.args[n]<SizeOf.sizeOf e:=Ex.arg_lt (List.getElem_mem hc);simp-dsimp[go_sem,hN,hc,Y.len,y0];refine qaj (c_visit (Y.ext [.cells e.args[n].x] (by simp[go_sem])) e.args[n] m) ?_;rintro r h' ⟨rfl,rfl⟩;rcases hq:scan stop (preE e.args[n]) m with⟨m',_|y⟩
   ·rw[hq]at hI;simp-dsimp[go_sem,hN,hw,finY];exact⟨hc,_,hI,Wk.mk (by simp[hh,Y.len]) (by simp[go_sem]) (by rw[Y.len];exact Y.und _) (by simp[go_sem])⟩
   ·rw[hq]at hI;simp only at hI;simp-dsimp[go_sem,hN,finY];refine⟨[],rfl,List.nodup_nil,by simp,?_⟩;rw[←hI];simp-dsimp[go_sem,hN,takeAll,finY];exact⟨_,.refl _,HX m' y,rfl,by simp,by simp[Y.len,Y.lenX],by rw[Y.lenX];exact Y.undX _ _,rfl,rfl⟩
  ·rw[List.drop_eq_nil_of_le (by omega),preL,scan]at hI;simp-dsimp[go_sem,hN];refine⟨[],rfl,List.nodup_nil,by simp,?_⟩;rw[←hI];simp-dsimp[go_sem,hN,takeAll,finY];exact⟨_,.refl _,HF m,rfl,by simp,by simp[Y.len],by rw[Y.len];exact Y.und _,rfl,rfl⟩
termination_by SizeOf.sizeOf e
theorem c_nodes1{l:Nat}{HF:Nat→qab}{HX:Nat→Ex→qab}{stop:Ex→Bool}{n0:Nat}(Y:YH Tryz.prog l HF HX stop n0)(e:Ex)(k i:Nat)(hi:(HF k)[i]?=some (.cells e.x)) :
  ACalls Tryz.prog 212 [.fn (.yield l) [] [],.ptr i 0] (HF k) fun r h'=>r=.ret (.tuple [])∧h'=finY HF HX (scan stop (preE e) k):=by
 refine qaz Tryz.func212 Tryz.ntmps212 rfl (by kernel_rfl) rfl fun E hN hh hu hb hb' hua=>?_;simp-dsimp[go_sem,hN,hi];refine qaj (c_visit Y e k) ?_;rintro r h' ⟨rfl,rfl⟩;simp-dsimp[go_sem,hN];refine⟨_,.refl _,finY HF HX (scan stop (preE e) k),rfl,hwk.refl _,?_,?_,rfl,rfl⟩
 ·unfold finY;split<;>simp[Y.len,Y.lenX]
 ·unfold finY;split
  ·rw[Y.len];exact Y.und _
  ·rw[Y.lenX];exact Y.undX _ _
theorem nilF:liftK Value.nilFunc=.val .nilFunc:=rfl
theorem c_nodes(e:Ex)(h:qab):ACalls Tryz.prog 168 [.agg e.x] h fun r h'=>r=.ret (.fn (.func 212) [] [.ptr h.length 0])∧h'=h++[.cells e.x]:=by
 refine qaz Tryz.func168 Tryz.ntmps168 rfl (by kernel_rfl) rfl fun E hN hh hu hb hb' hua=>?_;simp-dsimp[go_sem,hN,nilF];exact⟨_,.refl _,_,by simp[AV.under,qao],hwk.refl _,by simp,by rw[List.length_append,qan hu];simp[go_sem],rfl,rfl⟩
theorem c_First(p:Proc)(h:qab):ACalls Tryz.prog 112 [.agg p.c] h fun r h'=>r=.ret (.tuple [I (firstP p).1,I (IntKind.i64.wrap (firstP p).2.1),Bo (firstP p).2.2])∧h'=h:=by
 refine acalls_introI Tryz.func112 rfl (by kernel_rfl) (by simp[Tryz.ntmps112]) ?_;intro E hN hh hu hb hb' hua;rw[Tryz.ntmps112]at hN;simp[go_sem]at hb;refine qcd _ _ _ _ ?_;simp-dsimp[go_sem,hN];refine qaa (c_ast_Validate p) ?_;simp-dsimp[go_sem,hN];refine cnd ?_ ?_<;>intro h0<;>simp at h0
 ·simp-dsimp[go_sem,hN];refine⟨[],rfl,List.nodup_nil,by simp,?_⟩;simp-dsimp[go_sem,hN,takeAll];rw[firstP,if_pos h0];exact⟨_,.refl _,h,by simp[go_sem],by simp[go_sem],by simp,by simp[hu,go_sem],rfl,rfl⟩
 rw[firstP,if_neg (by simpa using h0)];have hxl:(qcc p).length≤401:=by
  have:=blkW_K keepS exprR List.length (fun s _ _=>by simp[keepS]) (fun s _=>by simp[exprR]) p.body 1 (401,[]);simp only[List.length_nil]at this;unfold qcc;omega
 simp-dsimp[go_sem,hN];refine qaa (c_ast_Exprs p) ?_;simp-dsimp[go_sem,hN];obtain⟨T,hT⟩:∃T:AV→AV→AV→AV→qab,T=fun a b d f=>h++[.cells p.c,.cells [a],.cells [b],.cells [d],.cells [f]]:=⟨_,rfl⟩
 have hTl:∀a b d f,(T a b d f).length=h.length+5:=fun a b d f=>by rw[hT];simp
 have g1:∀a b d f (Z:qab),(T a b d f++Z)[h.length+1]?=some (.cells [a]):=fun a b d f Z=>by rw[hT];simp
 have g2:∀a b d f (Z:qab),(T a b d f++Z)[h.length+2]?=some (.cells [b]):=fun a b d f Z=>by rw[hT];simp
 have g3:∀a b d f (Z:qab),(T a b d f++Z)[h.length+3]?=some (.cells [d]):=fun a b d f Z=>by rw[hT];simp
 have g4:∀a b d f (Z:qab),(T a b d f++Z)[h.length+4]?=some (.cells [f]):=fun a b d f Z=>by rw[hT];simp
 have s1:∀a b d f a' (Z:qab),(T a b d f++Z).set (h.length+1) (.cells [a'])=T a' b d f++Z:=fun a b d f a' Z=>by rw[hT];simp
 have s2:∀a b d f a' (Z:qab),(T a b d f++Z).set (h.length+2) (.cells [a'])=T a a' d f++Z:=fun a b d f a' Z=>by rw[hT];simp
 have s3:∀a b d f a' (Z:qab),(T a b d f++Z).set (h.length+3) (.cells [a'])=T a b a' f++Z:=fun a b d f a' Z=>by rw[hT];simp
 have s4:∀a b d f a' (Z:qab),(T a b d f++Z).set (h.length+4) (.cells [a'])=T a b d a'++Z:=fun a b d f a' Z=>by rw[hT];simp
 have hTu:∀(a b:Int) (d:Bool) (f:Int),hUnder (h.length+5) (T (I a) (I b) (Bo d) (I f))=true:=fun a b d f=>by rw[hT,qan hu];simp[go_sem]
 obtain⟨B,hB⟩:∃B:Nat→qab,B=fun (k:Nat)=>T (I 0) (I 0) (Bo false) (I (IntKind.i64.wrap (k:Int))):=⟨_,rfl⟩
 have hBl:∀k,(B k).length=h.length+5:=fun k=>by rw[hB,hTl]
 have hBu:∀k,hUnder (h.length+5) (B k)=true:=fun k=>by rw[hB,hT,qan hu];simp[go_sem]
 refine awpI_loop (ι:=Nat×Nat×List (Option Nat)) (fun i=>i.1≤(qcc p).length∧scan (fun e=>nonDet e.op) (preL ((qcc p).drop i.1)) i.2.1=scan (fun e=>nonDet e.op) (preL (qcc p)) 0)
  (fun i=>(dM i.2.2,⟨[(2,.ptr (h.length+1) 0),(3,.ptr (h.length+2) 0),(4,.ptr (h.length+3) 0),(5,.ptr (h.length+4) 0),(13,.slice ((qcc p).map Ex.c)),(14,I (qcc p).length),(15,I i.1)],B i.2.1++gM i.2.2⟩)) (fun i=>(qcc p).length - i.1) (0,0,[]) ⟨by simp,by simp⟩ rfl ?_ ?_
 ·simp only[gM,List.map_nil,List.append_nil,hB,hT];exact wkA
 rintro⟨n,k,ms⟩ ⟨hn,hI⟩;simp only at hn hI;have hw:=qa2 hn (by omega);refine qcd _ _ _ _ ?_;simp-dsimp[go_sem,hN];refine cnd ?_ ?_<;>intro hc<;>simp at hc
 ·rw[qaf hc,scan_preL]at hI;simp-dsimp[go_sem,hN,hc];refine qaj (c_nodes (qcc p)[n] _) ?_;rintro r h' ⟨rfl,rfl⟩;simp-dsimp[go_sem,hN];have hBu':∀k L m,hUnder (h.length+5+m) L=true→hUnder (h.length+5+m) (B k++L)=true:=fun k L m hL=>by
   rw[qar,qau (by omega) (hBu k),hL];rfl
  have hgu:=gM_und;obtain⟨G,hG⟩:∃G:qab,G=gM ms++[.cells (qcc p)[n].x,.cells (qcc p)[n].x]:=⟨_,rfl⟩
  have hGu:∀m,hUnder m G=true:=fun m=>by
   rw[hG,qar,hgu];simp[go_sem]
  obtain⟨X,hX⟩:∃X:Nat→Ex→qab,X=fun (j:Nat) (x:Ex)=>T (I x.op) (I (IntKind.i64.wrap (j:Int))) (Bo true) (I (IntKind.i64.wrap (j:Int))):=⟨_,rfl⟩
  have hXl:∀j x,(X j x).length=h.length+5:=fun j x=>by rw[hX,hTl]
  have hXu:∀j x,hUnder (h.length+5) (X j x)=true:=fun j x=>by rw[hX,hT,qan hu];simp[go_sem]
  refine awpI_wk (e1:=⟨[(2,.ptr (h.length+1) 0),(3,.ptr (h.length+2) 0),(4,.ptr (h.length+3) 0),(5,.ptr (h.length+4) 0),(13,.slice ((qcc p).map Ex.c)),(14,I (qcc p).length),(15,I n),(20,.fn (.func 212) [] [.ptr (h.length+5+(gM ms).length+1) 0])],B k++G⟩) (Wk.mk (by simp[hh,hBl];omega) (by rw[hG];exact hwk.refl _) (by rw[List.length_append,hBl];exact hBu' _ _ _ (hGu _)) (by rw[hG];simp[go_sem,hBl,Nat.add_assoc];try omega)) ?_;have hGl:G.length=(gM ms).length+2:=by rw[hG];simp
  refine awpI_rangeY (gf:=212) (caps:=[.ptr (h.length+5+(gM ms).length+1) 0]) rfl (fun H=>rfl) (fun j=>B j++G) (fun j x=>X j x++G) (fun e=>nonDet e.op) (preE (qcc p)[n]) k (h.length+5+G.length) rfl
   (fun j=>by rw[List.length_append,hBl]) (fun j x=>by rw[List.length_append,hXl]) (fun j=>hBu' _ _ _ (hGu _)) (fun j x=>by rw[qar,qau (by omega) (hXu j x),hGu];rfl) ?_ (by rw[hN];decide) ?_ ?_ ?_ ?_
  ·rw[hN,hGl];simp[slots,List.range,List.range.loop,go_sem];omega
  ·intro l L HX n1 Y;refine c_nodes1 Y (qcc p)[n] k _ ?_;rw[List.append_assoc,List.getElem?_append_right (by rw[hBl];omega),hBl,hG,show h.length+5+(gM ms).length+1 - (h.length+5)=(gM ms).length+1 by omega,List.append_assoc,List.getElem?_append_right (by omega),show(gM ms).length+1 - (gM ms).length=1 by omega];rfl
  ·intro E' l D j x L r0 rb rd hr hN' hh' hu' hbd;rw[hN]at hN';have n0l:∀a b d f (M:qab) (o o':AObj),(T a b d f++(G++o::o'::M))[h.length+5+G.length+1]?=some o':=fun a b d f M o o'=>by
    rw[←List.append_assoc,List.getElem?_append_right (by rw[List.length_append,hTl];omega),List.length_append,hTl,show h.length+5+G.length+1 - (h.length+5+G.length)=1 by omega];rfl
   have n0s:∀a b d f (M:qab) (o o' y:AObj),(T a b d f++(G++o::o'::M)).set (h.length+5+G.length+1) y=T a b d f++(G++o::y::M):=fun a b d f M o o' y=>by
    rw[←List.append_assoc,List.set_append_right _ _ (by rw[List.length_append,hTl];omega),List.length_append,hTl,show h.length+5+G.length+1 - (h.length+5+G.length)=1 by omega,List.append_assoc];rfl
   have zl:∀a b d f (o o' y:AObj),(T a b d f++(G++o::o'::(L++[y])))[h.length+5+(G.length+(L.length+1+1))]?=some y:=fun a b d f o o' y=>by
    rw[←List.append_assoc,List.getElem?_append_right (by rw[List.length_append,hTl];omega),List.length_append,hTl,show h.length+5+(G.length+(L.length+1+1)) - (h.length+5+G.length)=L.length+2 by omega];simp
   have zs:∀a b d f (o o' y z:AObj),(T a b d f++(G++o::o'::(L++[y]))).set (h.length+5+(G.length+(L.length+1+1))) z=T a b d f++(G++o::o'::(L++[z])):=fun a b d f o o' y z=>by
    rw[←List.append_assoc,List.set_append_right _ _ (by rw[List.length_append,hTl];omega),List.length_append,hTl,show h.length+5+(G.length+(L.length+1+1)) - (h.length+5+G.length)=L.length+2 by omega,List.append_assoc];simp
   have hEl:E'.h.length=h.length+5+G.length+2+L.length:=by rw[hh'];simp[hBl];omega
   have hLu:hUnder (h.length+5+G.length+2+L.length) L=true:=by
    rw[hEl,hh',qar,Bool.and_eq_true]at hu';have:=hu'.2;simp only[hUnder,Bool.and_eq_true]at this;exact this.2.2
   have fin:∀(a b:Int) (d:Bool) (f:Int) (r:AObj),r.under (h.length+5+G.length+2+L.length)=true→Wk E' ⟨[],T (I a) (I b) (Bo d) (I f)++(G++qd0 D::r::(L++[.cells x.x]))⟩ ⟨[],T (I a) (I b) (Bo d) (I f)++(G++qd0 D::r::L)⟩:=fun a b d f r hru=>by
    refine Wk.mk ?_ ?_ ?_ trivial
    ·rw[hEl];simp[hTl];omega
    ·exact hwk_app.2 (hwk_app.2 ⟨.refl _,.refl _,hwk.app0 _⟩)
    ·have e1:(T (I a) (I b) (Bo d) (I f)++(G++qd0 D::r::L)).length=h.length+5+G.length+2+L.length:=by simp[hTl];omega
     show hUnder (T (I a) (I b) (Bo d) (I f)++(G++qd0 D::r::L)).length _=true;rw[e1,qar,qau (by omega) (hTu a b d f),qar,hGu];have hm0:(qd0 D).under (h.length+5+G.length+2+L.length)=true:=rfl;simp only[hUnder,hru,hLu,hm0,Bool.and_true]
   have hrm:=hr (h.length+5+G.length+2+L.length) (by omega);rw[hh',hN];simp only[hB,hX,List.append_assoc];refine qcd _ _ _ _ ?_;simp-dsimp[slots,List.range,List.range.loop,go_sem,hN',hTl,zl,zs,n0l,n0s];refine qcd _ _ _ _ ?_;simp-dsimp[go_sem,hN',hTl,zl];refine qaa (c_nondeterministic x.op) ?_;simp-dsimp[go_sem,hN',hTl,zl];refine cnd (fun hx=>?_) (fun hx=>?_)
   ·simp-dsimp[go_sem,hN',hTl,zl];refine awpI_drawG 4 mixed (by kernel_rfl) (by kernel_rfl) ?_;simp-dsimp[go_sem,hN',hTl,zl,g1,g2,g3,g4,s1,s2,s3];refine⟨by simp[sepD,List.zipIdx];omega,?_⟩;refine⟨n0l _ _ _ _ _ _ _,T (I x.op) (I (IntKind.i64.wrap (j:Int))) (Bo true) (I (IntKind.i64.wrap (j:Int)))++(G++qd0 D::rd::L),?_,fun _=>⟨rfl,rfl⟩,fun hh=>by rw[hx]at hh;cases hh⟩;rw[n0s];exact fin _ _ _ _ _ hrm.2.2
   ·simp-dsimp[go_sem,hN',hTl,zl,g4,s4];rw[W64_succ];refine⟨n0l _ _ _ _ _ _ _,T (I 0) (I 0) (Bo false) (I (IntKind.i64.wrap ((j:Int)+1)))++(G++qd0 D::r0::L),?_,fun hh=>(by rw[hx]at hh;cases hh),fun _=>⟨rfl,by simp⟩⟩;rw[n0s];exact fin _ _ _ _ _ hrm.1
  ·intro j D o hs;rw[hs]at hI;simp only at hI;simp-dsimp[go_sem,hN,hw];refine⟨n+1,j,⟨by omega,hI⟩,by omega,ms++[none,none,some D],(dM_snoc ms D).symm,Wk.mk (by simp[hh,hBl];omega) ?_ ?_ (by simp[go_sem,hBl];try omega)⟩
   ·rw[hG,gM_app,List.append_assoc];exact hwk_app.2 (hwk_app.2 ⟨trivial,trivial,.refl _,trivial⟩)
   ·rw[List.length_append,hBl,qar,qau (by omega) (hBu j),gM_und];rfl
  ·intro j x D o hs;rw[hs]at hI;simp only at hI;simp-dsimp[go_sem,hN];refine⟨(h.length+5+ms.length+2,D)::idxM (h.length+5) ms,by rw[List.map_cons,idxM_coll],?_,?_,?_⟩
   ·rw[List.map_cons,List.nodup_cons];refine⟨fun hm=>?_,idxM_nodup _ _⟩;rw[List.mem_map]at hm;obtain⟨q,hq,he⟩:=hm;have:=idxM_ge _ _ q hq;omega
   ·intro q hq;show(X j x++(G++[qd0 D,o]))[q.1]?=_;rcases List.mem_cons.1 hq with rfl|hq
    ·rw[List.getElem?_append_right (by rw[hXl];simp only;omega),hXl,hG,List.append_assoc,List.getElem?_append_right (by simp[gM];omega)];simp only[gM,List.length_map];rw[show h.length+5+ms.length+2 - (h.length+5) - ms.length=2 by omega];rfl
    ·obtain⟨q1,q2,q3⟩:=idxM_ge _ _ q hq;rw[List.getElem?_append_right (by rw[hXl];exact q1),hXl,hG,List.append_assoc,List.getElem?_append_left (by simp[gM];omega)];exact q3
   ·obtain⟨Z',hZ⟩:=takeA ((h.length+5+ms.length+2,D)::idxM (h.length+5) ms) (X j x) (G++[qd0 D,o]) (fun q hq=>by
     rw[hXl];rcases List.mem_cons.1 hq with rfl|hq
     ·simp only;omega
     ·exact(idxM_ge _ _ q hq).1)
    show RetOk _ _ _ _ ⟨_,takeAll ((h.length+5+ms.length+2,D)::idxM (h.length+5) ms) (X j x++(G++[qd0 D,o]))⟩;rw[hZ,hX];have hf:=firstN_scan (preL (qcc p)) 0;rw[←hI]at hf;simp only at hf;rw[show((0:Nat):Int)=0 from rfl]at hf;rw[hf];simp-dsimp[go_sem,hN,g1,g2,g3];exact⟨_,.refl _,h,rfl,by rw[hT,List.append_assoc];exact hwk.app0 _,by simp,hu,rfl,rfl⟩
 ·rw[List.drop_eq_nil_of_le (by omega),preL,scan]at hI;simp-dsimp[go_sem,hN,hB,g1,g2,g3,s1,s2,s3];refine⟨idxM (h.length+5) ms,(idxM_coll _ _).symm,idxM_nodup _ _,?_,?_⟩
  ·intro q hq;obtain⟨q1,q2,q3⟩:=idxM_ge _ _ q hq;show(T _ _ _ _++gM ms)[q.1]?=_;rw[List.getElem?_append_right (by rw[hTl];exact q1),hTl];exact q3
  ·obtain⟨Z',hZ⟩:=takeA (idxM (h.length+5) ms) (T (I 0) (I 0) (Bo false) (I (IntKind.i64.wrap (k:Int)))) (gM ms) (fun q hq=>by
    rw[hTl];exact(idxM_ge _ _ q hq).1)
   show RetOk _ _ _ _ ⟨_,takeAll (idxM (h.length+5) ms) (T (I 0) (I 0) (Bo false) (I (IntKind.i64.wrap (k:Int)))++gM ms)⟩;rw[hZ];have hf:=firstN_scan (preL (qcc p)) 0;rw[←hI]at hf;simp only at hf;rw[show((0:Nat):Int)=0 from rfl]at hf;rw[hf];simp-dsimp[go_sem,hN,g1,g2,g3];exact⟨_,.refl _,h,rfl,by rw[hT,List.append_assoc];exact hwk.app0 _,by simp,hu,rfl,rfl⟩
theorem c_determinism_Check(p:Proc):APure Tryz.prog 68 [.agg p.c] (I (detErr p)):=by
 refine qak Tryz.func68 Tryz.ntmps68 rfl (by kernel_rfl) rfl rfl fun E h hN hh hu hb=>?_;simp-dsimp[go_sem,hN];refine qaa (c_types_Check p) ?_;simp-dsimp[go_sem,hN];refine cnd ?_ ?_<;>intro h0<;>simp at h0
 ·simp-dsimp[go_sem,hN];rw[detErr,if_pos h0]
 simp-dsimp[go_sem,hN];refine qaj (c_First p _) ?_;rintro r h' ⟨rfl,rfl⟩;simp-dsimp[go_sem,hN];refine cnd (fun h1=>?_) (fun h1=>?_)
 ·simp-dsimp[go_sem,hN];rw[detErr,if_neg (by simpa using h0),if_pos h1]
 ·simp-dsimp[go_sem,hN];rw[detErr,if_neg (by simpa using h0),if_neg (by rw[h1];simp)]
end Go.Proofs.YtilhejdbiionhaaGreatDoor

set_option maxRecDepth 4000
set_option maxHeartbeats 1000000
namespace Go.Proofs.YtilhejdbiionhaaGreatDoor
open Go Go.Abs Go.Cw
attribute [local go_sem] Cnt.c
theorem c_cost_Check(p:Proc):APure Tryz.prog 37 [.agg p.c] (I (qbv p)):=by
 refine qak Tryz.func37 Tryz.ntmps37 rfl (by kernel_rfl) rfl rfl fun E h hN hh hu hb=>?_;rw[qbv];simp-dsimp[go_sem,hN];refine qaa (c_determinism_Check p) ?_;simp-dsimp[go_sem,hN];refine cnd ?_ ?_<;>intro h0<;>simp at h0
 ·simp-dsimp[go_sem,hN];exact fun k=>absurd k h0
 rw[if_neg (by simpa using h0)];simp-dsimp[go_sem,hN];refine qaa (c_cost_block p.body) ?_;simp-dsimp[go_sem,hN];refine cnd ?_ ?_<;>intro h1<;>simp at h1
 ·simp-dsimp[go_sem,hN];exact fun k=>absurd k (by omega)
 rw[if_neg (by omega)];simp-dsimp[go_sem,hN];refine cnd ?_ ?_<;>intro h2<;>simp at h2
 ·simp-dsimp[go_sem,hN];refine cnd (fun _=>?_) (fun k=>by simp at k;omega);simp-dsimp[go_sem,hN];exact fun _=>(by omega)
 simp-dsimp[go_sem,hN];refine cnd ?_ ?_<;>intro h3<;>simp at h3
 ·simp-dsimp[go_sem,hN];refine cnd (fun _=>?_) (fun k=>by simp at k;omega);simp-dsimp[go_sem,hN];exact fun _=>(by omega)
 simp-dsimp[go_sem,hN];refine cnd ?_ ?_<;>intro h4<;>simp at h4
 ·simp-dsimp[go_sem,hN];exact fun _=>(by omega)
 simp-dsimp[go_sem,hN];omega
end Go.Proofs.YtilhejdbiionhaaGreatDoor

set_option maxRecDepth 4000
set_option maxHeartbeats 1000000
namespace Go.Proofs.YtilhejdbiionhaaGreatDoor
open Go Go.Abs Go.Cw
attribute [local go_sem] mC
variable {C:Cfg} {v o io ir ip:Nat}
theorem c_machine_finish_stop{h:qab}{m:Nat}(q:MQ)(hm:h[m]?=some (.cells (mC C v o io ir ip q)))(hir:h[ir]?=some (.arr 9 1 (q.reads.map qa1)))(hip:h[ip]?=some (.arr 9 1 (q.puts.map qa1)))
  (hr:q.nr=q.reads.length) (hp:q.np=q.puts.length) (z:Stop) :
  ACalls Tryz.prog 42 [.ptr m 0,.agg [I z.status,I z.code,.slice [],S z.miss],Bo true] h fun r h'=>r=.ret (.agg [I z.status,I z.code,.slice [],.slice (q.reads.map qa1),.slice (q.puts.map qa1),.slice [],S z.miss,I q.steps])∧h'=h:=by
 refine qaz Tryz.func42 Tryz.ntmps42 rfl (by kernel_rfl) rfl fun E hN hh hu hb hb' hua=>?_;have lm:m<h.length:=(List.getElem?_eq_some_iff.1 hm).1;have lr:ir<h.length:=(List.getElem?_eq_some_iff.1 hir).1;have lp:ip<h.length:=(List.getElem?_eq_some_iff.1 hip).1;have gm:∀l:qab,(h++l)[m]?=some (.cells (mC C v o io ir ip q)):=fun l=>by rw[List.getElem?_append_left lm];exact hm
 have gr:∀l:qab,(h++l)[ir]?=some (.arr 9 1 (q.reads.map qa1)):=fun l=>by rw[List.getElem?_append_left lr];exact hir
 have gp:∀l:qab,(h++l)[ip]?=some (.arr 9 1 (q.puts.map qa1)):=fun l=>by rw[List.getElem?_append_left lp];exact hip
 simp-dsimp[go_sem,hN,gm];refine qa4 6 mixed (by kernel_rfl) ?_;simp-dsimp[go_sem,hN];refine⟨by simp[sepD,List.zipIdx],?_⟩
 try simp-dsimp[go_sem,hN]
 refine⟨_,.refl _,h,by simp[go_sem,gr,gp,hr,hp],hwk.app0 _,Nat.le_refl _,hu,?_,rfl⟩;simp[gr,gp,hr,hp]
@[simp] theorem getD_vAV(o:Option V):(Option.map vAV o).getD (.agg [I 0,I 0,S ⟨#[]⟩])=.agg (o.getD V.nil).c:=by cases o<;>rfl
def wrP(own:List (qac×V))(k:qac):Pr:=⟨k,(qbg own k).getD V.nil⟩
theorem c_machine_finish_ok{h:qab}{m:Nat}(q:MQ)(hm:h[m]?=some (.cells (mC C v o io ir ip q)))(hio:h[io]?=some (.arr 54 3 (q.out.map V.c)))(hir:h[ir]?=some (.arr 9 1 (q.reads.map qa1)))(hip:h[ip]?=some (.arr 9 1 (q.puts.map qa1)))
  (ho:h[o]?=some (.map (kAV vAV q.own))) (hn:q.no=q.out.length) (hr:q.nr=q.reads.length) (hp:q.np=q.puts.length) (hl:q.puts.length+1≤68719476736) :
  ACalls Tryz.prog 42 [.ptr m 0,.agg [I 0,I 0,.slice [],S em],Bo false] h fun r h'=>r=.ret (.agg [I 1,I 0,.slice (q.out.map V.c),.slice (q.reads.map qa1),.slice (q.puts.map qa1),.slice ((q.puts.map (wrP q.own)).map Pr.c),S em,I q.steps])∧h'=h:=by
 obtain⟨qv,qo,qout,qr,qp,qno,qnr,qnp,qs⟩:=q;simp only at hn hr hp hl;subst hn;subst hr;subst hp;simp only at hio hir hip ho;refine qaz Tryz.func42 Tryz.ntmps42 rfl (by kernel_rfl) rfl fun E hN hh hu hb hb' hua=>?_;have lm:m<h.length:=(List.getElem?_eq_some_iff.1 hm).1;have lo:o<h.length:=(List.getElem?_eq_some_iff.1 ho).1;have lio:io<h.length:=(List.getElem?_eq_some_iff.1 hio).1;have lr:ir<h.length:=(List.getElem?_eq_some_iff.1 hir).1;have lp:ip<h.length:=(List.getElem?_eq_some_iff.1 hip).1;have gm:∀l:qab,(h++l)[m]?=some (.cells (mC C v o io ir ip ⟨qv,qo,qout,qr,qp,qout.length,qr.length,qp.length,qs⟩)):=fun l=>by rw[List.getElem?_append_left lm];exact hm
 have go:∀l:qab,(h++l)[o]?=some (.map (kAV vAV qo)):=fun l=>by rw[List.getElem?_append_left lo];exact ho
 have gi:∀l:qab,(h++l)[io]?=some (.arr 54 3 (qout.map V.c)):=fun l=>by rw[List.getElem?_append_left lio];exact hio
 have gr:∀l:qab,(h++l)[ir]?=some (.arr 9 1 (qr.map qa1)):=fun l=>by rw[List.getElem?_append_left lr];exact hir
 have gp:∀l:qab,(h++l)[ip]?=some (.arr 9 1 (qp.map qa1)):=fun l=>by rw[List.getElem?_append_left lp];exact hip
 simp-dsimp[go_sem,hN,gm,gp];refine qam qp.length (fun n=>True) (fun n=>⟨[(0,.ptr m 0),(6,.ptr (h.length+1) 0),(7,.ptr (h.length+2) 0),(25,.slice (qp.map qa1)),(26,I qp.length),(27,I n)],h++[.cells [I 0,I 0,.slice [],S em],.cells [I 0,I 0,.nils,.nils,.nils,.nils,S em,I 0],.cells [I 1,I 0,.own io qout.length,.own ir qr.length,.own ip qp.length,.own (h.length+3) n,S em,I qs],.arr 56 4 (((qp.take n).map (wrP qo)).map Pr.c)]⟩) trivial ((nilc_wk E _ (p:=h.length+2) (j:=5) (t:=56) (sz:=4) (xs:=[I 1,I 0,.own io qout.length,.own ir qr.length,.own ip qp.length,.nils,S em,I qs]) (by simp) rfl).trans ?_) ?_
 ·simp;exact(norm_wk E _).trans (Wk.mk (by simp[hh]) (by simp[go_sem]) (by simp[hu,qan hu,go_sem];omega) (by simp[go_sem,gp];omega))
 intro n hn' _;have hw:=qa2 hn' (by omega);simp-dsimp[go_sem,hN];refine cnd ?_ ?_<;>intro hc<;>simp at hc
 ·simp-dsimp[go_sem,hN,hc];refine qai 11 mixed (by kernel_rfl) (by kernel_rfl) ?_;simp-dsimp[go_sem,hN,gm,go,hw];refine⟨by omega,by omega,hc,?_⟩;rw[show(qp.map (Pr.c∘wrP qo)).take (n+1)=(qp.map (Pr.c∘wrP qo)).take n++[Pr.c (wrP qo qp[n])]by rw[List.take_succ_eq_append_getElem (by simpa using hc)];simp];exact Wk.mk (by simp[hh]) (by simp[go_sem,wrP]) (by simp[hu,qan hu,go_sem];omega) (by simp[go_sem];omega)
 ·simp-dsimp[go_sem,hN];have hnq:n=qp.length:=by omega
  subst hnq;rw[List.take_of_length_le (by simp)];refine⟨_,.refl _,h,by simp[go_sem,gi,gr,gp],hwk.app0 _,Nat.le_refl _,hu,?_,rfl⟩;simp[gi,gr,gp]
end Go.Proofs.YtilhejdbiionhaaGreatDoor
