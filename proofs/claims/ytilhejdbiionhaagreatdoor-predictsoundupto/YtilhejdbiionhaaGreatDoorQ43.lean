/- Part 43 of a proof: W141, W40, W44, W45, W32, W33, W34, W46, W46b, W46c, W46d, W46e, W41, W42, W42b, W43, W48, W66c, W75a, W142 -/
import Derived.Shelf.Small.Strs
import Derived.Shelf.Strconv.Itoa4
import Derived.Lib.ItoaLen
import Derived.Test.YtilhejdbiionhaaGreatDoorQ13
import Derived.Test.YtilhejdbiionhaaGreatDoorQ14
import Derived.Test.YtilhejdbiionhaaGreatDoorQ16
import Derived.Test.YtilhejdbiionhaaGreatDoorQ17
import Derived.Test.YtilhejdbiionhaaGreatDoorQ20
import Derived.Test.YtilhejdbiionhaaGreatDoorQ21
import Derived.Test.YtilhejdbiionhaaGreatDoorQ22
import Derived.Test.YtilhejdbiionhaaGreatDoorQ23
import Derived.Test.YtilhejdbiionhaaGreatDoorQ25
import Derived.Test.YtilhejdbiionhaaGreatDoorQ26
import Derived.Test.YtilhejdbiionhaaGreatDoorQ27
import Derived.Test.YtilhejdbiionhaaGreatDoorQ29
import Derived.Test.YtilhejdbiionhaaGreatDoorQ30
import Derived.Test.YtilhejdbiionhaaGreatDoorQ32
import Derived.Test.YtilhejdbiionhaaGreatDoorQ33
import Derived.Test.YtilhejdbiionhaaGreatDoorQ35
import Derived.Test.YtilhejdbiionhaaGreatDoorQ36
import Derived.Test.YtilhejdbiionhaaGreatDoorQ40
import Derived.Test.YtilhejdbiionhaaGreatDoorQ42
set_option linter.all false

set_option maxRecDepth 4000
set_option maxHeartbeats 4000000
namespace Go.Proofs.YtilhejdbiionhaaGreatDoor
open Go Go.Abs Go.Cw
variable {tT:TypeId} {tx:Nat×Nat} {g:Nat}
def initL:List Param→List V→List (qab×AX)→List (qab×AX)
 | p::ps,v::vs,l=>initL ps vs (qbk l p.name (kn v))
 | _,_,l=>l
theorem initL_nod:∀ (ps:List Param) (vs:List V) (l:List (qab×AX)),(keysM l).Nodup→(keysM (initL ps vs l)).Nodup
 | [],_,l,h=>by simpa [initL] using h
 | _::_,[],l,h=>by simpa [initL] using h
 | p::ps,v::vs,l,h=>by rw [initL];exact initL_nod ps vs _ (keysM_set h _ _)
theorem initL_get:∀ (ps:List Param) (vs:List V) (l:List (qab×AX)) (f:MV),(∀ k,qa7 l k=f k)→∀ k,qa7 (initL ps vs l) k=initF ps vs f k
 | [],_,l,f,h,k=>by simpa [initL,initF] using h k
 | _::_,[],l,f,h,k=>by simpa [initL,initF] using h k
 | p::ps,v::vs,l,f,h,k=>by
  rw [initL,initF];exact initL_get ps vs _ _ (fun k=>by rw [qbl,h];rfl) k
theorem initF_rng:∀ (ps:List Param) (vs:List V) (f:MV),(∀ v∈vs,qdx v)→rngF f→rngF (initF ps vs f)
 | [],_,f,_,h=>by simpa [initF] using h
 | _::_,[],f,_,h=>by simpa [initF] using h
 | p::ps,v::vs,f,hv,h=>by
  rw [initF];exact initF_rng ps vs _ (fun w hw=>hv w (by simp [hw])) (h.upd (hv v (by simp)))
theorem c_pr_Static (p:Proc) (args:List V) (h:qaa) (hg:h[g]?=some (tabO tT tx)) (hI:RunIn qa8 p args []) :
  ACalls Tryz.prog 13 [.agg p.c,.slice (args.map V.c)] h fun r h'=>r=.ret (.tuple [.agg (statS qa8 p args).1.c,I (statS qa8 p args).2])∧h'=h:=by
 refine qav Tryz.func13 Tryz.ntmps13 rfl (by kernel_rfl) rfl fun E hN hh hu hb hb' hua=>?_;have hgl:g<h.length:=(List.getElem?_eq_some_iff.1 hg).1;simp [go_sem] at hb;obtain ⟨R,hR⟩:∃ R,statS qa8 p args=R:=⟨_,rfl⟩
 rw [hR];unfold statS at hR;simp -dsimp [go_sem,hN];refine qac (c_predict_fits p args) ?_;simp -dsimp [go_sem,hN];refine cnd ?_ ?_<;>intro h0<;>simp at h0
 ·
  rw [if_pos (by grind)] at hR;subst hR;simp -dsimp [go_sem,hN,Foot.c];exact ⟨_,.refl _,h,by simp [go_sem],hwk.app0 _,Nat.le_refl _,hu,rfl,rfl⟩
 rw [if_neg (by grind)] at hR;simp -dsimp [go_sem,hN];obtain ⟨hlen,hax⟩:=argsErr_ok h0.2;obtain ⟨L0,hL0⟩:∃ L0,initL p.params args []=L0:=⟨_,rfl⟩
 refine qa0 (α:=List (qab×AX)) args.length (fun n l=>initL (p.params.drop n) (args.drop n) l=L0) (fun n l=>⟨[(2,.ptr h.length 0),(4,.ptr (h.length+1) 0),(6,.ptr (h.length+4) 0),(7,.mapr (h.length+5)),(20,.slice (args.map V.c)),(21,I args.length),(22,I n)],h++[.cells p.c,.cells [Bo false,.nils,.nils],.map [],.map [],.cells [.mapr (h.length+2),.mapr (h.length+3),Bo false],.map (kAV qcv l)]⟩) [] (by simpa using hL0) (Wk.mk (by simp [hh]) (by simp [Proc.c,kAV,qby,hwk.refl]) (by simp [hu,qam hu,go_sem,Proc.c,kAV,qby]) (by simp [go_sem])) ?_;rintro n l hn hI1;have hw:=qbn hn hb.2.1;simp -dsimp [go_sem,hN];refine cnd ?_ ?_<;>intro hc<;>simp at hc
 ·
  have hc2:n<p.params.length:=by omega
  rw [qaj hc,qaj hc2,initL] at hI1;simp -dsimp [go_sem,hN,hc];refine qak 9 mixed (by kernel_rfl) (by kernel_rfl) ?_;simp -dsimp [go_sem,hN,hc,hc2,Proc.c,V.c,Param.c];have hkv:AObj.map (kAV qcv (qbk l p.params[n].name ⟨true,⟨args[n].k,args[n].n,args[n].s⟩⟩))=.map (kAV qcv (qbk l p.params[n].name (kn args[n]))):=rfl;simp only [hkv];simp -dsimp [go_sem,hN,hw];exact ⟨_,hI1,Wk.mk (by simp [hh]) (by simp [Proc.c,hwk_app,go_sem]) (by
   dsimp only;rw [List.length_append,qam hu];simp only [hUnder,qdd];simp [AObj.under,AV.under,qal,Proc.c]) (by simp [go_sem])⟩
 rw [List.drop_eq_nil_of_le (by omega:args.length≤n)] at hI1;have hl:l=L0:=by
  rw [← hI1];cases p.params.drop n<;>simp [initL]
 subst hl;obtain ⟨K,hK⟩:∃ K:XS→qaa,K=fun x=>h++[.cells p.c,.cells [Bo false,.nils,.nils],setO x.r,setO x.w,.cells (xC (h.length+2) (h.length+3) x.f),.map (kAV qcv l)]:=⟨_,rfl⟩
 have Y:PHs tT tx g (h.length+4) (h.length+2) (h.length+3) K (h.length+6):=by
  rw [hK];refine ⟨fun x=>by simp,by omega,by omega,by omega,by omega,fun x=>?_,fun x=>by simp,fun x=>by simp,fun x=>by simp,fun x b=>by simp,fun x l=>by simp,fun x l=>by simp,fun x=>?_⟩
  ·
   show (h++_)[g]?=_;rw [List.getElem?_append_left hgl,hg]
  ·
   have hb1:∀ (n:Nat) (m:List qab),(setO m).under n=true:=fun n m=>kAV_und (fun n a=>by simp [boAV,go_sem]) n (tru m);show hUnder (h.length+6) (h++_)=true;rw [qam hu];simp only [hUnder,hb1,qdd];simp [AObj.under,AV.under,qal,Proc.c]
 have hVM:VM K (h.length+5) (initF p.params args fun _=>none) l:=⟨fun x=>by rw [hK];simp,by rw [← hL0];exact initL_nod _ _ _ (by simp [keysM]),fun k=>by rw [← hL0];exact initL_get _ _ _ _ (fun k=>rfl) k⟩
 have hFr:rngF (initF p.params args fun _=>none):=initF_rng _ _ _ hI.args fun k a h=>by cases h
 have hcall:=c_pr_blk p.body 1 (cost_okL h0.1) hI.body Y ⟨[],[],false⟩ hVM (by omega) hFr;obtain ⟨⟨o,x⟩,hx⟩:∃ R,qdu qa8 p.body (initF p.params args fun _=>none) ⟨[],[],false⟩=R:=⟨_,rfl⟩
 have hko:KO x:=by
  have:=exP_ko (fmt:=qa8) (p:=p) (args:=args);rw [exP,hx] at this;exact this
 rw [hx] at hcall hR;dsimp only at hR;have hK0:h++[.cells [S p.name,.slice (p.params.map Param.c),.slice (p.body.map St.c)],.cells [Bo false,.nils,.nils],.map [],.map [],.cells [.mapr (h.length+2),.mapr (h.length+3),Bo false],.map (kAV qcv l)]=K ⟨[],[],false⟩:=by rw [hK];rfl
 have hlr:(kAV boAV (tru x.r)).length=x.r.length:=by simp [kAV,qby]
 have hlw:(kAV boAV (tru x.w)).length=x.w.length:=by simp [kAV,qby]
 have hKx:∀ M,K x++M=h++(.cells [S p.name,.slice (p.params.map Param.c),.slice (p.body.map St.c)]::.cells [Bo false,.nils,.nils]::.map (kAV boAV (tru x.r))::.map (kAV boAV (tru x.w))::.cells [.mapr (h.length+2),.mapr (h.length+3),Bo x.f]::.map (kAV qcv l)::M):=fun M=>by rw [hK];simp [Proc.c]
 simp -dsimp [go_sem,hN,Proc.c];simp only [hK0];refine qag hcall ?_;rintro r h' ⟨L,rfl,huL,h3⟩;dsimp only;simp only [hKx];rcases h3 with ⟨ho,m,rfl,rfl⟩ | ⟨f',j',lv',ho,rfl,hj',hV',hfr'⟩
 ·
  simp -dsimp [go_sem,hN];refine cnd (fun h1=>?_) (fun h1=>?_)
  ·
   rw [if_pos h1] at hR;subst hR;simp -dsimp [go_sem,hN,Foot.c];exact ⟨_,.refl _,h,by simp [go_sem],hwk.app0 _,Nat.le_refl _,hu,rfl,rfl⟩
  rw [if_neg (by simp [h1])] at hR;simp -dsimp [go_sem,hN,hlr,hlw]
  repeat refine ⟨by grind,?_⟩
  refine cnd ?_ ?_<;>intro h2<;>simp at h2
  ·
   rw [if_pos (by omega)] at hR;subst hR;simp -dsimp [go_sem,hN,Foot.c];exact ⟨_,.refl _,h,by simp [go_sem],hwk.app0 _,Nat.le_refl _,hu,rfl,rfl⟩
  rw [if_neg (by omega)] at hR;subst hR;simp -dsimp [go_sem,hN];refine qak 9 mixed (by kernel_rfl) (by kernel_rfl) ?_;simp -dsimp [go_sem,hN];refine tdcall_at (r:=.slice ((qcz x.r).map qaz)) (fun _ h' hs=>c_pr_sorted x.r hko.rn (by omega) h' (h.length+2) (hs _ _ rfl (by simp))) (by simp) ?_;simp -dsimp [go_sem,hN];refine qag (c_pr_sorted x.w hko.wn (by omega) _ (h.length+3) (by simp)) ?_;rintro r h' ⟨rfl,rfl⟩;simp -dsimp [go_sem,hN,Foot.c];exact ⟨_,.refl _,h,by simp [go_sem],hwk.app0 _,Nat.le_refl _,hu,rfl,rfl⟩
 ·
  simp -dsimp [go_sem,hN];refine cnd (fun h1=>?_) (fun h1=>?_)
  ·
   rw [if_pos h1] at hR;subst hR;simp -dsimp [go_sem,hN,Foot.c];exact ⟨_,.refl _,h,by simp [go_sem],hwk.app0 _,Nat.le_refl _,hu,rfl,rfl⟩
  rw [if_neg (by simp [h1])] at hR;simp -dsimp [go_sem,hN,hlr,hlw]
  repeat refine ⟨by grind,?_⟩
  refine cnd ?_ ?_<;>intro h2<;>simp at h2
  ·
   rw [if_pos (by omega)] at hR;subst hR;simp -dsimp [go_sem,hN,Foot.c];exact ⟨_,.refl _,h,by simp [go_sem],hwk.app0 _,Nat.le_refl _,hu,rfl,rfl⟩
  rw [if_neg (by omega)] at hR;subst hR;simp -dsimp [go_sem,hN];refine qak 9 mixed (by kernel_rfl) (by kernel_rfl) ?_;simp -dsimp [go_sem,hN];refine tdcall_at (r:=.slice ((qcz x.r).map qaz)) (fun _ h' hs=>c_pr_sorted x.r hko.rn (by omega) h' (h.length+2) (hs _ _ rfl (by simp))) (by simp) ?_;simp -dsimp [go_sem,hN];refine qag (c_pr_sorted x.w hko.wn (by omega) _ (h.length+3) (by simp)) ?_;rintro r h' ⟨rfl,rfl⟩;simp -dsimp [go_sem,hN,Foot.c];exact ⟨_,.refl _,h,by simp [go_sem],hwk.app0 _,Nat.le_refl _,hu,rfl,rfl⟩
end Go.Proofs.YtilhejdbiionhaaGreatDoor

set_option maxRecDepth 4000
set_option maxHeartbeats 1000000
namespace Go.Proofs.YtilhejdbiionhaaGreatDoor
open Go Go.Abs Go.Cw
end Go.Proofs.YtilhejdbiionhaaGreatDoor

set_option maxRecDepth 4000
set_option maxHeartbeats 2000000
namespace Go.Proofs.YtilhejdbiionhaaGreatDoor
open Go Go.Abs Go.Cw
end Go.Proofs.YtilhejdbiionhaaGreatDoor

set_option maxRecDepth 4000
set_option maxHeartbeats 2000000
namespace Go.Proofs.YtilhejdbiionhaaGreatDoor
open Go Go.Abs Go.Cw
section
attribute [local go_sem] RM.c
variable (C:Cfg)
end
end Go.Proofs.YtilhejdbiionhaaGreatDoor

set_option maxRecDepth 8000
set_option maxHeartbeats 2000000
namespace Go.Proofs.YtilhejdbiionhaaGreatDoor
open Go Go.Abs Go.Cw
variable {tT:TypeId} {tx:Nat×Nat} {g:Nat}
end Go.Proofs.YtilhejdbiionhaaGreatDoor

set_option maxRecDepth 8000
set_option maxHeartbeats 2000000
namespace Go.Proofs.YtilhejdbiionhaaGreatDoor
open Go Go.Abs Go.Cw
variable {tT:TypeId} {tx:Nat×Nat} {g:Nat}
def runC (p:Proc) (args:List V) (ft:Foot):List AV:=[S p.name,.slice (p.params.map Param.c),.slice (p.body.map St.c),.slice (args.map V.c),Bo ft.all,.slice (ft.reads.map qaz),.slice (ft.writes.map qaz)]
attribute [local go_sem] runC
end Go.Proofs.YtilhejdbiionhaaGreatDoor

set_option maxRecDepth 8000
set_option maxHeartbeats 2000000
namespace Go.Proofs.YtilhejdbiionhaaGreatDoor
open Go Go.Abs Go.Cw
variable {tT:TypeId} {tx:Nat×Nat} {g:Nat}
attribute [local go_sem] runC
end Go.Proofs.YtilhejdbiionhaaGreatDoor

set_option maxRecDepth 4000
set_option maxHeartbeats 4000000
namespace Go.Proofs.YtilhejdbiionhaaGreatDoor
open Go Go.Abs Go.Cw
section
attribute [local go_sem] RM.c
variable (C:Cfg)
end
end Go.Proofs.YtilhejdbiionhaaGreatDoor

set_option maxRecDepth 4000
set_option maxHeartbeats 4000000
namespace Go.Proofs.YtilhejdbiionhaaGreatDoor
open Go Go.Abs Go.Cw
section
attribute [local go_sem] RM.c
variable (C:Cfg) (hC:rngC C) (hf:∀ n,i64 n→qbe (C.fmt n)=true) (hF:∀ n,i64 n→APure Tryz.prog 287 [I n] (S (C.fmt n)))
include hC hf hF
end
end Go.Proofs.YtilhejdbiionhaaGreatDoor

set_option maxRecDepth 4000
set_option maxHeartbeats 400000
namespace Go.Proofs.YtilhejdbiionhaaGreatDoor
open Go Go.Abs Go.Cw
section
attribute [local go_sem] RM.c
variable (C:Cfg) (hC:rngC C) (hf:∀ n,i64 n→qbe (C.fmt n)=true) (hF:∀ n,i64 n→APure Tryz.prog 287 [I n] (S (C.fmt n)))
include hC hf hF
end
end Go.Proofs.YtilhejdbiionhaaGreatDoor

set_option maxRecDepth 4000
set_option maxHeartbeats 4000000
namespace Go.Proofs.YtilhejdbiionhaaGreatDoor
open Go Go.Abs Go.Cw
section
attribute [local go_sem] RM.c
variable (C:Cfg) (hC:rngC C) (hf:∀ n,i64 n→qbe (C.fmt n)=true) (hF:∀ n,i64 n→APure Tryz.prog 287 [I n] (S (C.fmt n)))
include hC hf hF
end
end Go.Proofs.YtilhejdbiionhaaGreatDoor

set_option maxRecDepth 4000
set_option maxHeartbeats 4000000
namespace Go.Proofs.YtilhejdbiionhaaGreatDoor
open Go Go.Abs Go.Cw
section
attribute [local go_sem] RM.c
variable (C:Cfg) (hC:rngC C) (hf:∀ n,i64 n→qbe (C.fmt n)=true) (hF:∀ n,i64 n→APure Tryz.prog 287 [I n] (S (C.fmt n)))
include hC hf hF
end
end Go.Proofs.YtilhejdbiionhaaGreatDoor

set_option maxRecDepth 4000
set_option maxHeartbeats 2000000
namespace Go.Proofs.YtilhejdbiionhaaGreatDoor
open Go Go.Abs Go.Cw
section
theorem exz1:Ex.z.op=0:=rfl
theorem exz2:Ex.z.n=0:=rfl
theorem exz3:Ex.z.s=em:=rfl
theorem exz4:Ex.z.args=[]:=rfl
theorem stz1:St.z.op=0:=rfl
theorem stz2:St.z.name=em:=rfl
theorem stz3:St.z.max=0:=rfl
theorem stz4:St.z.a=Ex.z:=rfl
theorem stz5:St.z.b=Ex.z:=rfl
theorem stz6:St.z.body=[]:=rfl
theorem stz7:St.z.els=[]:=rfl
attribute [local go_sem] Vt.c Vt.ofS Vt.ofE exz1 exz2 exz3 exz4 stz1 stz2 stz3 stz4 stz5 stz6 stz7
end
section
attribute [local go_sem] Vt.c
end
end Go.Proofs.YtilhejdbiionhaaGreatDoor

set_option maxRecDepth 4000
set_option maxHeartbeats 2000000
namespace Go.Proofs.YtilhejdbiionhaaGreatDoor
open Go Go.Abs Go.Cw
def pRow (q:qab×Int):List AV:=[S q.1,I q.2]
section
attribute [local go_sem] pRow
end
end Go.Proofs.YtilhejdbiionhaaGreatDoor

set_option maxRecDepth 4000
set_option maxHeartbeats 4000000
namespace Go.Proofs.YtilhejdbiionhaaGreatDoor
open Go Go.Abs Go.Cw
section
attribute [local go_sem] pRow
end
end Go.Proofs.YtilhejdbiionhaaGreatDoor

set_option maxRecDepth 4000
set_option maxHeartbeats 2000000
namespace Go.Proofs.YtilhejdbiionhaaGreatDoor
open Go Go.Abs Go.Cw
section
attribute [local go_sem] Cnt.c
end
end Go.Proofs.YtilhejdbiionhaaGreatDoor

set_option maxRecDepth 4000
set_option maxHeartbeats 4000000
namespace Go.Proofs.YtilhejdbiionhaaGreatDoor
open Go Go.Abs Go.Cw
section
attribute [local go_sem] RM.c
variable {tT:TypeId} {tx:Nat×Nat} {g:Nat}
end
end Go.Proofs.YtilhejdbiionhaaGreatDoor

set_option maxRecDepth 4000
set_option maxHeartbeats 2000000
namespace Go.Proofs.YtilhejdbiionhaaGreatDoor
open Go Go.Abs Go.Cw
theorem c_ref04_Same (l l':List qab):APure Tryz.prog 34 [.slice (l.map qaz),.slice (l'.map qaz)] (Bo (qc0 eqB l l')):=by
 refine qay Tryz.func34 Tryz.ntmps34 rfl (by kernel_rfl) rfl rfl fun E h hN hh hu hb=>?_;simp [go_sem] at hb;simp -dsimp [go_sem,hN];refine cnd ?_ ?_<;>intro h0<;>simp at h0
 ·
  simp -dsimp [go_sem,hN];exact sameL_len (by omega)
 simp -dsimp [go_sem,hN];refine qat l.length (fun n=>qc0 eqB (l.drop n) (l'.drop n)=qc0 eqB l l') (fun n=>⟨[(0,.slice (l.map qaz)),(1,.slice (l'.map qaz)),(5,I n)],h⟩) (by simp) wkA ?_;intro n hn hI;have hw:=qbn hn hb.1.1;simp -dsimp [go_sem,hN];refine cnd ?_ ?_<;>intro hc<;>simp at hc
 ·
  have hc':n<l'.length:=by omega
  rw [qaj hc,qaj hc',qc0] at hI;simp -dsimp [go_sem,hN,hc,hc'];refine qak 8 mixed (by kernel_rfl) (by kernel_rfl) ?_;simp -dsimp [go_sem,hN,hc,hc'];refine cnd ?_ ?_<;>intro hg<;>simp at hg
  ·
   simp -dsimp [go_sem,hN];rw [← hI];simp [eqB,eqVal];grind
  ·
   simp -dsimp [go_sem,hN,hw];refine ⟨hc,?_,wkA⟩;rw [← hI];simp [eqB,eqVal,hg]
 ·
  rw [List.drop_eq_nil_of_le (by omega),List.drop_eq_nil_of_le (by omega),qc0] at hI;simp -dsimp [go_sem,hN,← hI]
theorem c_ref19_Same (a b:Foot):APure Tryz.prog 12 [.agg a.c,.agg b.c] (Bo (decide (a.all=b.all)&&qc0 eqB a.reads b.reads&&qc0 eqB a.writes b.writes)):=by
 refine qay Tryz.func12 Tryz.ntmps12 rfl (by kernel_rfl) rfl rfl fun E h hN hh hu hb=>?_;simp -dsimp [go_sem,hN,Foot.c];refine qah (c_ref04_Same a.reads b.reads) (by simp) ?_;simp -dsimp [go_sem,hN];refine qah (c_ref04_Same a.writes b.writes) (by simp) ?_;simp -dsimp [go_sem,hN]
end Go.Proofs.YtilhejdbiionhaaGreatDoor

set_option maxRecDepth 4000
set_option maxHeartbeats 2000000
namespace Go.Proofs.YtilhejdbiionhaaGreatDoor
open Go Go.Abs Go.Cw
theorem c_ref08_countExpr (e:Ex) (d:Int) (h:qaa):ACalls Tryz.prog 94 [.agg e.x,I d] h fun r h'=>(∃ n:Int,r=.ret (I n))∧h'=h:=by
 refine qav Tryz.func94 Tryz.ntmps94 rfl (by kernel_rfl) rfl fun E hN hh hu hb hb' hua=>?_;simp [go_sem] at hb;simp -dsimp [go_sem,hN];refine qa0 (α:=Int) e.args.length (fun n v=>True) (fun n v=>⟨[(1,I d),(2,.ptr h.length 0),(5,I v),(6,I n)],h++[.cells e.x]⟩) (IntKind.i64.wrap (1+IntKind.i64.wrap ((e.s.size:Int) / 64))) trivial ?_ ?_
 · exact wkA
 rintro n v hn -;have hw:=qbn hn (show _≤68719476736 by omega);by_cases hc:n<e.args.length
 ·
  have hlt:SizeOf.sizeOf e.args[n]<SizeOf.sizeOf e:=Ex.arg_lt (List.getElem_mem hc);simp -dsimp [go_sem,hN,hc];refine cnd ?_ ?_<;>intro hd<;>simp at hd
  ·
   simp -dsimp [go_sem,hN,hc];refine qag (c_ref08_countExpr e.args[n] _ _) ?_;rintro r h' ⟨⟨k,rfl⟩,rfl⟩;simp -dsimp [go_sem,hN,hw];exact ⟨hc,IntKind.i64.wrap (v+k),wkA⟩
  ·
   simp -dsimp [go_sem,hN];exact ⟨_,.refl _,h,by simp [go_sem],by simp [go_sem],by simp,hu,⟨_,rfl⟩,rfl⟩
 ·
  simp -dsimp [go_sem,hN,hc];exact ⟨_,.refl _,h,by simp [go_sem],by simp [go_sem],by simp,hu,⟨_,rfl⟩,rfl⟩
termination_by SizeOf.sizeOf e
theorem St.body_sz (s:St):SizeOf.sizeOf s.body<SizeOf.sizeOf s:=by
 cases s;simp [St.body];omega
theorem St.els_sz (s:St):SizeOf.sizeOf s.els<SizeOf.sizeOf s:=by
 cases s;simp [St.els];omega
theorem c_ref08_countBody (l:List St) (d:Int) (h:qaa):ACalls Tryz.prog 61 [.slice (l.map St.c),I d] h fun r h'=>(∃ n:Int,r=.ret (I n))∧h'=h:=by
 refine qav Tryz.func61 Tryz.ntmps61 rfl (by kernel_rfl) rfl fun E hN hh hu hb hb' hua=>?_;simp [go_sem] at hb;simp -dsimp [go_sem,hN];refine qa0 (α:=Int) l.length (fun n v=>True) (fun n v=>⟨[(0,.slice (l.map St.c)),(1,I d),(5,I v),(6,I n)],h⟩) 0 trivial ?_ ?_
 · exact Wk.mk (by simp [hh]) (by simp [go_sem]) (by simp [hu,qam hu,go_sem]) (by simpa [go_sem] using hua)
 rintro n v hn -;have hw:=qbn hn (show _≤68719476736 by omega);by_cases hc:n<l.length
 ·
  have hlt:SizeOf.sizeOf l[n]<SizeOf.sizeOf l:=List.sizeOf_lt_of_mem (List.getElem_mem hc);have hlb:=St.body_sz l[n];have hle:=St.els_sz l[n];have e1:=fun d H=>c_ref08_countExpr l[n].a d H;have e2:=fun d H=>c_ref08_countExpr l[n].b d H;have e3:=fun d H=>c_ref08_countBody l[n].body d H;have e4:=fun d H=>c_ref08_countBody l[n].els d H;simp -dsimp [go_sem,hN,hc];refine cnd ?_ ?_<;>intro hd<;>simp at hd
  ·
   simp -dsimp [go_sem,hN,hc];refine qag (e1 _ _) ?_;rintro r h' ⟨⟨k1,rfl⟩,rfl⟩;simp -dsimp [go_sem,hN,hc];refine qag (e2 _ _) ?_;rintro r h' ⟨⟨k2,rfl⟩,rfl⟩;simp -dsimp [go_sem,hN,hc];refine qag (e3 _ _) ?_;rintro r h' ⟨⟨k3,rfl⟩,rfl⟩;simp -dsimp [go_sem,hN,hc];refine qag (e4 _ _) ?_;rintro r h' ⟨⟨k4,rfl⟩,rfl⟩;simp -dsimp [go_sem,hN,hc,hw];exact ⟨IntKind.i64.wrap (IntKind.i64.wrap (IntKind.i64.wrap (IntKind.i64.wrap (IntKind.i64.wrap (IntKind.i64.wrap (v+1)+IntKind.i64.wrap ((l[n].name.size:Int) / 64))+k1)+k2)+k3)+k4),Wk.mk (by simp [hh]) (by simp [go_sem]) (by simp [hu,qam hu,go_sem]) (by simpa [go_sem] using hua)⟩
  ·
   simp -dsimp [go_sem,hN];exact ⟨_,.refl _,h,by simp [go_sem],by simp [go_sem],by simp,hu,⟨_,rfl⟩,rfl⟩
 ·
  simp -dsimp [go_sem,hN,hc];exact ⟨_,.refl _,h,by simp [go_sem],by simp [go_sem],by simp,hu,⟨_,rfl⟩,rfl⟩
termination_by SizeOf.sizeOf l
decreasing_by all_goals omega
theorem c_ref08_Small (p:Proc) (d:Int) (h:qaa):ACalls Tryz.prog 25 [.agg p.c,I d] h fun r h'=>(∃ b:Bool,r=.ret (Bo b))∧h'=h:=by
 refine qav Tryz.func25 Tryz.ntmps25 rfl (by kernel_rfl) rfl fun E hN hh hu hb hb' hua=>?_;simp [go_sem,Proc.c] at hb;simp -dsimp [go_sem,hN,Proc.c];by_cases h1:(40:Int)<(p.params.length:Int)
 ·
  simp -dsimp [go_sem,hN,h1];exact ⟨_,.refl _,h,by simp [go_sem],by simp [go_sem],by simp,hu,.inl rfl,rfl⟩
 by_cases h2:(200:Int)<(p.name.size:Int)
 ·
  simp -dsimp [go_sem,hN,h1,h2];exact ⟨_,.refl _,h,by simp [go_sem],by simp [go_sem],by simp,hu,.inl rfl,rfl⟩
 simp -dsimp [go_sem,hN,h1,h2];refine qat p.params.length (fun n=>True) (fun n=>⟨[(1,I d),(2,P0 h.length),(5,I n)],h++[.cells p.c]⟩) trivial ?_ ?_
 · exact Wk.mk (by simp [hh]) (by simp [go_sem,Proc.c]) (by simp [hu,qam hu,go_sem]) (by simp [go_sem])
 intro n hn _;have hw:=qbn hn (show _≤68719476736 by omega);simp -dsimp [go_sem,hN,Proc.c];refine cnd ?_ ?_<;>intro hc<;>simp at hc
 ·
  by_cases h3:(200:Int)<(p.params[n].name.size:Int)
  ·
   simp -dsimp [go_sem,hN,hc,h3,Param.c];exact ⟨_,.refl _,h,by simp [go_sem],by simp [go_sem],by simp,hu,.inl rfl,rfl⟩
  ·
   simp -dsimp [go_sem,hN,hc,h3,hw,Param.c];exact Wk.mk (by simp [hh]) (by simp [go_sem,Proc.c]) (by simp [hu,qam hu,go_sem]) (by simp [go_sem])
 ·
  simp -dsimp [go_sem,hN,Proc.c];refine qag (c_ref08_countBody p.body d _) ?_;rintro r h' ⟨⟨k,rfl⟩,rfl⟩;simp -dsimp [go_sem,hN];exact ⟨_,.refl _,h,by simp [go_sem],by simp [go_sem],by simp,hu,by by_cases hk:k≤d<;>simp [hk],rfl⟩
end Go.Proofs.YtilhejdbiionhaaGreatDoor

set_option maxRecDepth 8000
set_option maxHeartbeats 4000000
namespace Go.Proofs.YtilhejdbiionhaaGreatDoor
open Go Go.Abs Go.Cw
variable {tT:TypeId} {tx:Nat×Nat} {g:Nat}
def planS (fmt:Int→qab) (p:Proc) (args:List V) (st:List Pr):Foot :=
 if (statS fmt p args).2=0 then (statS fmt p args).1 else if (reconS fmt p args st).2=0 then (reconS fmt p args st).1 else ⟨true,[],[]⟩
theorem runIn_nil {fmt:Int→qab} {p:Proc} {args:List V} {st:List Pr} (h:RunIn fmt p args st):RunIn fmt p args []:=⟨h.fmt,h.body,h.args,by simp⟩
theorem c_pr_Plan (p:Proc) (args:List V) (st:List Pr) (h:qaa) (hg:h[g]?=some (tabO tT tx)) (hI:RunIn qa8 p args st) :
  ACalls Tryz.prog 29 [.agg p.c,.slice (args.map V.c),.slice (st.map Pr.c)] h fun r h'=>r=.ret (.agg (planS qa8 p args st).c)∧h'=h:=by
 refine qav Tryz.func29 Tryz.ntmps29 rfl (by kernel_rfl) rfl fun E hN hh hu hb hb' hua=>?_;have hgl:g<h.length:=(List.getElem?_eq_some_iff.1 hg).1;have hg':∀ l:qaa,(h++l)[g]?=some (tabO tT tx):=fun l=>by rw [List.getElem?_append_left hgl];exact hg
 have hs:=fun H hH=>c_pr_Static (g:=g) (tT:=tT) (tx:=tx) p args H hH (runIn_nil hI);have hr:=fun H hH=>qc6 (g:=g) (tT:=tT) (tx:=tx) p args st H hH hI;obtain ⟨R,hR⟩:∃ R,planS qa8 p args st=R:=⟨_,rfl⟩
 rw [hR];unfold planS at hR;obtain ⟨⟨f1,e1⟩,h1⟩:∃ R,statS qa8 p args=R:=⟨_,rfl⟩
 obtain ⟨⟨f2,e2⟩,h2⟩:∃ R,reconS qa8 p args st=R:=⟨_,rfl⟩
 rw [h1] at hs hR;rw [h2] at hr hR;dsimp only at hs hr hR;simp -dsimp [go_sem,hN];refine qag (hs _ (hg' _)) ?_;rintro r h' ⟨rfl,rfl⟩;simp -dsimp [go_sem,hN,Foot.c];refine cnd ?_ ?_<;>intro h3<;>simp at h3
 ·
  rw [if_pos h3] at hR;subst hR;simp -dsimp [go_sem,hN,Foot.c];exact ⟨_,.refl _,h,by simp [go_sem],hwk.app0 _,Nat.le_refl _,hu,rfl,rfl⟩
 rw [if_neg h3] at hR;simp -dsimp [go_sem,hN,Foot.c];refine qag (hr _ (hg' _)) ?_;rintro r h' ⟨rfl,rfl⟩;simp -dsimp [go_sem,hN,Foot.c];refine cnd ?_ ?_<;>intro h4<;>simp at h4
 ·
  rw [if_pos h4] at hR;subst hR;simp -dsimp [go_sem,hN,Foot.c];exact ⟨_,.refl _,h,by simp [go_sem],hwk.app0 _,Nat.le_refl _,hu,rfl,rfl⟩
 rw [if_neg h4] at hR;subst hR;simp -dsimp [go_sem,hN,Foot.c];exact ⟨_,.refl _,h,by simp [go_sem],hwk.app0 _,Nat.le_refl _,hu,rfl,rfl⟩
def ba:qab:=⟨#[97]⟩
def bb:qab:=⟨#[98]⟩
def bc:qab:=⟨#[99]⟩
def by':qab:=⟨#[121]⟩
def bz:qab:=⟨#[122]⟩
def exNo:Ex:=.mk 0 0 em []
def exVar (s:qab):Ex:=.mk 3 0 s []
def exTxt (s:qab):Ex:=.mk 2 0 s []
theorem c_law20_name (s:qab) (hs:s.size≤68719476736):APure Tryz.prog 26 [S s] (.agg (exVar s).c):=by
 refine qay Tryz.func26 Tryz.ntmps26 rfl (by kernel_rfl) rfl rfl fun E h hN hh hu hb=>?_;simp -dsimp [go_sem,hN,exVar,Ex.op,Ex.n,Ex.s,Ex.args]
theorem c_law20_text (s:qab) (hs:s.size≤68719476736):APure Tryz.prog 27 [S s] (.agg (exTxt s).c):=by
 refine qay Tryz.func27 Tryz.ntmps27 rfl (by kernel_rfl) rfl rfl fun E h hN hh hu hb=>?_;simp -dsimp [go_sem,hN,exTxt,Ex.op,Ex.n,Ex.s,Ex.args]
theorem c_law20_key (s:qab) (hs:s.size≤68719476736):APure Tryz.prog 28 [S s] (.agg (vS s).c):=by
 refine qay Tryz.func28 Tryz.ntmps28 rfl (by kernel_rfl) rfl rfl fun E h hN hh hu hb=>?_;simp -dsimp [go_sem,hN,vS,V.c]
def cpP:Proc:=⟨⟨#[99,111,112,121]⟩,[⟨ba,2⟩,⟨bb,2⟩],[.mk 1 bx 0 (.mk 22 0 em [exVar ba]) exNo [] [],.mk 3 em 0 (exVar bb) (exVar bx) [] []]⟩
def dP:Proc:=⟨⟨#[100]⟩,[],[.mk 5 em 0 (.mk 24 0 em [exTxt ba]) exNo [.mk 3 em 0 (exTxt bb) (.mk 1 1 em []) [] []] [.mk 4 em 0 (exTxt bc) exNo [] []]]⟩
def fP:Proc:=⟨⟨#[102]⟩,[],[.mk 4 em 0 (.mk 23 0 em [exTxt ba]) exNo [] []]⟩
def stW:List Pr:=[⟨ba,vS bz⟩]
theorem w1:statS qa8 cpP [vS bx,vS by']=(⟨false,[bx],[by']⟩,0):=by kernel_rfl
theorem sortS_two:qcz [bb,bc]=[bb,bc]:=by
 unfold qcz bysL ofBys;rw [List.mergeSort_of_pairwise (by decide)];rfl
theorem w2:statS qa8 dP []=(⟨false,[ba],[bb,bc]⟩,0):=by
 have h1:qbx dP=0:=by kernel_rfl
 have h2:qcq dP []=0:=by kernel_rfl
 have h3:(qdu qa8 dP.body (initF dP.params [] fun _=>none) ⟨[],[],false⟩).2=⟨[ba],[bb,bc],false⟩:=by kernel_rfl
 have h4:qcz [ba]=[ba]:=by kernel_rfl
 unfold statS;rw [h3,if_neg (by simp [h1,h2]),if_neg (by simp),if_neg (by simp)];rw [h4,sortS_two]
theorem w3:statS qa8 fP []=(⟨false,[],[]⟩,9):=by kernel_rfl
theorem w4:reconS qa8 fP [] stW=(⟨false,[ba],[bz]⟩,0):=by kernel_rfl
theorem w5:reconS qa8 dP [] []=(⟨false,[ba],[bc]⟩,0):=by kernel_rfl
theorem w6:planS qa8 fP [] stW=⟨false,[ba],[bz]⟩:=by kernel_rfl
theorem w7:(planS qa8 fP [vS bx] stW).all=true:=by kernel_rfl
theorem rngX_var (op:Int) (s:qab) (h:s.size≤64) (hop:∀ x:Ex,x∈([]:List Ex)→rngX x:=by simp):rngX (.mk op 0 s []):=(qdh _).2 ⟨⟨⟨by simp [Ex.n],by simp [Ex.n]⟩,by simp [Ex.s];omega⟩,by simp [Ex.args]⟩
theorem rngX_un (op:Int) (e:Ex) (h:rngX e):rngX (.mk op 0 em [e]):=(qdh _).2 ⟨⟨⟨by simp [Ex.n],by simp [Ex.n]⟩,by simp [Ex.s,em]⟩,by simpa [Ex.args] using h⟩
theorem rngX_no:rngX exNo:=rngX_var 0 em (by decide)
theorem rngV_S (s:qab) (h:s.size≤64):qdx (vS s):=⟨⟨by simp [vS],by simp [vS]⟩,by simp only [vS];omega⟩
theorem cp_in:RunIn qa8 cpP [vS bx,vS by'] []:=by
 refine ⟨qcb,fun t ht=>?_,fun v hv=>?_,by simp⟩
 ·
  simp only [cpP,List.mem_cons,List.not_mem_nil,or_false] at ht;rcases ht with rfl | rfl
  · exact (qdy _).2 ⟨rngX_un _ _ (rngX_var _ _ (by decide)),rngX_no,by simp [St.body],by simp [St.els]⟩
  · exact (qdy _).2 ⟨rngX_var _ _ (by decide),rngX_var _ _ (by decide),by simp [St.body],by simp [St.els]⟩
 ·
  simp only [List.mem_cons,List.not_mem_nil,or_false] at hv;rcases hv with rfl | rfl
  · exact rngV_S _ (by decide)
  · exact rngV_S _ (by decide)
theorem one_rng:rngX (.mk 1 1 em []):=(qdh _).2 ⟨⟨⟨by decide,by decide⟩,by simp [Ex.s,em]⟩,by simp [Ex.args]⟩
theorem d_in:RunIn qa8 dP [] []:=by
 refine ⟨qcb,fun t ht=>?_,by simp,by simp⟩;simp only [dP,List.mem_cons,List.not_mem_nil,or_false] at ht;subst ht;refine (qdy _).2 ⟨rngX_un _ _ (rngX_var _ _ (by decide)),rngX_no,fun x hx=>?_,fun x hx=>?_⟩
 ·
  simp only [St.body,List.mem_cons,List.not_mem_nil,or_false] at hx;subst hx;exact (qdy _).2 ⟨rngX_var _ _ (by decide),one_rng,by simp [St.body],by simp [St.els]⟩
 ·
  simp only [St.els,List.mem_cons,List.not_mem_nil,or_false] at hx;subst hx;exact (qdy _).2 ⟨rngX_var _ _ (by decide),rngX_no,by simp [St.body],by simp [St.els]⟩
theorem f_in (args:List V) (ha:∀ v∈args,qdx v):RunIn qa8 fP args stW:=by
 refine ⟨qcb,fun t ht=>?_,ha,fun q hq=>?_⟩
 ·
  simp only [fP,List.mem_cons,List.not_mem_nil,or_false] at ht;subst ht;exact (qdy _).2 ⟨rngX_un _ _ (rngX_var _ _ (by decide)),rngX_no,by simp [St.body],by simp [St.els]⟩
 ·
  simp only [stW,List.mem_cons,List.not_mem_nil,or_false] at hq;subst hq;exact rngV_S _ (by decide)
theorem c_w1:∀ h,h[g]?=some (tabO tT tx)→ACalls Tryz.prog 13 [.agg cpP.c,.slice ([vS bx,vS by'].map V.c)] h fun e h'=>e=.ret (.tuple [.agg (Foot.c ⟨false,[bx],[by']⟩),I 0])∧h'=h:=fun h hg=>by
 have:=c_pr_Static cpP [vS bx,vS by'] h hg cp_in
 rwa [w1] at this
theorem c_w2:∀ h,h[g]?=some (tabO tT tx)→ACalls Tryz.prog 13 [.agg dP.c,.slice []] h fun e h'=>e=.ret (.tuple [.agg (Foot.c ⟨false,[ba],[bb,bc]⟩),I 0])∧h'=h:=fun h hg=>by
 have:=c_pr_Static dP [] h hg d_in
 rwa [w2] at this
theorem c_w3:∀ h,h[g]?=some (tabO tT tx)→ACalls Tryz.prog 13 [.agg fP.c,.slice []] h fun e h'=>e=.ret (.tuple [.agg (Foot.c ⟨false,[],[]⟩),I 9])∧h'=h:=fun h hg=>by
 have:=c_pr_Static fP [] h hg (runIn_nil (f_in [] (by simp)))
 rwa [w3] at this
theorem c_w4:∀ h,h[g]?=some (tabO tT tx)→ACalls Tryz.prog 10 [.agg fP.c,.slice [],.slice (stW.map Pr.c)] h fun e h'=>e=.ret (.tuple [.agg (Foot.c ⟨false,[ba],[bz]⟩),I 0])∧h'=h:=fun h hg=>by
 have:=qc6 fP [] stW h hg (f_in [] (by simp))
 rwa [w4] at this
theorem c_w5:∀ h,h[g]?=some (tabO tT tx)→ACalls Tryz.prog 10 [.agg dP.c,.slice [],.slice []] h fun e h'=>e=.ret (.tuple [.agg (Foot.c ⟨false,[ba],[bc]⟩),I 0])∧h'=h:=fun h hg=>by
 have:=qc6 dP [] [] h hg d_in
 rwa [w5] at this
theorem c_w6:∀ h,h[g]?=some (tabO tT tx)→ACalls Tryz.prog 29 [.agg fP.c,.slice [],.slice (stW.map Pr.c)] h fun e h'=>e=.ret (.agg (Foot.c ⟨false,[ba],[bz]⟩))∧h'=h:=fun h hg=>by
 have:=c_pr_Plan fP [] stW h hg (f_in [] (by simp))
 rwa [w6] at this
theorem c_w7:∀ h,h[g]?=some (tabO tT tx)→ACalls Tryz.prog 29 [.agg fP.c,.slice ([vS bx].map V.c),.slice (stW.map Pr.c)] h fun e h'=>e=.ret (.agg (planS qa8 fP [vS bx] stW).c)∧h'=h:=fun h hg=>
 c_pr_Plan fP [vS bx] stW h hg (f_in [vS bx] (by simpa using rngV_S bx (by decide)))
theorem c_sm (a:Foot) (h:(decide (a.all=a.all)&&qc0 eqB a.reads a.reads&&qc0 eqB a.writes a.writes)=true):APure Tryz.prog 12 [.agg a.c,.agg a.c] (Bo true):=by
 have:=c_ref19_Same a a
 rwa [h] at this
@[go_sem] theorem fld_all:aFieldK Tryz.prog 32 0=some (0,4):=by kernel_rfl
theorem qbs (h:qaa) (hg:h[g]?=some (tabO tT tx)):ACalls Tryz.prog 9 [] h fun r h'=>r=.ret (Bo true)∧h'=h:=by
 refine qav Tryz.func9 Tryz.ntmps9 rfl (by kernel_rfl) rfl fun E hN hh hu hb hb' hua=>?_;have hgl:g<h.length:=(List.getElem?_eq_some_iff.1 hg).1;have hg':∀ l:qaa,(h++l)[g]?=some (tabO tT tx):=fun l=>by rw [List.getElem?_append_left hgl];exact hg
 simp -dsimp [go_sem,hN];refine qac (c_law20_name ba (by decide)) ?_;simp -dsimp [go_sem,hN];refine qak 11 mixed (by kernel_rfl) (by kernel_rfl) ?_;simp -dsimp [go_sem,hN];refine qcf (c_law20_name bb (by decide)) (by simp) ?_;simp -dsimp [go_sem,hN];refine qcf (c_law20_name bx (by decide)) (by simp) ?_;simp -dsimp [go_sem,hN];refine qac (c_law20_text ba (by decide)) ?_;simp -dsimp [go_sem,hN];refine qak 12 mixed (by kernel_rfl) (by kernel_rfl) ?_;simp -dsimp [go_sem,hN];refine qcf (c_law20_text bb (by decide)) (by simp) ?_;simp -dsimp [go_sem,hN];refine qcf (c_law20_text bc (by decide)) (by simp) ?_;simp -dsimp [go_sem,hN];refine qac (c_law20_text ba (by decide)) ?_;simp -dsimp [go_sem,hN];refine qac (c_law20_key bz (by decide)) ?_;simp -dsimp [go_sem,hN];refine awp_drawG 10 mixed (by kernel_rfl) ?_;simp -dsimp [go_sem,hN];refine qcf (c_law20_key bx (by decide)) (by simp) ?_;simp -dsimp [go_sem,hN];refine qcf (c_law20_key by' (by decide)) (by simp) ?_;simp -dsimp [go_sem,hN];refine tdcall_at (fun _=>at_tab c_w1 (hg' _)) (by simp) ?_;simp -dsimp [go_sem,hN,Foot.c];refine ⟨by simp [sepD,List.zipIdx]<;>kernel_rfl,?_⟩;refine qag (c_w2 _ (hg' _)) ?_;rintro r h' ⟨rfl,rfl⟩;simp -dsimp [go_sem,hN,Foot.c];refine qag (c_w3 _ (hg' _)) ?_;rintro r h' ⟨rfl,rfl⟩;simp -dsimp [go_sem,hN,Foot.c];refine qag (c_w4 _ (hg' _)) ?_;rintro r h' ⟨rfl,rfl⟩;simp -dsimp [go_sem,hN,Foot.c];refine qag (c_w5 _ (hg' _)) ?_;rintro r h' ⟨rfl,rfl⟩;simp -dsimp [go_sem,hN,Foot.c];refine qak 38 mixed (by kernel_rfl) (by kernel_rfl) ?_;simp -dsimp [go_sem,hN];refine qcf (c_sm ⟨false,[bx],[by']⟩ (by kernel_rfl)) (by simp) ?_;simp -dsimp [go_sem,hN];refine qcf (c_sm ⟨false,[ba],[bb,bc]⟩ (by kernel_rfl)) (by simp) ?_;simp -dsimp [go_sem,hN];refine qcf (c_sm ⟨false,[ba],[bz]⟩ (by kernel_rfl)) (by simp) ?_;simp -dsimp [go_sem,hN];refine qcf (c_sm ⟨false,[ba],[bc]⟩ (by kernel_rfl)) (by simp) ?_;simp -dsimp [go_sem,hN];refine tdcall_at (fun _=>at_tab c_w6 (hg' _)) (by simp) ?_;simp -dsimp [go_sem,hN,Foot.c];refine qcf (c_sm ⟨false,[ba],[bz]⟩ (by kernel_rfl)) (by simp) ?_;simp -dsimp [go_sem,hN];refine qcf (c_law20_key bx (by decide)) (by simp) ?_;simp -dsimp [go_sem,hN];refine qc3 (fun _=>c_w7 _ (hg' _)) (by simp) ?_ (fun h=>h);simp -dsimp [go_sem,hN,Foot.c,w7];exact ⟨_,.refl _,h,by simp [go_sem],hwk.app0 _,Nat.le_refl _,hu,rfl,rfl⟩
theorem c_law20_few (p:Proc) (args:List V) (st:List Pr) (h:qaa) :
  ACalls Tryz.prog 8 [.agg p.c,.slice (args.map V.c),.slice (st.map Pr.c)] h fun r h'=>(∃ b:Bool,r=.ret (Bo b))∧h'=h:=by
 refine qav Tryz.func8 Tryz.ntmps8 rfl (by kernel_rfl) rfl fun E hN hh hu hb hb' hua=>?_;simp [go_sem] at hb;simp -dsimp [go_sem,hN];refine qag (c_ref08_Small p 600 _) ?_;rintro r h' ⟨⟨b,rfl⟩,rfl⟩;simp -dsimp [go_sem,hN]
 repeat refine ⟨by grind,?_⟩
 refine cnd (fun h1=>?_) (fun h1=>?_)
 ·
  simp -dsimp [go_sem,hN];exact ⟨_,.refl _,h,by simp [go_sem],hwk.app0 _,Nat.le_refl _,hu,.inl rfl,rfl⟩
 simp -dsimp [go_sem,hN];refine qat args.length (fun _=>True) (fun n=>⟨[(1,.slice (args.map V.c)),(2,.slice (st.map Pr.c)),(7,I n)],h++[.cells p.c]⟩) trivial (Wk.mk (by simp [hh]) (by simp [go_sem,Proc.c]) (by simp [hu,qam hu,go_sem]) (by simp [go_sem])) ?_;intro n hn _;have hw:=qbn hn hb.2.1.1;simp -dsimp [go_sem,hN];refine cnd ?_ ?_<;>intro hc<;>simp at hc
 ·
  simp -dsimp [go_sem,hN,hc,V.c];refine cnd (fun h2=>?_) (fun h2=>?_)
  ·
   simp -dsimp [go_sem,hN];exact ⟨_,.refl _,h,by simp [go_sem],hwk.app0 _,Nat.le_refl _,hu,.inl rfl,rfl⟩
  ·
   simp -dsimp [go_sem,hN,hw];exact ⟨hc,wkA⟩
 simp -dsimp [go_sem,hN];refine qat st.length (fun _=>True) (fun n=>⟨[(2,.slice (st.map Pr.c)),(8,I n)],h++[.cells p.c]⟩) trivial wkA ?_;intro m hm _;have hw:=qbn hm hb.2.2.1;simp -dsimp [go_sem,hN];refine cnd ?_ ?_<;>intro hc<;>simp at hc
 ·
  simp -dsimp [go_sem,hN,hc,Pr.c]
  repeat refine ⟨by grind,?_⟩
  refine cnd (fun h2=>?_) (fun h2=>?_)
  ·
   simp -dsimp [go_sem,hN];exact ⟨_,.refl _,h,by simp [go_sem],hwk.app0 _,Nat.le_refl _,hu,.inl rfl,rfl⟩
  ·
   simp -dsimp [go_sem,hN,hw];exact ⟨hc,wkA⟩
 ·
  simp -dsimp [go_sem,hN];exact ⟨_,.refl _,h,by simp [go_sem],hwk.app0 _,Nat.le_refl _,hu,.inr rfl,rfl⟩
end Go.Proofs.YtilhejdbiionhaaGreatDoor
