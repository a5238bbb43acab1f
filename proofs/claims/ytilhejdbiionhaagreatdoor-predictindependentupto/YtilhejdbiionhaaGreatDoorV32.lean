/- Part 32 of a proof: W6, W7, W8, W9, W10 -/
import Derived.Test.YtilhejdbiionhaaGreatDoorV13
import Derived.Test.YtilhejdbiionhaaGreatDoorV22
import Derived.Test.YtilhejdbiionhaaGreatDoorV31
set_option linter.all false

set_option maxRecDepth 4000
namespace Go.Proofs.YtilhejdbiionhaaGreatDoor
open Go Go.Abs Go.Cw
theorem c_ast_statement (s:St) (d:Int):APure Tryz.prog 194 [.agg s.x,I d] (I (qbi s d)):=by
 refine qap Tryz.func194 Tryz.ntmps194 rfl (by kernel_rfl) rfl rfl fun E h hN hh hu hb=>?_;simp -dsimp [go_sem,hN];refine qaa (c_ast_usesOf _) ?_;simp -dsimp [go_sem,hN];refine qaf (c_ast_shape s (qa4 s.op).1) (by simp) ?_;simp -dsimp [go_sem,hN];refine cnd (fun h0=>?_) (fun h0=>?_)
 ·
  simp -dsimp [go_sem,hN];simp at h0;rw [qbi,if_pos (by grind)]
 have h0':¬ ((qa4 s.op).2=false∨qb4 s (qa4 s.op).1=false):=by simp at h0;grind
 simp -dsimp [go_sem,hN];refine qaf (c_lexer_IsName _) (by simp) ?_;simp -dsimp [go_sem,hN];refine cnd (fun h1=>?_) (fun h1=>?_)
 ·
  simp -dsimp [go_sem,hN];simp at h1;rw [qbi,if_neg h0',if_pos (by grind)]
 have h1':¬ ((qa4 s.op).1.name=true∧nameOk s.name=false):=by simp at h1;grind
 simp -dsimp [go_sem,hN];have tail:¬ ((qa4 s.op).1.a=true∧chkE s.a 1≠0)→¬ ((qa4 s.op).1.b=true∧chkE s.b 1≠0)→∀ x:Int,x=(if 12<d then 2 else 0)→x=qbi s d:=by
  intro g1 g2 x hx;rw [qbi,if_neg h0',if_neg h1',if_neg g1,if_neg g2,hx]
 have tailb:¬ ((qa4 s.op).1.a=true∧chkE s.a 1≠0)→((qa4 s.op).1.b=true∧chkE s.b 1≠0)→chkE s.b 1=qbi s d:=by
  intro g1 g2;rw [qbi,if_neg h0',if_neg h1',if_neg g1,if_pos g2]
 refine cnd (fun h2=>?_) (fun h2=>?_)
 ·
  simp -dsimp [go_sem,hN];refine qaa (qd9 s.a) ?_;simp -dsimp [go_sem,hN];refine cnd ?_ ?_<;>intro h3<;>simp at h3
  ·
   simp -dsimp [go_sem,hN];rw [qbi,if_neg h0',if_neg h1',if_pos ⟨h2,h3⟩]
  simp -dsimp [go_sem,hN];refine cnd (fun h4=>?_) (fun h4=>?_)
  ·
   simp -dsimp [go_sem,hN];refine qaa (qd9 s.b) ?_;simp -dsimp [go_sem,hN];refine cnd ?_ ?_<;>intro h5<;>simp at h5
   ·
    simp -dsimp [go_sem,hN];exact tailb (by grind) ⟨h4,h5⟩
   simp -dsimp [go_sem,hN];refine cnd ?_ ?_<;>intro h6<;>simp at h6<;>simp -dsimp [go_sem,hN]<;>refine tail (by grind) (by grind) _ (by rw [eq_comm];first | exact if_pos h6 | exact if_neg (by omega))
  ·
   simp -dsimp [go_sem,hN];refine cnd ?_ ?_<;>intro h6<;>simp at h6<;>simp -dsimp [go_sem,hN]<;>refine tail (by grind) (by grind) _ (by rw [eq_comm];first | exact if_pos h6 | exact if_neg (by omega))
 ·
  simp -dsimp [go_sem,hN];refine cnd (fun h4=>?_) (fun h4=>?_)
  ·
   simp -dsimp [go_sem,hN];refine qaa (qd9 s.b) ?_;simp -dsimp [go_sem,hN];refine cnd ?_ ?_<;>intro h5<;>simp at h5
   ·
    simp -dsimp [go_sem,hN];exact tailb (by grind) ⟨h4,h5⟩
   simp -dsimp [go_sem,hN];refine cnd ?_ ?_<;>intro h6<;>simp at h6<;>simp -dsimp [go_sem,hN]<;>refine tail (by grind) (by grind) _ (by rw [eq_comm];first | exact if_pos h6 | exact if_neg (by omega))
  ·
   simp -dsimp [go_sem,hN];refine cnd ?_ ?_<;>intro h6<;>simp at h6<;>simp -dsimp [go_sem,hN]<;>refine tail (by grind) (by grind) _ (by rw [eq_comm];first | exact if_pos h6 | exact if_neg (by omega))
theorem c_ast_params1 (x:Param) (h:qab) (i:Nat) (p:Param) (hi:h[i]?=some (.cells p.c)):ACalls Tryz.prog 234 [.agg x.c,.ptr i 0] h fun r h'=>r=.ret (Bo (decide (x.name=p.name)))∧h'=h:=by
 refine qaq Tryz.func234 Tryz.ntmps234 rfl (by kernel_rfl) rfl fun E hN hh hu hb hb' hua=>?_;have hi':i<h.length:=(List.getElem?_eq_some_iff.1 hi).1;have a1:∀ l,(h++l)[i]?=some (.cells p.c):=fun l=>by rw [List.getElem?_append_left hi'];exact hi
 simp -dsimp [go_sem,hN,a1,hu];exact ⟨_,.refl _,h,by simp [go_sem],by simp [go_sem],by simp,by simp [hu,go_sem],rfl,rfl⟩
theorem c_IndexFunc_Param (l:List Param) (f:FuncId) (caps:List AV) (q:Param→Bool) (h:qab) (hcn:qbf h caps=caps) (hp:∀ x:Param,ACalls Tryz.prog f ([.agg x.c]++caps) h fun r h'=>r=.ret (Bo (q x))∧h'=h) :
  ACalls Tryz.prog 267 [.slice (l.map Param.c),.fn (.func f) [] caps] h fun r h'=>r=.ret (I (idxOf q l))∧h'=h:=by
 refine qaq Tryz.func267 Tryz.ntmps267 rfl (by kernel_rfl) rfl fun E hN hh hu hb hb' hua=>?_;simp [go_sem] at hb;simp -dsimp [go_sem,hN];refine qao l.length (fun n=>qco q n (l.drop n)=idxOf q l) (fun n=>⟨[(0,.slice (l.map Param.c)),(1,.fn (.func f) [] caps),(7,I l.length),(8,I n)],h⟩) (by simp [idxOf]) (Wk.mk (by simp [hh]) (by simp) (by simp [hu]) (by simp [go_sem];simpa [go_sem] using hua)) ?_;intro n hn hI;have hw:=qa3 hn hb.1;simp -dsimp [go_sem,hN];refine cnd ?_ ?_<;>intro hc<;>simp at hc
 ·
  rw [qae hc,qco] at hI;simp -dsimp [go_sem,hN,hc,hcn];refine qaj (hp l[n]) ?_;rintro r h' ⟨rfl,rfl⟩;simp -dsimp [go_sem,hN];refine cnd ?_ ?_<;>intro hg<;>try simp at hg
  ·
   simp -dsimp [go_sem,hN];rw [if_pos hg] at hI;rw [hI];exact ⟨_,.refl _,h',by simp [go_sem],by simp [go_sem],by simp,by simp [hu,go_sem],rfl,rfl⟩
  ·
   simp -dsimp [go_sem,hN,hw];exact ⟨hc,by simpa [hg] using hI,Wk.mk (by simp [hh]) (by simp) (by simp [hu]) (by simp [go_sem];simpa [go_sem] using hua)⟩
 ·
  rw [List.drop_eq_nil_of_le (by omega),qco] at hI;simp -dsimp [go_sem,hN,← hI];exact ⟨_,.refl _,h,by simp [go_sem],by simp [go_sem],by simp,by simp [hu,go_sem],rfl,rfl⟩
theorem c_ContainsFunc_Param (l:List Param) (f:FuncId) (caps:List AV) (q:Param→Bool) (h:qab) (hcn:qbf h caps=caps) (hp:∀ x:Param,ACalls Tryz.prog f ([.agg x.c]++caps) h fun r h'=>r=.ret (Bo (q x))∧h'=h) :
  ACalls Tryz.prog 233 [.slice (l.map Param.c),.fn (.func f) [] caps] h fun r h'=>r=.ret (Bo (anyL q l))∧h'=h:=by
 refine qaq Tryz.func233 Tryz.ntmps233 rfl (by kernel_rfl) rfl fun E hN hh hu hb hb' hua=>?_;simp -dsimp [go_sem,hN];refine qaj (c_IndexFunc_Param l f caps q h hcn hp) ?_;rintro r h' ⟨rfl,rfl⟩;simp -dsimp [go_sem,hN,idxOf_nonneg];exact ⟨_,.refl _,h',by simp [go_sem],by simp [go_sem],by simp,by simp [hu,go_sem],rfl,rfl⟩
theorem c_ast_params (l:List Param):APure Tryz.prog 192 [.slice (l.map Param.c)] (I (paramsE l)):=by
 refine qap Tryz.func192 Tryz.ntmps192 rfl (by kernel_rfl) rfl rfl fun E h hN hh hu hb=>?_;unfold paramsE;simp [go_sem] at hb;simp -dsimp [go_sem,hN];refine cnd ?_ ?_<;>intro h0<;>simp at h0
 ·
  simp -dsimp [go_sem,hN];omega
 simp -dsimp [go_sem,hN];rw [if_neg (by omega)];refine qao l.length (fun n=>qct (l.take n) (l.drop n)=qct [] l) (fun n=>⟨[(0,.slice (l.map Param.c)),(8,.slice (l.map Param.c)),(9,I l.length),(10,I n)],h⟩) (by simp) wkA ?_;intro n hn hI;have hw:=qa3 hn hb.1;simp -dsimp [go_sem,hN];refine cnd ?_ ?_<;>intro hc<;>simp at hc
 ·
  rw [qae hc,qct] at hI;simp -dsimp [go_sem,hN,hc];refine qaa (c_lexer_IsName _) ?_;simp -dsimp [go_sem,hN];refine cnd ?_ ?_<;>intro h1<;>simp at h1
  ·
   simp -dsimp [go_sem,hN];simpa [h1] using hI
  simp -dsimp [go_sem,hN];refine cnd ?_ ?_<;>intro h2<;>simp at h2
  ·
   simp -dsimp [go_sem,hN];simpa [h1,h2] using hI
  have h2':¬ (l[n].ty<1∨3<l[n].ty):=by omega
  simp -dsimp [go_sem,hN,hn];have ecl:(List.map Param.c l).take n=(l.take n).map Param.c:=by simp
  rw [ecl];refine qaj (c_ContainsFunc_Param (l.take n) _ _ (fun x=>decide (x.name=l[n].name)) _ (by simp [qbf,AV.norm]) (fun x=>c_ast_params1 x _ _ l[n] (by simp [Param.c]))) ?_;rintro r h' ⟨rfl,rfl⟩;simp -dsimp [go_sem,hN];refine cnd ?_ ?_<;>intro h3<;>try simp at h3
  ·
   simp -dsimp [go_sem,hN];simpa [h1,h2',h3] using hI
  ·
   simp -dsimp [go_sem,hN,hw];refine ⟨hc,?_,wkA⟩;rw [List.take_succ_eq_append_getElem hc];simpa [h1,h2',h3] using hI
 ·
  rw [List.drop_eq_nil_of_le (by omega),qct] at hI;simp -dsimp [go_sem,hN,← hI]
end Go.Proofs.YtilhejdbiionhaaGreatDoor

set_option maxRecDepth 4000
namespace Go.Proofs.YtilhejdbiionhaaGreatDoor
open Go Go.Abs Go.Cw
variable {σ:Type} {K:σ→Nat} {M:Nat} {w:Nat} {fs fr:FuncId} {cs cr:List AV} {H:Nat→σ→qab} {fS:σ→St→Nat→σ} {fR:σ→Ex→σ} {n0:Nat}
theorem c_walker_expr {H:Nat→σ→qab} {n0:Nat} (W:WH Tryz.prog w fs fr cs cr H fS fR n0 K M) (e:Ex) (left:Nat) (s:σ) (hl:left≤1000) :
  ACalls Tryz.prog 271 [.ptr w 0,.agg e.x] (H left s) fun r h'=>r=.ret (.tuple [])∧h'=H (exW e left) s:=by
 refine qaq Tryz.func271 Tryz.ntmps271 rfl (by kernel_rfl) rfl fun E hN hh hu hb hb' hua=>?_;simp [go_sem] at hb;simp -dsimp [go_sem,hN,W.w',W.look,W.len];refine cnd ?_ ?_<;>intro h0<;>simp at h0
 ·
  subst h0;simp -dsimp [go_sem,hN];rw [exW_eq,if_pos rfl];exact ⟨_,.refl _,H 0 s,rfl,by simp,by simp,hu,rfl,rfl⟩
 have hw1:IntKind.i64.wrap ((left:Int) - 1)=((left - 1:Nat):Int):=by rw [wrapI (by omega) (by omega)];omega
 simp -dsimp [go_sem,hN,W.w',hw1,W.set',W.loc0];refine qat (α:=Nat) e.args.length (fun n m=>exWL (e.args.drop n) m=exW e left∧m≤left) (fun n m=>⟨[(0,.ptr w 0),(19,.slice (e.args.map Ex.c)),(20,I e.args.length),(21,I n)],H m s++[.cells e.x]⟩) (left - 1) ⟨by rw [exW_eq,if_neg h0];rfl,by omega⟩ (Wk.mk (by simp [hh,W.len]) (by simp [go_sem]) ((W.ext [.cells e.x] (by simp [go_sem])).und' _ _) (by have:=W.lt;simp [go_sem,W.len];omega)) ?_;intro n m hn ⟨hI,hm⟩;have hw:=qa3 hn hb.2.1;simp -dsimp [go_sem,hN];refine cnd ?_ ?_<;>intro hc<;>simp at hc
 ·
  rw [qae hc,exWL] at hI;have hlt:SizeOf.sizeOf e.args[n]<SizeOf.sizeOf e:=Ex.arg_lt (List.getElem_mem hc);simp -dsimp [go_sem,hN,hc,W.loc0,W.loc1,W.set0,W.set1,W.len];refine qaj (c_walker_expr (W.ext [.cells e.x,.cells e.args[n].x] (by simp [go_sem])) e.args[n] m s (by omega)) ?_;rintro r h' ⟨rfl,rfl⟩;simp -dsimp [go_sem,hN,hw];refine ⟨hc,_,⟨hI,?_⟩,?_⟩
  ·
   have:=exW_le e.args[n] m;omega
  · exact (Wk.mk (by simp [hh,W.len]) (by simp [go_sem]) ((W.ext [.cells e.x] (by simp [go_sem])).und' _ _) (by have:=W.lt;simp [go_sem,W.len];omega))
 ·
  rw [List.drop_eq_nil_of_le (by omega),exWL] at hI;simp -dsimp [go_sem,hN];subst hI;exact ⟨_,.refl _,H (exW e left) s,rfl,by simp,by simp [W.len],W.und' _ _,rfl,rfl⟩
termination_by SizeOf.sizeOf e
theorem c_walker_first {H:Nat→σ→qab} {n0:Nat} (W:WH Tryz.prog w fs fr cs cr H fS fR n0 K M) (e:Ex) (left:Nat) (s:σ) (hl:left≤1000) (hK:K s+left≤M) :
  ACalls Tryz.prog 239 [.ptr w 0,.agg e.x] (H left s) fun r h'=>r=.ret (.tuple [])∧h'=H (qbu fR e (left,s)).1 (qbu fR e (left,s)).2:=by
 refine qaq Tryz.func239 Tryz.ntmps239 rfl (by kernel_rfl) rfl fun E hN hh hu hb hb' hua=>?_;simp [go_sem] at hb;simp -dsimp [go_sem,hN,W.w',W.look,W.len,W.loc0];refine qaf (c_ast_absent e) (by simp) ?_;simp -dsimp [go_sem,hN];refine cnd ?_ ?_<;>intro h0<;>simp at h0
 ·
  simp -dsimp [go_sem,hN];rw [qbu,if_pos (by simpa using h0)];exact ⟨_,.refl _,H left s,rfl,by simp,by simp,hu,rfl,rfl⟩
 simp -dsimp [go_sem,hN];refine qak 5 mixed (by kernel_rfl) (by kernel_rfl) ?_;simp -dsimp [go_sem,hN,W.w',W.loc0,W.ncr];refine qaj (W.root left s [.cells e.x] e hK h0.1) ?_;rintro r h' ⟨rfl,rfl⟩;simp -dsimp [go_sem,hN,W.loc0];refine qaj (c_walker_expr (W.ext [.cells e.x] (by simp [go_sem])) e left (fR s e) hl) ?_;rintro r h' ⟨rfl,rfl⟩;simp -dsimp [go_sem,hN];rw [qbu,if_neg (by simp only [not_or];exact ⟨h0.1,by simp [h0.2]⟩)];exact ⟨_,.refl _,H (exW e left) (fR s e),rfl,by simp,by simp [W.len],W.und' _ _,rfl,rfl⟩
theorem c_walker_block {H:Nat→σ→qab} {n0:Nat} (W:WH Tryz.prog w fs fr cs cr H fS fR n0 K M) (l:List St) (d left:Nat) (s:σ) (hl:d+left≤1000) (hK:K s+left≤M) :
  ACalls Tryz.prog 196 [.ptr w 0,.slice (l.map St.c),I d] (H left s) fun r h'=>r=.ret (.tuple [])∧h'=H (blkW fS fR l d (left,s)).1 (blkW fS fR l d (left,s)).2:=by
 refine qaq Tryz.func196 Tryz.ntmps196 rfl (by kernel_rfl) rfl fun E hN hh hu hb hb' hua=>?_;simp [go_sem] at hb;simp -dsimp [go_sem,hN,W.w',W.look,W.len,W.loc0];refine qat (α:=Nat×σ) l.length (fun n x=>blkW fS fR (l.drop n) d x=blkW fS fR l d (left,s)∧x.1≤left∧K x.2+x.1≤M) (fun n x=>⟨[(0,.ptr w 0),(2,I d),(8,.slice (l.map St.c)),(9,I l.length),(10,I n)],H x.1 x.2⟩) (left,s) ⟨by simp,by simp,hK⟩ (Wk.mk (by simp [hh,W.len]) (by simp [go_sem]) (W.und' _ _) (by have:=W.lt;simp [go_sem,W.len];omega)) ?_;rintro n ⟨m,s⟩ hn ⟨hI,hm,hk⟩;simp only at hm hk;have hw:=qa3 hn hb.1;simp -dsimp [go_sem,hN];refine cnd ?_ ?_<;>intro hc<;>simp at hc
 ·
  rw [qae hc,blkW] at hI;have hlt:SizeOf.sizeOf l[n]<SizeOf.sizeOf l:=List.sizeOf_lt_of_mem (List.getElem_mem hc);simp -dsimp [go_sem,hN,hc,W.loc0,W.set0,W.len,W.w'];refine cnd ?_ ?_<;>intro h0<;>simp at h0
  ·
   subst h0;simp -dsimp [go_sem,hN];rw [if_pos rfl] at hI;rw [← hI];exact ⟨_,.refl _,H 0 s,rfl,by simp,by simp [W.len],W.und' _ _,rfl,rfl⟩
  have hw1:IntKind.i64.wrap ((m:Int) - 1)=((m - 1:Nat):Int):=by rw [wrapI (by omega) (by omega)];omega
  rw [if_neg h0] at hI;simp -dsimp [go_sem,hN,hw1,W.loc0,W.w',W.set'];refine qak 6 mixed (by kernel_rfl) (by kernel_rfl) ?_;have X:=W.ext [.cells l[n].x] (by simp [go_sem]);simp -dsimp [go_sem,hN,W.w',W.loc0,W.ncs];refine qaj (W.stmt (m - 1) s [.cells l[n].x] l[n] d (by omega)) ?_;rintro r h' ⟨rfl,rfl⟩;have k0:=W.hS s l[n] d;simp -dsimp [go_sem,hN,W.w',W.loc0];refine qaj (c_walker_first X l[n].a (m - 1) (fS s l[n] d) (by omega) (by omega)) ?_;rintro r h' ⟨rfl,rfl⟩;have g1:=firstW_le fR l[n].a (m - 1,fS s l[n] d);have k1:=firstW_K fR K W.hR l[n].a (m - 1,fS s l[n] d);simp only at g1 k1;generalize hx1:qbu fR l[n].a (m - 1,fS s l[n] d)=x1 at g1 k1 ⊢;simp -dsimp [go_sem,hN,W.w',W.loc0];refine qaj (c_walker_first X l[n].b x1.1 x1.2 (by omega) (by omega)) ?_;rintro r h' ⟨rfl,rfl⟩;have g2:=firstW_le fR l[n].b x1;have k2:=firstW_K fR K W.hR l[n].b x1;generalize hx2:qbu fR l[n].b x1=x2 at g2 k2 ⊢;have hw2:IntKind.i64.wrap ((d:Int)+1)=((d+1:Nat):Int):=by rw [wrapI (by omega) (by omega)];omega
  have hb1:=St.body_le l[n];have hb2:=St.els_le l[n];simp -dsimp [go_sem,hN,W.w',W.loc0,hw2];refine qaj (c_walker_block X l[n].body (d+1) x2.1 x2.2 (by omega) (by omega)) ?_;rintro r h' ⟨rfl,rfl⟩;have g3:=blkW_le fS fR l[n].body (d+1) x2;have k3:=blkW_K fS fR K W.hS W.hR l[n].body (d+1) x2;generalize hx3:blkW fS fR l[n].body (d+1) x2=x3 at g3 k3 ⊢;simp -dsimp [go_sem,hN,W.w',W.loc0,hw2];refine qaj (c_walker_block X l[n].els (d+1) x3.1 x3.2 (by omega) (by omega)) ?_;rintro r h' ⟨rfl,rfl⟩;have g4:=blkW_le fS fR l[n].els (d+1) x3;have k4:=blkW_K fS fR K W.hS W.hR l[n].els (d+1) x3;simp -dsimp [go_sem,hN,hw];refine ⟨hc,(blkW fS fR l[n].els (d+1) x3).1,(blkW fS fR l[n].els (d+1) x3).2,⟨?_,?_⟩,(Wk.mk (by simp [hh,W.len]) (by simp [go_sem]) (W.und' _ _) (by have:=W.lt;simp [go_sem,W.len];omega))⟩
  · rw [← hI,stW_eq,hx1,hx2,hx3]
  · exact ⟨by omega,by omega⟩
 ·
  rw [List.drop_eq_nil_of_le (by omega),blkW] at hI;simp -dsimp [go_sem,hN];rw [← hI];exact ⟨_,.refl _,H m s,rfl,by simp,by simp [W.len],W.und' _ _,rfl,rfl⟩
termination_by SizeOf.sizeOf l
end Go.Proofs.YtilhejdbiionhaaGreatDoor

set_option maxRecDepth 4000
namespace Go.Proofs.YtilhejdbiionhaaGreatDoor
open Go Go.Abs Go.Cw
theorem c_ast_walk {σ:Type} {fs fr:FuncId} {cs cr:List AV} {H:σ→qab} {fS:σ→St→Nat→σ} {fR:σ→Ex→σ} {n0:Nat} {K:σ→Nat} {M:Nat} (B:CB Tryz.prog fs fr cs cr H fS fR n0 K M) (p:Proc) (s:σ) (hK:K s+401≤M) :
  ACalls Tryz.prog 144 [.agg p.c,.fn (.func fs) [] cs,.fn (.func fr) [] cr] (H s) fun r h'=>r=.ret (.val (.int .i64 (IntKind.i64.wrap (401 - ((blkW fS fR p.body 1 (401,s)).1:Int)))))∧h'=H (blkW fS fR p.body 1 (401,s)).2:=by
 refine qaq Tryz.func144 Tryz.ntmps144 rfl (by kernel_rfl) rfl fun E hN hh hu hb hb' hua=>?_;simp [go_sem] at hb;have X:=B.walk (.cells p.c) (by simp [go_sem]);have g0:∀ (s:σ) (x:AObj) (l:qab),(H s++x::l)[n0]?=some x:=fun s x l=>by
  rw [List.getElem?_append_right (by rw [B.len];omega),B.len,Nat.sub_self];rfl
 have g1:∀ (s:σ) (x y:AObj) (l:qab),(H s++x::y::l)[n0+1]?=some y:=fun s x y l=>by
  rw [List.getElem?_append_right (by rw [B.len];omega),B.len,show n0+1 - n0=1 by omega];rfl
 simp -dsimp [go_sem,hN,B.len,g0,g1];refine qaj (c_walker_block X p.body 1 401 s (by omega) hK) ?_;rintro r h' ⟨rfl,rfl⟩;simp -dsimp [go_sem,hN,g1];exact ⟨_,.refl _,H (blkW fS fR p.body 1 (401,s)).2,rfl,by simp,by simp [B.len],by rw [B.len];exact B.und _,rfl,rfl⟩
theorem c_ast_noStmt (t:St) (d:Int) (h:qab):ACalls Tryz.prog 209 [.agg t.x,I d] h fun r h'=>r=.ret (.tuple [])∧h'=h:=by
 refine qaq Tryz.func209 Tryz.ntmps209 rfl (by kernel_rfl) rfl fun E hN hh hu hb hb' hua=>?_;simp -dsimp [go_sem,hN];exact ⟨_,.refl _,h,by simp [go_sem],by simp [go_sem],by simp,by simp [hu,go_sem],rfl,rfl⟩
theorem c_ast_noRoot (e:Ex) (h:qab):ACalls Tryz.prog 146 [.agg e.x] h fun r h'=>r=.ret (.tuple [])∧h'=h:=by
 refine qaq Tryz.func146 Tryz.ntmps146 rfl (by kernel_rfl) rfl fun E hN hh hu hb hb' hua=>?_;simp -dsimp [go_sem,hN];exact ⟨_,.refl _,h,by simp [go_sem],by simp [go_sem],by simp,by simp [hu,go_sem],rfl,rfl⟩
theorem c_ast_Validate1 (t:St) (d:Nat) (h:qab) (i:Nat) (x:Int) (hi:h[i]?=some (.cells [I x])):ACalls Tryz.prog 193 [.agg t.x,I d,.ptr i 0] h fun r h'=>r=.ret (.tuple [])∧h'=h.set i (.cells [I (valS x t d)]):=by
 refine qaq Tryz.func193 Tryz.ntmps193 rfl (by kernel_rfl) rfl fun E hN hh hu hb hb' hua=>?_;simp [go_sem] at hb;have hi':i<h.length:=(List.getElem?_eq_some_iff.1 hi).1;have a1:∀ l,(h++l)[i]?=some (.cells [I x]):=fun l=>by rw [List.getElem?_append_left hi'];exact hi
 have a2:∀ l (y:AObj),(h++l).set i y=h.set i y++l:=fun l y=>List.set_append_left _ _ hi';have hus:∀ y:Int,hUnder h.length (h.set i (.cells [I y]))=true:=fun y=>qcc hu (by simp [AObj.under,qam,AV.under]);have hxx:h.set i (.cells [I x])=h:=by
  apply List.ext_getElem?;intro j;by_cases hj:i=j
  · subst hj;rw [List.getElem?_set_self hi',hi]
  · rw [List.getElem?_set_ne hj]
 simp -dsimp [go_sem,hN,a1];refine cnd ?_ ?_<;>intro h0<;>simp at h0
 ·
  simp -dsimp [go_sem,hN];refine qaa (c_ast_statement t d) ?_;simp -dsimp [go_sem,hN,a1,a2];rw [valS,if_pos h0];exact ⟨_,.refl _,_,rfl,hwk.app0 _,by simp,by simpa using hus _,rfl,rfl⟩
 ·
  simp -dsimp [go_sem,hN];rw [valS,if_neg h0,hxx];exact ⟨_,.refl _,_,rfl,hwk.app0 _,by simp,hu,rfl,rfl⟩
theorem c_ast_Validate (p:Proc):APure Tryz.prog 141 [.agg p.c] (I (qb7 p)):=by
 refine qap Tryz.func141 Tryz.ntmps141 rfl (by kernel_rfl) rfl rfl fun E h hN hh hu hb=>?_;simp [go_sem] at hb;simp -dsimp [go_sem,hN];refine qaa (c_lexer_IsName _) ?_;simp -dsimp [go_sem,hN];refine cnd ?_ ?_<;>intro h0<;>simp at h0
 ·
  simp -dsimp [go_sem,hN];rw [qb7,if_pos h0]
 simp -dsimp [go_sem,hN];refine qaa (c_ast_params _) ?_;simp -dsimp [go_sem,hN];refine cnd (fun h1=>?_) (fun h1=>?_)
 ·
  simp -dsimp [go_sem,hN];simp only [Bool.not_eq_true',decide_eq_false_iff_not] at h1;rw [qb7,if_neg (by simp [h0]),if_pos h1]
 simp only [Bool.not_eq_false',decide_eq_true_eq] at h1;simp -dsimp [go_sem,hN,h1];have B:CB Tryz.prog 193 146 [.ptr (h.length+1) 0] [] (fun x:Int=>h++[.cells p.c,.cells [I x]]) valS qby (h.length+2) (fun _=>0) 401:={
  hS:=fun _ _ _=>by simp
  hR:=fun _ _=>by simp
  len:=fun x=>by simp
  und:=fun x=>by rw [qal hu];simp [go_sem]
  ucs:=by simp [qam,AV.under]
  ucr:=rfl
  ncs:=fun h=>rfl
  ncr:=fun h=>rfl
  stmt:=fun x L t d _=>by
   have:=c_ast_Validate1 t d ((h++[.cells p.c,.cells [I x]])++L) (h.length+1) x (by simp);simpa using this
  root:=fun x L e _=>by
   have:=c_ast_noRoot e ((h++[.cells p.c,.cells [I x]])++L);simpa [qby] using this }
 refine qaj (c_ast_walk B p 0 (by omega)) ?_;rintro r h' ⟨rfl,rfl⟩;simp -dsimp [go_sem,hN];have hle:=blkW_le valS qby p.body 1 (401,(0:Int));simp only at hle;rw [wrapI (by omega) (by omega)];refine cnd ?_ ?_<;>intro h2<;>simp at h2
 ·
  simp -dsimp [go_sem,hN];rw [qb7,if_neg (by simp [h0]),if_neg (by simp [h1])];simp only;rw [if_pos ⟨h2.1,by omega⟩]
 ·
  simp -dsimp [go_sem,hN];rw [qb7,if_neg (by simp [h0]),if_neg (by simp [h1])];simp only;rw [if_neg (by omega)]
end Go.Proofs.YtilhejdbiionhaaGreatDoor

set_option maxRecDepth 4000
namespace Go.Proofs.YtilhejdbiionhaaGreatDoor
open Go Go.Abs Go.Cw
theorem c_ast_Names1 (t:St) (d:Nat) (h:qab) (p i:Nat) (l:List qac) (hp:h[p]?=some (.cells [.own i l.length])) (hi:h[i]?=some (.arr 9 1 (l.map qa1))) (hl:l.length+1≤68719476736) :
  ACalls Tryz.prog 145 [.agg t.x,I d,.ptr p 0] h fun r h'=>r=.ret (.tuple [])∧h'=(h.set i (.arr 9 1 ((qd4 l t d).map qa1))).set p (.cells [.own i (qd4 l t d).length]):=by
 refine qaq Tryz.func145 Tryz.ntmps145 rfl (by kernel_rfl) rfl fun E hN hh hu hb hb' hua=>?_;simp [go_sem] at hb;have hp':p<h.length:=(List.getElem?_eq_some_iff.1 hp).1;have hi':i<h.length:=(List.getElem?_eq_some_iff.1 hi).1;have hpi:p≠i:=by rintro rfl;rw [hp] at hi;cases hi
 have a1:∀ l:qab,(h++l)[p]?=h[p]?:=fun l=>List.getElem?_append_left hp';have a2:∀ l:qab,(h++l)[i]?=h[i]?:=fun l=>List.getElem?_append_left hi';have a3:∀ (l:qab) (y:AObj),(h++l).set p y=h.set p y++l:=fun l y=>List.set_append_left _ _ hp';have a4:∀ (l:qab) (y:AObj),(h++l).set i y=h.set i y++l:=fun l y=>List.set_append_left _ _ hi';have a5:∀ (l:qab) (o y:AObj),(h.set i o++l).set p y=(h.set i o).set p y++l:=fun l o y=>List.set_append_left _ _ (by simpa using hp');have a6:∀ (l:qab) (o:AObj),(h.set i o++l)[p]?=h[p]?:=fun l o=>by rw [List.getElem?_append_left (by simpa using hp'),List.getElem?_set_ne (Ne.symm hpi)]
 have hus:∀ (r:List (List AV)) (n:Nat),hUnder h.length ((h.set i (.arr 9 1 r)).set p (.cells [.own i n]))=true:=fun r n=>qcc (qcc hu (by simp [AObj.under])) (by simp [AObj.under,qam,AV.under,hi']);simp -dsimp [go_sem,hN,a1,hp];refine cnd ?_ ?_<;>intro h0<;>simp at h0
 ·
  simp -dsimp [go_sem,hN,a1,a2,a3,a4,a5,a6,hp,hi];refine ⟨by omega,?_⟩;have e:qd4 l t d=l++[t.name]:=by rw [qd4,if_pos h0]
  exact ⟨_,.refl _,_,rfl,hwk.app0 _,by simp,by simpa using hus _ _,rfl,by rw [e];simp [qa1]⟩
 ·
  simp -dsimp [go_sem,hN];have e:qd4 l t d=l:=by rw [qd4,if_neg (by omega)]
  rw [e,qcz hi,qcz hp];exact ⟨_,.refl _,_,rfl,hwk.app0 _,by simp,hu,rfl,rfl⟩
theorem c_ast_Names (p:Proc) (hlen:p.params.length≤34359738368):APure Tryz.prog 87 [.agg p.c] (.slice ((qcf p).map qa1)):=by
 refine qap Tryz.func87 Tryz.ntmps87 rfl (by kernel_rfl) rfl rfl fun E h hN hh hu hb=>?_;simp [go_sem] at hb;simp -dsimp [go_sem,hN];refine qat (α:=List qac) p.params.length (fun n o=>o++(p.params.drop n).map (·.name)=p.params.map (·.name)∧o.length≤n) (fun n o=>⟨[(1,.ptr h.length 0),(3,.ptr (h.length+1) 0),(7,.slice (p.params.map Param.c)),(8,I p.params.length),(9,I n)],h++[.cells p.c,.cells [.own (h.length+2) o.length],.arr 9 1 (o.map qa1)]⟩) [] (by simp) ((nilc_wk E _ (p:=h.length+1) (j:=0) (t:=9) (sz:=1) (xs:=[.nils]) (by simp) rfl).trans ?_) ?_
 ·
  simp;exact wkA
 intro n o hn ⟨hI,hol⟩;have hw:=qa3 hn hb.2.1.1;simp -dsimp [go_sem,hN];refine cnd ?_ ?_<;>intro hc<;>simp at hc
 ·
  rw [qae hc,List.map_cons] at hI;simp -dsimp [go_sem,hN,hc,hw];exact ⟨by omega,o++[p.params[n].name],⟨by simpa using hI,by simp;omega⟩,wkA⟩
 rw [List.drop_eq_nil_of_le (by omega),List.map_nil,List.append_nil] at hI;simp -dsimp [go_sem,hN];have B:CB Tryz.prog 145 146 [.ptr (h.length+1) 0] [] (fun l:List qac=>h++[.cells p.c,.cells [.own (h.length+2) l.length],.arr 9 1 (l.map qa1)]) qd4 qby (h.length+3) List.length 68719476735:={
  hS:=nameS_len
  hR:=fun s _=>by simp [qby]
  len:=fun x=>by simp
  und:=fun x=>by rw [qal hu];simp [go_sem]
  ucs:=by simp [qam,AV.under]
  ucr:=rfl
  ncs:=fun h=>rfl
  ncr:=fun h=>rfl
  stmt:=fun l L t d hk=>by
   have:=c_ast_Names1 t d ((h++[.cells p.c,.cells [.own (h.length+2) l.length],.arr 9 1 (l.map qa1)])++L) (h.length+1) (h.length+2) l (by simp) (by simp) (by omega);simpa using this
  root:=fun x L e _=>by
   have:=c_ast_noRoot e ((h++[.cells p.c,.cells [.own (h.length+2) x.length],.arr 9 1 (x.map qa1)])++L);simpa [qby] using this }
 refine qaj (c_ast_walk B p o (by omega)) ?_;rintro r h' ⟨rfl,rfl⟩;simp -dsimp [go_sem,hN];rw [qcf,← hI]
theorem c_ast_copied (e:Ex):APure Tryz.prog 211 [.agg e.x] (.agg e.x):=by
 refine qap Tryz.func211 Tryz.ntmps211 rfl (by kernel_rfl) rfl rfl fun E h hN hh hu hb=>?_;simp [go_sem] at hb;simp -dsimp [go_sem,hN];refine qao e.args.length (fun n=>True) (fun n=>⟨[(1,.ptr h.length 0),(2,.ptr (h.length+1) 0),(9,.slice (e.args.map Ex.c)),(10,I e.args.length),(11,I n)],h++[.cells [I e.op,I e.n,S e.s,.own (h.length+2) n],.cells [I 0,I 0,S ⟨#[]⟩,.nils],.arr 59 4 ((e.args.take n).map Ex.c)]⟩) trivial ((nilc_wk E _ (p:=h.length) (j:=3) (t:=59) (sz:=4) (xs:=[I e.op,I e.n,S e.s,.nils]) (by simp) rfl).trans ?_) ?_
 ·
  simp;exact wkA
 intro n hn _;have hw:=qa3 hn hb.2.1;simp -dsimp [go_sem,hN];refine cnd ?_ ?_<;>intro hc<;>simp at hc
 ·
  have hlt:SizeOf.sizeOf e.args[n]<SizeOf.sizeOf e:=Ex.arg_lt (List.getElem_mem hc);simp -dsimp [go_sem,hN,hc];refine qak 5 mixed (by kernel_rfl) (by kernel_rfl) ?_;simp -dsimp [go_sem,hN,hc];refine qa9 (c_ast_copied e.args[n]) (by simp) ?_;simp -dsimp [go_sem,hN,hc,hw];have et:(e.args.map Ex.c).take (n+1)=(e.args.map Ex.c).take n++[e.args[n].x]:=by
   rw [List.take_succ_eq_append_getElem (by simpa using hc)];simp [Ex.c_eq]
  rw [et];exact ⟨by omega,by omega,wkA⟩
 ·
  simp -dsimp [go_sem,hN];rw [if_pos (by omega),List.take_of_length_le (by simpa using hc)]
termination_by SizeOf.sizeOf e
theorem ready_step {P:Program} {N:Nat} {Q:AExit→Env→Prop} {l:List Oper} {n:Nat} {L:Array Bool} {e:Env} (rs:List Nat) (hne:rs≠[]) (hr:Region.ready .any l.toArray L=rs)
  (h:∀ i,i∈rs→match l[i]? with
  | some o=>stepF P N Q (l.map (·.dst)) o e fun e'=>allF P N Q l n (L.setIfInBounds i true) e'
  | none=>False):allF P N Q l (n+1) L e:=⟨fun h0=>(hne (hr▸h0)).elim,fun i hi=>h i (hr▸hi)⟩
theorem c_ast_Exprs1 (e:Ex) (h:qab) (p i:Nat) (l:List Ex) (hp:h[p]?=some (.cells [.own i l.length])) (hi:h[i]?=some (.uarr 59 4 (l.map Ex.c))) (hl:l.length+1≤68719476736) :
  ACalls Tryz.prog 210 [.agg e.x,.ptr p 0] h fun r h'=>r=.ret (.tuple [])∧h'=(h.set i (.uarr 59 4 ((l++[e]).map Ex.c))).set p (.cells [.own i (l.length+1)]):=by
 refine qaq Tryz.func210 Tryz.ntmps210 rfl (by kernel_rfl) rfl fun E hN hh hu hb hb' hua=>?_;simp [go_sem] at hb;simp -dsimp [go_sem,hN];have hpl:p<h.length:=(List.getElem?_eq_some_iff.1 hp).1;have hil:i<h.length:=(List.getElem?_eq_some_iff.1 hi).1;have hpi:p≠i:=by rintro rfl;rw [hp] at hi;cases hi
 have hip:i≠p:=fun h=>hpi h.symm;have hp1:∀ l:qab,(h++l)[p]?=h[p]?:=fun l=>List.getElem?_append_left hpl;have hi1:∀ l:qab,(h++l)[i]?=h[i]?:=fun l=>List.getElem?_append_left hil;have hs1:∀ (y:AObj) (l:qab),(h++l).set i y=h.set i y++l:=fun y l=>List.set_append_left _ _ hil;have hs2:∀ (y:AObj) (l:qab),(h++l).set p y=h.set p y++l:=fun y l=>List.set_append_left _ _ hpl;have hs3:∀ (o y:AObj) (l:qab),(h.set i o++l).set p y=(h.set i o).set p y++l:=fun o y l=>List.set_append_left _ _ (by simpa using hpl);have hs4:∀ (o y:AObj) (l:qab),(h.set i o++l).set i y=h.set i y++l:=fun o y l=>by rw [List.set_append_left _ _ (by simpa using hil),List.set_set]
 have hs5:∀ (o o' y:AObj) (l:qab),((h.set i o).set p o'++l).set i y=(h.set i y).set p o'++l:=fun o o' y l=>by rw [List.set_append_left _ _ (by simpa using hil),List.set_comm _ _ hpi,List.set_set]
 have hA:∀ (o:AObj) (l:qab),(h.set i o++l)[i]?=some o:=fun o l=>by rw [List.getElem?_append_left (by simpa using hil)];simp [hil]
 have hB:∀ (o:AObj) (L:qab),(h.set i o++L)[p]?=some (.cells [.own i l.length]):=fun o L=>by rw [List.getElem?_append_left (by simpa using hpl),List.getElem?_set_ne hip];exact hp
 have hC:∀ (o o':AObj) (L:qab),((h.set i o).set p o'++L)[i]?=some o:=fun o o' L=>by rw [List.getElem?_append_left (by simpa using hil),List.getElem?_set_ne hpi];simp [hil]
 have hlast:∀ z:List AV,(l.map Ex.c++[z])[l.length]?=some z:=fun z=>by rw [List.getElem?_append_right (by simp)];simp
 have hset:∀ y z:List AV,(l.map Ex.c++[z]).set l.length y=l.map Ex.c++[y]:=fun y z=>by rw [List.set_append_right _ _ (by simp)];simp
 have hfin:∀ e1:Env,e1.h=(h.set i (AObj.uarr 59 4 (l.map Ex.c++[e.x]))).set p (AObj.cells [AV.own i (l.length+1)])++[AObj.cells e.x] →
   fnPost Tryz.prog [] h.length (fun r h'=>r=AEnd.ret (AV.tuple [])∧h'=(h.set i (AObj.uarr 59 4 (l.map Ex.c++[e.x]))).set p (AObj.cells [AV.own i (l.length+1)])) .normal e1:=fun e1 he=>by
  refine ⟨trivial,.tuple [],_,.refl _,rfl,by rw [he];exact hwk.app0 _,by simp,?_,rfl,rfl⟩;simpa using (qcc (qcc hu (by simp [AObj.under])) (by simp [AObj.under,qam,AV.under,hil]):hUnder h.length ((h.set i (AObj.uarr 59 4 (l.map Ex.c++[e.x]))).set p (AObj.cells [AV.own i (l.length+1)]))=true)
 show AWp _ _ _ _ _;refine awp_drawX 5 mixed (by kernel_rfl) ?_;simp [opsD,qd0,go_sem,hN,hp1,hi1,hp,hi,DR.next,rdOf,qca];refine ⟨_,(c_ast_copied e).at _,by simp [sepD,List.zipIdx],?_⟩;refine ready_step [5] (by simp) (by kernel_rfl) ?_;intro i' hi';simp only [List.mem_singleton] at hi';subst hi';simp [go_sem,hN,hp1,hi1,hp,hi,hA,hB,hC,hlast,hset,hs1,hs2,hs3,hs4,hs5];refine ⟨by omega,ready_step [6,8] (by simp) (by kernel_rfl) ?_⟩;intro i' hi';simp only [List.mem_cons,List.mem_singleton,List.not_mem_nil,or_false] at hi';rcases hi' with rfl | rfl
 ·
  simp [go_sem,hN,hp1,hi1,hp,hi,hA,hB,hC,hlast,hset,hs1,hs2,hs3,hs4,hs5];refine ready_step [7,8] (by simp) (by kernel_rfl) ?_;intro i' hi';simp only [List.mem_cons,List.mem_singleton,List.not_mem_nil,or_false] at hi';rcases hi' with rfl | rfl
  ·
   simp [go_sem,hN,hp1,hi1,hp,hi,hA,hB,hC,hlast,hset,hs1,hs2,hs3,hs4,hs5];refine ready_step [8] (by simp) (by kernel_rfl) ?_;intro i' hi';simp only [List.mem_singleton] at hi';subst hi';simp [go_sem,hN,hp1,hi1,hp,hi,hA,hB,hC,hlast,hset,hs1,hs2,hs3,hs4,hs5];refine ⟨by kernel_rfl,hfin _ ?_⟩;simp
  ·
   simp [go_sem,hN,hp1,hi1,hp,hi,hA,hB,hC,hlast,hset,hs1,hs2,hs3,hs4,hs5];refine ready_step [7] (by simp) (by kernel_rfl) ?_;intro i' hi';simp only [List.mem_singleton] at hi';subst hi';simp [go_sem,hN,hp1,hi1,hp,hi,hA,hB,hC,hlast,hset,hs1,hs2,hs3,hs4,hs5];refine ⟨by kernel_rfl,hfin _ ?_⟩;simp
 ·
  simp [go_sem,hN,hp1,hi1,hp,hi,hA,hB,hC,hlast,hset,hs1,hs2,hs3,hs4,hs5];refine ready_step [6] (by simp) (by kernel_rfl) ?_;intro i' hi';simp only [List.mem_singleton] at hi';subst hi';simp [go_sem,hN,hp1,hi1,hp,hi,hA,hB,hC,hlast,hset,hs1,hs2,hs3,hs4,hs5];refine ready_step [7] (by simp) (by kernel_rfl) ?_;intro i' hi';simp only [List.mem_singleton] at hi';subst hi';simp [go_sem,hN,hp1,hi1,hp,hi,hA,hB,hC,hlast,hset,hs1,hs2,hs3,hs4,hs5];refine ⟨by kernel_rfl,hfin _ ?_⟩;simp
theorem c_ast_Exprs (p:Proc):APure Tryz.prog 167 [.agg p.c] (.slice ((qb8 p).map Ex.c)):=by
 refine qap Tryz.func167 Tryz.ntmps167 rfl (by kernel_rfl) rfl rfl fun E h hN hh hu hb=>?_;simp [go_sem] at hb;simp -dsimp [go_sem,hN];have B:CB Tryz.prog 209 210 [] [.ptr (h.length+1) 0] (fun l:List Ex=>h++[.cells p.c,.cells [.own (h.length+2) l.length],.uarr 59 4 (l.map Ex.c)]) keepS exprR (h.length+3) List.length 68719476735:={
  hS:=fun s _ _=>by simp [keepS]
  hR:=fun s _=>by simp [exprR]
  len:=fun x=>by simp
  und:=fun x=>by rw [qal hu];simp [go_sem]
  ucs:=rfl
  ucr:=by simp [qam,AV.under]
  ncs:=fun h=>rfl
  ncr:=fun h=>rfl
  stmt:=fun x L t d _=>by
   have:=c_ast_noStmt t d ((h++[.cells p.c,.cells [.own (h.length+2) x.length],.uarr 59 4 (x.map Ex.c)])++L);simpa [keepS] using this
  root:=fun l L e hk=>by
   have:=c_ast_Exprs1 e ((h++[.cells p.c,.cells [.own (h.length+2) l.length],.uarr 59 4 (l.map Ex.c)])++L) (h.length+1) (h.length+2) l (by simp) (by simp) (by omega);simpa [exprR] using this }
 have X:=acalls_wk (h:=h++[.cells p.c,.cells [.nils]]) (fun E=>by
  have:=nilcu_wk E ⟨[],h++[.cells p.c,.cells [.nils]]⟩ (p:=h.length+1) (j:=0) (t:=59) (sz:=4) (xs:=[.nils]) (by simp) rfl;simpa using this) (c_ast_walk B p [] (by simp))
 have Y:=acalls_wkR (h2:=h++[.cells p.c,.cells [.own (h.length+2) (qb8 p).length],.arr 59 4 ((qb8 p).map Ex.c)]) (fun E=>by
  have:=qd5 E ⟨[],h++[.cells p.c,.cells [.own (h.length+2) (qb8 p).length],.uarr 59 4 ((qb8 p).map Ex.c)]⟩ (i:=h.length+2) (t:=59) (sz:=4) (rows:=(qb8 p).map Ex.c) (by simp);simpa [qb8] using this) X
 refine qaj Y ?_;rintro r h' ⟨rfl,rfl⟩;simp -dsimp [go_sem,hN]
end Go.Proofs.YtilhejdbiionhaaGreatDoor

set_option maxRecDepth 4000
namespace Go.Proofs.YtilhejdbiionhaaGreatDoor
open Go Go.Abs Go.Cw
theorem c_types_signature (op:Int):APure Tryz.prog 281 [I op] (.tuple [I (qcr op).1,I (qcr op).2]):=by
 refine qap Tryz.func281 Tryz.ntmps281 rfl (by kernel_rfl) rfl rfl fun E h hN hh hu hb=>?_;by_cases h1:op=1
 · subst h1;simp -dsimp [go_sem,hN,qcr]
 by_cases h25:op=25
 · subst h25;simp -dsimp [go_sem,hN,qcr]
 by_cases h26:op=26
 · subst h26;simp -dsimp [go_sem,hN,qcr]
 by_cases h27:op=27
 · subst h27;simp -dsimp [go_sem,hN,qcr]
 by_cases h4:op=4
 · subst h4;simp -dsimp [go_sem,hN,qcr]
 by_cases h5:op=5
 · subst h5;simp -dsimp [go_sem,hN,qcr]
 by_cases h6:op=6
 · subst h6;simp -dsimp [go_sem,hN,qcr]
 by_cases h7:op=7
 · subst h7;simp -dsimp [go_sem,hN,qcr]
 by_cases h8:op=8
 · subst h8;simp -dsimp [go_sem,hN,qcr]
 by_cases h9:op=9
 · subst h9;simp -dsimp [go_sem,hN,qcr]
 by_cases h2:op=2
 · subst h2;simp -dsimp [go_sem,hN,qcr]
 by_cases h19:op=19
 · subst h19;simp -dsimp [go_sem,hN,qcr]
 by_cases h23:op=23
 · subst h23;simp -dsimp [go_sem,hN,qcr]
 by_cases h16:op=16
 · subst h16;simp -dsimp [go_sem,hN,qcr]
 by_cases h17:op=17
 · subst h17;simp -dsimp [go_sem,hN,qcr]
 by_cases h18:op=18
 · subst h18;simp -dsimp [go_sem,hN,qcr]
 by_cases h20:op=20
 · subst h20;simp -dsimp [go_sem,hN,qcr]
 by_cases h21:op=21
 · subst h21;simp -dsimp [go_sem,hN,qcr]
 by_cases h22:op=22
 · subst h22;simp -dsimp [go_sem,hN,qcr]
 simp -dsimp [go_sem,hN,qcr,h1,h25,h26,h27,h4,h5,h6,h7,h8,h9,h2,h19,h23,h16,h17,h18,h20,h21,h22]
theorem c_types_compared (op ty:Int):APure Tryz.prog 280 [I op,I ty] (Bo (cmpOk op ty)):=by
 refine qap Tryz.func280 Tryz.ntmps280 rfl (by kernel_rfl) rfl rfl fun E h hN hh hu hb=>?_;simp -dsimp [go_sem,hN,cmpOk]
 try grind
theorem c_nondeterministic (op:Int):APure Tryz.prog 169 [I op] (Bo (nonDet op)):=by
 refine qap Tryz.func169 Tryz.ntmps169 rfl (by kernel_rfl) rfl rfl fun E h hN hh hu hb=>?_;simp -dsimp [go_sem,hN,nonDet]
 try grind
theorem c_types_plain (s:qac):APure Tryz.prog 70 [S s] (Bo (qb1 s)):=by
 refine qap Tryz.func70 Tryz.ntmps70 rfl (by kernel_rfl) rfl rfl fun E h hN hh hu hb=>?_;simp [go_sem] at hb;simp -dsimp [go_sem,hN];refine qao s.size (fun n=>allL okB ((bl s).drop n)=allL okB (bl s)) (fun n=>⟨[(0,S s),(3,I n)],h⟩) (by simp) wkA ?_;intro n hn hI;have hw:=qa3 hn hb;simp -dsimp [go_sem,hN];refine cnd ?_ ?_<;>intro hc<;>try simp at hc
 ·
  rw [bdrop hc,allL] at hI;simp -dsimp [go_sem,hN,hc];refine cnd (fun hg=>?_) (fun hg=>?_)
  ·
   simp -dsimp [go_sem,hN];simp [qb1,← hI,okB,hg]
  ·
   simp -dsimp [go_sem,hN,hw];exact ⟨hc,by simpa [okB,hg] using hI,wkA⟩
 ·
  rw [bend (by omega),allL] at hI;simp -dsimp [go_sem,hN,qb1,← hI]
end Go.Proofs.YtilhejdbiionhaaGreatDoor
