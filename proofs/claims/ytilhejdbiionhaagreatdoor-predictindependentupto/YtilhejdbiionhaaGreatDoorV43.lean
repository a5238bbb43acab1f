/- Part 43 of a proof: W75a, W142, W145 -/
import Derived.Test.YtilhejdbiionhaaGreatDoorV13
import Derived.Test.YtilhejdbiionhaaGreatDoorV20
import Derived.Test.YtilhejdbiionhaaGreatDoorV23
import Derived.Test.YtilhejdbiionhaaGreatDoorV29
import Derived.Test.YtilhejdbiionhaaGreatDoorV30
import Derived.Test.YtilhejdbiionhaaGreatDoorV32
import Derived.Test.YtilhejdbiionhaaGreatDoorV33
import Derived.Test.YtilhejdbiionhaaGreatDoorV36
import Derived.Test.YtilhejdbiionhaaGreatDoorV38
import Derived.Test.YtilhejdbiionhaaGreatDoorV40
import Derived.Test.YtilhejdbiionhaaGreatDoorV42
set_option linter.all false

set_option maxRecDepth 4000
set_option maxHeartbeats 2000000
namespace Go.Proofs.YtilhejdbiionhaaGreatDoor
open Go Go.Abs Go.Cw
theorem c_ref08_countExpr (e:Ex) (d:Int) (h:qab):ACalls Tryz.prog 94 [.agg e.x,I d] h fun r h'=>(∃ n:Int,r=.ret (I n))∧h'=h:=by
 refine qaq Tryz.func94 Tryz.ntmps94 rfl (by kernel_rfl) rfl fun E hN hh hu hb hb' hua=>?_;simp [go_sem] at hb;simp -dsimp [go_sem,hN];refine qat (α:=Int) e.args.length (fun n v=>True) (fun n v=>⟨[(1,I d),(2,.ptr h.length 0),(5,I v),(6,I n)],h++[.cells e.x]⟩) (IntKind.i64.wrap (1+IntKind.i64.wrap ((e.s.size:Int) / 64))) trivial ?_ ?_
 · exact wkA
 rintro n v hn -;have hw:=qa3 hn (show _≤68719476736 by omega);by_cases hc:n<e.args.length
 ·
  have hlt:SizeOf.sizeOf e.args[n]<SizeOf.sizeOf e:=Ex.arg_lt (List.getElem_mem hc);simp -dsimp [go_sem,hN,hc];refine cnd ?_ ?_<;>intro hd<;>simp at hd
  ·
   simp -dsimp [go_sem,hN,hc];refine qaj (c_ref08_countExpr e.args[n] _ _) ?_;rintro r h' ⟨⟨k,rfl⟩,rfl⟩;simp -dsimp [go_sem,hN,hw];exact ⟨hc,IntKind.i64.wrap (v+k),wkA⟩
  ·
   simp -dsimp [go_sem,hN];exact ⟨_,.refl _,h,by simp [go_sem],by simp [go_sem],by simp,hu,⟨_,rfl⟩,rfl⟩
 ·
  simp -dsimp [go_sem,hN,hc];exact ⟨_,.refl _,h,by simp [go_sem],by simp [go_sem],by simp,hu,⟨_,rfl⟩,rfl⟩
termination_by SizeOf.sizeOf e
theorem St.body_sz (s:St):SizeOf.sizeOf s.body<SizeOf.sizeOf s:=by
 cases s;simp [St.body];omega
theorem St.els_sz (s:St):SizeOf.sizeOf s.els<SizeOf.sizeOf s:=by
 cases s;simp [St.els];omega
theorem c_ref08_countBody (l:List St) (d:Int) (h:qab):ACalls Tryz.prog 61 [.slice (l.map St.c),I d] h fun r h'=>(∃ n:Int,r=.ret (I n))∧h'=h:=by
 refine qaq Tryz.func61 Tryz.ntmps61 rfl (by kernel_rfl) rfl fun E hN hh hu hb hb' hua=>?_;simp [go_sem] at hb;simp -dsimp [go_sem,hN];refine qat (α:=Int) l.length (fun n v=>True) (fun n v=>⟨[(0,.slice (l.map St.c)),(1,I d),(5,I v),(6,I n)],h⟩) 0 trivial ?_ ?_
 · exact Wk.mk (by simp [hh]) (by simp [go_sem]) (by simp [hu,qal hu,go_sem]) (by simpa [go_sem] using hua)
 rintro n v hn -;have hw:=qa3 hn (show _≤68719476736 by omega);by_cases hc:n<l.length
 ·
  have hlt:SizeOf.sizeOf l[n]<SizeOf.sizeOf l:=List.sizeOf_lt_of_mem (List.getElem_mem hc);have hlb:=St.body_sz l[n];have hle:=St.els_sz l[n];have e1:=fun d H=>c_ref08_countExpr l[n].a d H;have e2:=fun d H=>c_ref08_countExpr l[n].b d H;have e3:=fun d H=>c_ref08_countBody l[n].body d H;have e4:=fun d H=>c_ref08_countBody l[n].els d H;simp -dsimp [go_sem,hN,hc];refine cnd ?_ ?_<;>intro hd<;>simp at hd
  ·
   simp -dsimp [go_sem,hN,hc];refine qaj (e1 _ _) ?_;rintro r h' ⟨⟨k1,rfl⟩,rfl⟩;simp -dsimp [go_sem,hN,hc];refine qaj (e2 _ _) ?_;rintro r h' ⟨⟨k2,rfl⟩,rfl⟩;simp -dsimp [go_sem,hN,hc];refine qaj (e3 _ _) ?_;rintro r h' ⟨⟨k3,rfl⟩,rfl⟩;simp -dsimp [go_sem,hN,hc];refine qaj (e4 _ _) ?_;rintro r h' ⟨⟨k4,rfl⟩,rfl⟩;simp -dsimp [go_sem,hN,hc,hw];exact ⟨IntKind.i64.wrap (IntKind.i64.wrap (IntKind.i64.wrap (IntKind.i64.wrap (IntKind.i64.wrap (IntKind.i64.wrap (v+1)+IntKind.i64.wrap ((l[n].name.size:Int) / 64))+k1)+k2)+k3)+k4),Wk.mk (by simp [hh]) (by simp [go_sem]) (by simp [hu,qal hu,go_sem]) (by simpa [go_sem] using hua)⟩
  ·
   simp -dsimp [go_sem,hN];exact ⟨_,.refl _,h,by simp [go_sem],by simp [go_sem],by simp,hu,⟨_,rfl⟩,rfl⟩
 ·
  simp -dsimp [go_sem,hN,hc];exact ⟨_,.refl _,h,by simp [go_sem],by simp [go_sem],by simp,hu,⟨_,rfl⟩,rfl⟩
termination_by SizeOf.sizeOf l
decreasing_by all_goals omega
theorem c_ref08_Small (p:Proc) (d:Int) (h:qab):ACalls Tryz.prog 25 [.agg p.c,I d] h fun r h'=>(∃ b:Bool,r=.ret (Bo b))∧h'=h:=by
 refine qaq Tryz.func25 Tryz.ntmps25 rfl (by kernel_rfl) rfl fun E hN hh hu hb hb' hua=>?_;simp [go_sem,Proc.c] at hb;simp -dsimp [go_sem,hN,Proc.c];by_cases h1:(40:Int)<(p.params.length:Int)
 ·
  simp -dsimp [go_sem,hN,h1];exact ⟨_,.refl _,h,by simp [go_sem],by simp [go_sem],by simp,hu,.inl rfl,rfl⟩
 by_cases h2:(200:Int)<(p.name.size:Int)
 ·
  simp -dsimp [go_sem,hN,h1,h2];exact ⟨_,.refl _,h,by simp [go_sem],by simp [go_sem],by simp,hu,.inl rfl,rfl⟩
 simp -dsimp [go_sem,hN,h1,h2];refine qao p.params.length (fun n=>True) (fun n=>⟨[(1,I d),(2,P0 h.length),(5,I n)],h++[.cells p.c]⟩) trivial ?_ ?_
 · exact Wk.mk (by simp [hh]) (by simp [go_sem,Proc.c]) (by simp [hu,qal hu,go_sem]) (by simp [go_sem])
 intro n hn _;have hw:=qa3 hn (show _≤68719476736 by omega);simp -dsimp [go_sem,hN,Proc.c];refine cnd ?_ ?_<;>intro hc<;>simp at hc
 ·
  by_cases h3:(200:Int)<(p.params[n].name.size:Int)
  ·
   simp -dsimp [go_sem,hN,hc,h3,Param.c];exact ⟨_,.refl _,h,by simp [go_sem],by simp [go_sem],by simp,hu,.inl rfl,rfl⟩
  ·
   simp -dsimp [go_sem,hN,hc,h3,hw,Param.c];exact Wk.mk (by simp [hh]) (by simp [go_sem,Proc.c]) (by simp [hu,qal hu,go_sem]) (by simp [go_sem])
 ·
  simp -dsimp [go_sem,hN,Proc.c];refine qaj (c_ref08_countBody p.body d _) ?_;rintro r h' ⟨⟨k,rfl⟩,rfl⟩;simp -dsimp [go_sem,hN];exact ⟨_,.refl _,h,by simp [go_sem],by simp [go_sem],by simp,hu,by by_cases hk:k≤d<;>simp [hk],rfl⟩
end Go.Proofs.YtilhejdbiionhaaGreatDoor

set_option maxRecDepth 8000
set_option maxHeartbeats 4000000
namespace Go.Proofs.YtilhejdbiionhaaGreatDoor
open Go Go.Abs Go.Cw
variable {tT:TypeId} {tx:Nat×Nat} {g:Nat}
def planS (fmt:Int→qac) (p:Proc) (args:List V) (st:List Pr):Foot :=
 if (statS fmt p args).2=0 then (statS fmt p args).1 else if (reconS fmt p args st).2=0 then (reconS fmt p args st).1 else ⟨true,[],[]⟩
theorem runIn_nil {fmt:Int→qac} {p:Proc} {args:List V} {st:List Pr} (h:RunIn fmt p args st):RunIn fmt p args []:=⟨h.fmt,h.body,h.args,by simp⟩
theorem c_pr_Plan (p:Proc) (args:List V) (st:List Pr) (h:qab) (hg:h[g]?=some (tabO tT tx)) (hI:RunIn qbo p args st) :
  ACalls Tryz.prog 29 [.agg p.c,.slice (args.map V.c),.slice (st.map Pr.c)] h fun r h'=>r=.ret (.agg (planS qbo p args st).c)∧h'=h:=by
 refine qaq Tryz.func29 Tryz.ntmps29 rfl (by kernel_rfl) rfl fun E hN hh hu hb hb' hua=>?_;have hgl:g<h.length:=(List.getElem?_eq_some_iff.1 hg).1;have hg':∀ l:qab,(h++l)[g]?=some (tabO tT tx):=fun l=>by rw [List.getElem?_append_left hgl];exact hg
 have hs:=fun H hH=>c_pr_Static (g:=g) (tT:=tT) (tx:=tx) p args H hH (runIn_nil hI);have hr:=fun H hH=>c_predict_Recon (g:=g) (tT:=tT) (tx:=tx) p args st H hH hI;obtain ⟨R,hR⟩:∃ R,planS qbo p args st=R:=⟨_,rfl⟩
 rw [hR];unfold planS at hR;obtain ⟨⟨f1,e1⟩,h1⟩:∃ R,statS qbo p args=R:=⟨_,rfl⟩
 obtain ⟨⟨f2,e2⟩,h2⟩:∃ R,reconS qbo p args st=R:=⟨_,rfl⟩
 rw [h1] at hs hR;rw [h2] at hr hR;dsimp only at hs hr hR;simp -dsimp [go_sem,hN];refine qaj (hs _ (hg' _)) ?_;rintro r h' ⟨rfl,rfl⟩;simp -dsimp [go_sem,hN,Foot.c];refine cnd ?_ ?_<;>intro h3<;>simp at h3
 ·
  rw [if_pos h3] at hR;subst hR;simp -dsimp [go_sem,hN,Foot.c];exact ⟨_,.refl _,h,by simp [go_sem],hwk.app0 _,Nat.le_refl _,hu,rfl,rfl⟩
 rw [if_neg h3] at hR;simp -dsimp [go_sem,hN,Foot.c];refine qaj (hr _ (hg' _)) ?_;rintro r h' ⟨rfl,rfl⟩;simp -dsimp [go_sem,hN,Foot.c];refine cnd ?_ ?_<;>intro h4<;>simp at h4
 ·
  rw [if_pos h4] at hR;subst hR;simp -dsimp [go_sem,hN,Foot.c];exact ⟨_,.refl _,h,by simp [go_sem],hwk.app0 _,Nat.le_refl _,hu,rfl,rfl⟩
 rw [if_neg h4] at hR;subst hR;simp -dsimp [go_sem,hN,Foot.c];exact ⟨_,.refl _,h,by simp [go_sem],hwk.app0 _,Nat.le_refl _,hu,rfl,rfl⟩
def ba:qac:=⟨#[97]⟩
def bb:qac:=⟨#[98]⟩
def bc:qac:=⟨#[99]⟩
def by':qac:=⟨#[121]⟩
def bz:qac:=⟨#[122]⟩
def exNo:Ex:=.mk 0 0 em []
def exVar (s:qac):Ex:=.mk 3 0 s []
def exTxt (s:qac):Ex:=.mk 2 0 s []
theorem c_law20_name (s:qac) (hs:s.size≤68719476736):APure Tryz.prog 26 [S s] (.agg (exVar s).c):=by
 refine qap Tryz.func26 Tryz.ntmps26 rfl (by kernel_rfl) rfl rfl fun E h hN hh hu hb=>?_;simp -dsimp [go_sem,hN,exVar,Ex.op,Ex.n,Ex.s,Ex.args]
theorem c_law20_text (s:qac) (hs:s.size≤68719476736):APure Tryz.prog 27 [S s] (.agg (exTxt s).c):=by
 refine qap Tryz.func27 Tryz.ntmps27 rfl (by kernel_rfl) rfl rfl fun E h hN hh hu hb=>?_;simp -dsimp [go_sem,hN,exTxt,Ex.op,Ex.n,Ex.s,Ex.args]
theorem c_law20_key (s:qac) (hs:s.size≤68719476736):APure Tryz.prog 28 [S s] (.agg (vS s).c):=by
 refine qap Tryz.func28 Tryz.ntmps28 rfl (by kernel_rfl) rfl rfl fun E h hN hh hu hb=>?_;simp -dsimp [go_sem,hN,vS,V.c]
def cpP:Proc:=⟨⟨#[99,111,112,121]⟩,[⟨ba,2⟩,⟨bb,2⟩],[.mk 1 bx 0 (.mk 22 0 em [exVar ba]) exNo [] [],.mk 3 em 0 (exVar bb) (exVar bx) [] []]⟩
def dP:Proc:=⟨⟨#[100]⟩,[],[.mk 5 em 0 (.mk 24 0 em [exTxt ba]) exNo [.mk 3 em 0 (exTxt bb) (.mk 1 1 em []) [] []] [.mk 4 em 0 (exTxt bc) exNo [] []]]⟩
def fP:Proc:=⟨⟨#[102]⟩,[],[.mk 4 em 0 (.mk 23 0 em [exTxt ba]) exNo [] []]⟩
def stW:List Pr:=[⟨ba,vS bz⟩]
theorem w1:statS qbo cpP [vS bx,vS by']=(⟨false,[bx],[by']⟩,0):=by kernel_rfl
theorem sortS_two:qdo [bb,bc]=[bb,bc]:=by
 unfold qdo bysL ofBys;rw [List.mergeSort_of_pairwise (by decide)];rfl
theorem w2:statS qbo dP []=(⟨false,[ba],[bb,bc]⟩,0):=by
 have h1:qbn dP=0:=by kernel_rfl
 have h2:qcp dP []=0:=by kernel_rfl
 have h3:(exBl qbo dP.body (initF dP.params [] fun _=>none) ⟨[],[],false⟩).2=⟨[ba],[bb,bc],false⟩:=by kernel_rfl
 have h4:qdo [ba]=[ba]:=by kernel_rfl
 unfold statS;rw [h3,if_neg (by simp [h1,h2]),if_neg (by simp),if_neg (by simp)];rw [h4,sortS_two]
theorem w3:statS qbo fP []=(⟨false,[],[]⟩,9):=by kernel_rfl
theorem w4:reconS qbo fP [] stW=(⟨false,[ba],[bz]⟩,0):=by kernel_rfl
theorem w5:reconS qbo dP [] []=(⟨false,[ba],[bc]⟩,0):=by kernel_rfl
theorem w6:planS qbo fP [] stW=⟨false,[ba],[bz]⟩:=by kernel_rfl
theorem w7:(planS qbo fP [vS bx] stW).all=true:=by kernel_rfl
theorem rngX_var (op:Int) (s:qac) (h:s.size≤64) (hop:∀ x:Ex,x∈([]:List Ex)→rngX x:=by simp):rngX (.mk op 0 s []):=(rngX_iff _).2 ⟨⟨⟨by simp [Ex.n],by simp [Ex.n]⟩,by simp [Ex.s];omega⟩,by simp [Ex.args]⟩
theorem rngX_un (op:Int) (e:Ex) (h:rngX e):rngX (.mk op 0 em [e]):=(rngX_iff _).2 ⟨⟨⟨by simp [Ex.n],by simp [Ex.n]⟩,by simp [Ex.s,em]⟩,by simpa [Ex.args] using h⟩
theorem rngX_no:rngX exNo:=rngX_var 0 em (by decide)
theorem rngV_S (s:qac) (h:s.size≤64):rngV (vS s):=⟨⟨by simp [vS],by simp [vS]⟩,by simp only [vS];omega⟩
theorem cp_in:RunIn qbo cpP [vS bx,vS by'] []:=by
 refine ⟨qch,fun t ht=>?_,fun v hv=>?_,by simp⟩
 ·
  simp only [cpP,List.mem_cons,List.not_mem_nil,or_false] at ht;rcases ht with rfl | rfl
  · exact (qd3 _).2 ⟨rngX_un _ _ (rngX_var _ _ (by decide)),rngX_no,by simp [St.body],by simp [St.els]⟩
  · exact (qd3 _).2 ⟨rngX_var _ _ (by decide),rngX_var _ _ (by decide),by simp [St.body],by simp [St.els]⟩
 ·
  simp only [List.mem_cons,List.not_mem_nil,or_false] at hv;rcases hv with rfl | rfl
  · exact rngV_S _ (by decide)
  · exact rngV_S _ (by decide)
theorem one_rng:rngX (.mk 1 1 em []):=(rngX_iff _).2 ⟨⟨⟨by decide,by decide⟩,by simp [Ex.s,em]⟩,by simp [Ex.args]⟩
theorem d_in:RunIn qbo dP [] []:=by
 refine ⟨qch,fun t ht=>?_,by simp,by simp⟩;simp only [dP,List.mem_cons,List.not_mem_nil,or_false] at ht;subst ht;refine (qd3 _).2 ⟨rngX_un _ _ (rngX_var _ _ (by decide)),rngX_no,fun x hx=>?_,fun x hx=>?_⟩
 ·
  simp only [St.body,List.mem_cons,List.not_mem_nil,or_false] at hx;subst hx;exact (qd3 _).2 ⟨rngX_var _ _ (by decide),one_rng,by simp [St.body],by simp [St.els]⟩
 ·
  simp only [St.els,List.mem_cons,List.not_mem_nil,or_false] at hx;subst hx;exact (qd3 _).2 ⟨rngX_var _ _ (by decide),rngX_no,by simp [St.body],by simp [St.els]⟩
theorem f_in (args:List V) (ha:∀ v∈args,rngV v):RunIn qbo fP args stW:=by
 refine ⟨qch,fun t ht=>?_,ha,fun q hq=>?_⟩
 ·
  simp only [fP,List.mem_cons,List.not_mem_nil,or_false] at ht;subst ht;exact (qd3 _).2 ⟨rngX_un _ _ (rngX_var _ _ (by decide)),rngX_no,by simp [St.body],by simp [St.els]⟩
 ·
  simp only [stW,List.mem_cons,List.not_mem_nil,or_false] at hq;subst hq;exact rngV_S _ (by decide)
theorem c_w1:∀ h,h[g]?=some (tabO tT tx)→ACalls Tryz.prog 13 [.agg cpP.c,.slice ([vS bx,vS by'].map V.c)] h fun e h'=>e=.ret (.tuple [.agg (Foot.c ⟨false,[bx],[by']⟩),I 0])∧h'=h:=fun h hg=>by
 have:=c_pr_Static cpP [vS bx,vS by'] h hg cp_in
 rwa [w1] at this
theorem c_w2:∀ h,h[g]?=some (tabO tT tx)→ACalls Tryz.prog 13 [.agg dP.c,.slice []] h fun e h'=>e=.ret (.tuple [.agg (Foot.c ⟨false,[ba],[bb,bc]⟩),I 0])∧h'=h:=fun h hg=>by
 have:=c_pr_Static dP [] h hg d_in
 rwa [w2] at this
theorem c_w3:∀ h,h[g]?=some (tabO tT tx)→ACalls Tryz.prog 13 [.agg fP.c,.slice []] h fun e h'=>e=.ret (.tuple [.agg (Foot.c ⟨false,[],[]⟩),I 9])∧h'=h:=fun h hg=>by
 have:=c_pr_Static fP [] h hg (runIn_nil (f_in [] (by simp)))
 rwa [w3] at this
theorem c_w4:∀ h,h[g]?=some (tabO tT tx)→ACalls Tryz.prog 10 [.agg fP.c,.slice [],.slice (stW.map Pr.c)] h fun e h'=>e=.ret (.tuple [.agg (Foot.c ⟨false,[ba],[bz]⟩),I 0])∧h'=h:=fun h hg=>by
 have:=c_predict_Recon fP [] stW h hg (f_in [] (by simp))
 rwa [w4] at this
theorem c_w5:∀ h,h[g]?=some (tabO tT tx)→ACalls Tryz.prog 10 [.agg dP.c,.slice [],.slice []] h fun e h'=>e=.ret (.tuple [.agg (Foot.c ⟨false,[ba],[bc]⟩),I 0])∧h'=h:=fun h hg=>by
 have:=c_predict_Recon dP [] [] h hg d_in
 rwa [w5] at this
theorem c_w6:∀ h,h[g]?=some (tabO tT tx)→ACalls Tryz.prog 29 [.agg fP.c,.slice [],.slice (stW.map Pr.c)] h fun e h'=>e=.ret (.agg (Foot.c ⟨false,[ba],[bz]⟩))∧h'=h:=fun h hg=>by
 have:=c_pr_Plan fP [] stW h hg (f_in [] (by simp))
 rwa [w6] at this
theorem c_w7:∀ h,h[g]?=some (tabO tT tx)→ACalls Tryz.prog 29 [.agg fP.c,.slice ([vS bx].map V.c),.slice (stW.map Pr.c)] h fun e h'=>e=.ret (.agg (planS qbo fP [vS bx] stW).c)∧h'=h:=fun h hg=>
 c_pr_Plan fP [vS bx] stW h hg (f_in [vS bx] (by simpa using rngV_S bx (by decide)))
theorem c_sm (a:Foot) (h:(decide (a.all=a.all)&&sameL eqB a.reads a.reads&&sameL eqB a.writes a.writes)=true):APure Tryz.prog 12 [.agg a.c,.agg a.c] (Bo true):=by
 have:=c_ref19_Same a a
 rwa [h] at this
@[go_sem] theorem fld_all:aFieldK Tryz.prog 32 0=some (0,4):=by kernel_rfl
theorem qd7 (h:qab) (hg:h[g]?=some (tabO tT tx)):ACalls Tryz.prog 9 [] h fun r h'=>r=.ret (Bo true)∧h'=h:=by
 refine qaq Tryz.func9 Tryz.ntmps9 rfl (by kernel_rfl) rfl fun E hN hh hu hb hb' hua=>?_;have hgl:g<h.length:=(List.getElem?_eq_some_iff.1 hg).1;have hg':∀ l:qab,(h++l)[g]?=some (tabO tT tx):=fun l=>by rw [List.getElem?_append_left hgl];exact hg
 simp -dsimp [go_sem,hN];refine qaa (c_law20_name ba (by decide)) ?_;simp -dsimp [go_sem,hN];refine qak 11 mixed (by kernel_rfl) (by kernel_rfl) ?_;simp -dsimp [go_sem,hN];refine qa9 (c_law20_name bb (by decide)) (by simp) ?_;simp -dsimp [go_sem,hN];refine qa9 (c_law20_name bx (by decide)) (by simp) ?_;simp -dsimp [go_sem,hN];refine qaa (c_law20_text ba (by decide)) ?_;simp -dsimp [go_sem,hN];refine qak 12 mixed (by kernel_rfl) (by kernel_rfl) ?_;simp -dsimp [go_sem,hN];refine qa9 (c_law20_text bb (by decide)) (by simp) ?_;simp -dsimp [go_sem,hN];refine qa9 (c_law20_text bc (by decide)) (by simp) ?_;simp -dsimp [go_sem,hN];refine qaa (c_law20_text ba (by decide)) ?_;simp -dsimp [go_sem,hN];refine qaa (c_law20_key bz (by decide)) ?_;simp -dsimp [go_sem,hN];refine awp_drawG 10 mixed (by kernel_rfl) ?_;simp -dsimp [go_sem,hN];refine qa9 (c_law20_key bx (by decide)) (by simp) ?_;simp -dsimp [go_sem,hN];refine qa9 (c_law20_key by' (by decide)) (by simp) ?_;simp -dsimp [go_sem,hN];refine tdcall_at (fun _=>at_tab c_w1 (hg' _)) (by simp) ?_;simp -dsimp [go_sem,hN,Foot.c];refine ⟨by simp [sepD,List.zipIdx]<;>kernel_rfl,?_⟩;refine qaj (c_w2 _ (hg' _)) ?_;rintro r h' ⟨rfl,rfl⟩;simp -dsimp [go_sem,hN,Foot.c];refine qaj (c_w3 _ (hg' _)) ?_;rintro r h' ⟨rfl,rfl⟩;simp -dsimp [go_sem,hN,Foot.c];refine qaj (c_w4 _ (hg' _)) ?_;rintro r h' ⟨rfl,rfl⟩;simp -dsimp [go_sem,hN,Foot.c];refine qaj (c_w5 _ (hg' _)) ?_;rintro r h' ⟨rfl,rfl⟩;simp -dsimp [go_sem,hN,Foot.c];refine qak 38 mixed (by kernel_rfl) (by kernel_rfl) ?_;simp -dsimp [go_sem,hN];refine qa9 (c_sm ⟨false,[bx],[by']⟩ (by kernel_rfl)) (by simp) ?_;simp -dsimp [go_sem,hN];refine qa9 (c_sm ⟨false,[ba],[bb,bc]⟩ (by kernel_rfl)) (by simp) ?_;simp -dsimp [go_sem,hN];refine qa9 (c_sm ⟨false,[ba],[bz]⟩ (by kernel_rfl)) (by simp) ?_;simp -dsimp [go_sem,hN];refine qa9 (c_sm ⟨false,[ba],[bc]⟩ (by kernel_rfl)) (by simp) ?_;simp -dsimp [go_sem,hN];refine tdcall_at (fun _=>at_tab c_w6 (hg' _)) (by simp) ?_;simp -dsimp [go_sem,hN,Foot.c];refine qa9 (c_sm ⟨false,[ba],[bz]⟩ (by kernel_rfl)) (by simp) ?_;simp -dsimp [go_sem,hN];refine qa9 (c_law20_key bx (by decide)) (by simp) ?_;simp -dsimp [go_sem,hN];refine qa0 (fun _=>c_w7 _ (hg' _)) (by simp) ?_ (fun h=>h);simp -dsimp [go_sem,hN,Foot.c,w7];exact ⟨_,.refl _,h,by simp [go_sem],hwk.app0 _,Nat.le_refl _,hu,rfl,rfl⟩
theorem c_law20_few (p:Proc) (args:List V) (st:List Pr) (h:qab) :
  ACalls Tryz.prog 8 [.agg p.c,.slice (args.map V.c),.slice (st.map Pr.c)] h fun r h'=>(∃ b:Bool,r=.ret (Bo b))∧h'=h:=by
 refine qaq Tryz.func8 Tryz.ntmps8 rfl (by kernel_rfl) rfl fun E hN hh hu hb hb' hua=>?_;simp [go_sem] at hb;simp -dsimp [go_sem,hN];refine qaj (c_ref08_Small p 600 _) ?_;rintro r h' ⟨⟨b,rfl⟩,rfl⟩;simp -dsimp [go_sem,hN]
 repeat refine ⟨by grind,?_⟩
 refine cnd (fun h1=>?_) (fun h1=>?_)
 ·
  simp -dsimp [go_sem,hN];exact ⟨_,.refl _,h,by simp [go_sem],hwk.app0 _,Nat.le_refl _,hu,.inl rfl,rfl⟩
 simp -dsimp [go_sem,hN];refine qao args.length (fun _=>True) (fun n=>⟨[(1,.slice (args.map V.c)),(2,.slice (st.map Pr.c)),(7,I n)],h++[.cells p.c]⟩) trivial (Wk.mk (by simp [hh]) (by simp [go_sem,Proc.c]) (by simp [hu,qal hu,go_sem]) (by simp [go_sem])) ?_;intro n hn _;have hw:=qa3 hn hb.2.1.1;simp -dsimp [go_sem,hN];refine cnd ?_ ?_<;>intro hc<;>simp at hc
 ·
  simp -dsimp [go_sem,hN,hc,V.c];refine cnd (fun h2=>?_) (fun h2=>?_)
  ·
   simp -dsimp [go_sem,hN];exact ⟨_,.refl _,h,by simp [go_sem],hwk.app0 _,Nat.le_refl _,hu,.inl rfl,rfl⟩
  ·
   simp -dsimp [go_sem,hN,hw];exact ⟨hc,wkA⟩
 simp -dsimp [go_sem,hN];refine qao st.length (fun _=>True) (fun n=>⟨[(2,.slice (st.map Pr.c)),(8,I n)],h++[.cells p.c]⟩) trivial wkA ?_;intro m hm _;have hw:=qa3 hm hb.2.2.1;simp -dsimp [go_sem,hN];refine cnd ?_ ?_<;>intro hc<;>simp at hc
 ·
  simp -dsimp [go_sem,hN,hc,Pr.c]
  repeat refine ⟨by grind,?_⟩
  refine cnd (fun h2=>?_) (fun h2=>?_)
  ·
   simp -dsimp [go_sem,hN];exact ⟨_,.refl _,h,by simp [go_sem],hwk.app0 _,Nat.le_refl _,hu,.inl rfl,rfl⟩
  ·
   simp -dsimp [go_sem,hN,hw];exact ⟨hc,wkA⟩
 ·
  simp -dsimp [go_sem,hN];exact ⟨_,.refl _,h,by simp [go_sem],hwk.app0 _,Nat.le_refl _,hu,.inr rfl,rfl⟩
end Go.Proofs.YtilhejdbiionhaaGreatDoor

set_option maxRecDepth 4000
set_option maxHeartbeats 4000000
namespace Go.Proofs.YtilhejdbiionhaaGreatDoor
open Go Go.Abs Go.Cw
theorem c_df_reads (op:Int):APure Tryz.prog 148 [I op] (Bo (rdOp op)):=by
 refine qap Tryz.func148 Tryz.ntmps148 rfl (by kernel_rfl) rfl rfl fun E h hN hh hu hb=>?_;simp -dsimp [go_sem,hN,rdOp]
theorem c_IndexFunc_Ex (l:List Ex) (f:FuncId) (z:Nat) (q:Ex→Bool) (h:qab) (hp:∀ x∈l,ACalls Tryz.prog f [.ptr z 0,.agg x.x] h fun r h'=>r=.ret (Bo (q x))∧h'=h) :
  ACalls Tryz.prog 197 [.slice (l.map Ex.c),.fn (.func f) [.ptr z 0] []] h fun r h'=>r=.ret (I (idxOf q l))∧h'=h:=by
 refine qaq Tryz.func197 Tryz.ntmps197 rfl (by kernel_rfl) rfl fun E hN hh hu hb hb' hua=>?_;simp [go_sem] at hb;simp -dsimp [go_sem,hN];refine qao l.length (fun n=>qco q n (l.drop n)=idxOf q l) (fun n=>⟨[(0,.slice (l.map Ex.c)),(1,.fn (.func f) [.ptr z 0] []),(7,I l.length),(8,I n)],h⟩) (by simp [idxOf]) (Wk.mk (by simp [hh]) (by simp) (by simp [hu]) (by simp [go_sem];simpa [go_sem] using hua)) ?_;intro n hn hI;have hw:=qa3 hn hb.1;simp -dsimp [go_sem,hN];refine cnd ?_ ?_<;>intro hc<;>simp at hc
 ·
  rw [qae hc,qco] at hI;simp -dsimp [go_sem,hN,hc];refine qaj (hp l[n] (List.getElem_mem hc)) ?_;rintro r h' ⟨rfl,rfl⟩;simp -dsimp [go_sem,hN];refine cnd ?_ ?_<;>intro hg<;>try simp at hg
  ·
   simp -dsimp [go_sem,hN];rw [if_pos hg] at hI;rw [hI];exact ⟨_,.refl _,h',by simp [go_sem],by simp [go_sem],by simp,by simp [hu,go_sem],rfl,rfl⟩
  ·
   simp -dsimp [go_sem,hN,hw];exact ⟨hc,by simpa [hg] using hI,Wk.mk (by simp [hh]) (by simp) (by simp [hu]) (by simp [go_sem];simpa [go_sem] using hua)⟩
 ·
  rw [List.drop_eq_nil_of_le (by omega),qco] at hI;simp -dsimp [go_sem,hN,← hI];exact ⟨_,.refl _,h,by simp [go_sem],by simp [go_sem],by simp,by simp [hu,go_sem],rfl,rfl⟩
theorem c_ContainsFunc_Ex (l:List Ex) (f:FuncId) (z:Nat) (q:Ex→Bool) (h:qab) (hp:∀ x∈l,ACalls Tryz.prog f [.ptr z 0,.agg x.x] h fun r h'=>r=.ret (Bo (q x))∧h'=h) :
  ACalls Tryz.prog 149 [.slice (l.map Ex.c),.fn (.func f) [.ptr z 0] []] h fun r h'=>r=.ret (Bo (anyL q l))∧h'=h:=by
 refine qaq Tryz.func149 Tryz.ntmps149 rfl (by kernel_rfl) rfl fun E hN hh hu hb hb' hua=>?_;simp -dsimp [go_sem,hN];refine qaj (c_IndexFunc_Ex l f z q h hp) ?_;rintro r h' ⟨rfl,rfl⟩;simp -dsimp [go_sem,hN,idxOf_nonneg];exact ⟨_,.refl _,h',by simp [go_sem],by simp [go_sem],by simp,by simp [hu,go_sem],rfl,rfl⟩
theorem c_IndexFunc_St (l:List St) (f:FuncId) (z:Nat) (q:St→Bool) (h:qab) (hp:∀ x∈l,ACalls Tryz.prog f [.agg x.x,.ptr z 0] h fun r h'=>r=.ret (Bo (q x))∧h'=h) :
  ACalls Tryz.prog 147 [.slice (l.map St.c),.fn (.func f) [] [.ptr z 0]] h fun r h'=>r=.ret (I (idxOf q l))∧h'=h:=by
 refine qaq Tryz.func147 Tryz.ntmps147 rfl (by kernel_rfl) rfl fun E hN hh hu hb hb' hua=>?_;simp [go_sem] at hb;simp -dsimp [go_sem,hN];refine qao l.length (fun n=>qco q n (l.drop n)=idxOf q l) (fun n=>⟨[(0,.slice (l.map St.c)),(1,.fn (.func f) [] [.ptr z 0]),(7,I l.length),(8,I n)],h⟩) (by simp [idxOf]) (Wk.mk (by simp [hh]) (by simp) (by simp [hu]) (by simp [go_sem];simpa [go_sem] using hua)) ?_;intro n hn hI;have hw:=qa3 hn hb.1;simp -dsimp [go_sem,hN];refine cnd ?_ ?_<;>intro hc<;>simp at hc
 ·
  rw [qae hc,qco] at hI;simp -dsimp [go_sem,hN,hc];refine qaj (hp l[n] (List.getElem_mem hc)) ?_;rintro r h' ⟨rfl,rfl⟩;simp -dsimp [go_sem,hN];refine cnd ?_ ?_<;>intro hg<;>try simp at hg
  ·
   simp -dsimp [go_sem,hN];rw [if_pos hg] at hI;rw [hI];exact ⟨_,.refl _,h',by simp [go_sem],by simp [go_sem],by simp,by simp [hu,go_sem],rfl,rfl⟩
  ·
   simp -dsimp [go_sem,hN,hw];exact ⟨hc,by simpa [hg] using hI,Wk.mk (by simp [hh]) (by simp) (by simp [hu]) (by simp [go_sem];simpa [go_sem] using hua)⟩
 ·
  rw [List.drop_eq_nil_of_le (by omega),qco] at hI;simp -dsimp [go_sem,hN,← hI];exact ⟨_,.refl _,h,by simp [go_sem],by simp [go_sem],by simp,by simp [hu,go_sem],rfl,rfl⟩
theorem c_ContainsFunc_St (l:List St) (f:FuncId) (z:Nat) (q:St→Bool) (h:qab) (hp:∀ x∈l,ACalls Tryz.prog f [.agg x.x,.ptr z 0] h fun r h'=>r=.ret (Bo (q x))∧h'=h) :
  ACalls Tryz.prog 89 [.slice (l.map St.c),.fn (.func f) [] [.ptr z 0]] h fun r h'=>r=.ret (Bo (anyL q l))∧h'=h:=by
 refine qaq Tryz.func89 Tryz.ntmps89 rfl (by kernel_rfl) rfl fun E hN hh hu hb hb' hua=>?_;simp -dsimp [go_sem,hN];refine qaj (c_IndexFunc_St l f z q h hp) ?_;rintro r h' ⟨rfl,rfl⟩;simp -dsimp [go_sem,hN,idxOf_nonneg];exact ⟨_,.refl _,h',by simp [go_sem],by simp [go_sem],by simp,by simp [hu,go_sem],rfl,rfl⟩
abbrev dfC (p:Proc) (c:Nat):List AV:=[S p.name,.slice (p.params.map Param.c),.slice (p.body.map St.c),.mapr c]
theorem kGet_tru (s:qac):∀ (C:List qac),qbm (tru C) s=if hasK C s=true then some true else none
 | []=>by simp [qbm,hasK,anyL]
 | x::C=>by
  have ih:=kGet_tru s C;by_cases h:x=s
  · simp [qbm,hasK,anyL,h]
  ·
   simp only [tru,List.map_cons,qbm,if_neg h];rw [show (List.map (fun s=>(s,true)) C)=tru C from rfl,ih];simp [hasK,anyL,h];rfl
theorem look_tru (C:List qac) (s:qac):(Option.map boAV (qbm (tru C) s)).getD (Bo false)=Bo (hasK C s):=by
 rw [kGet_tru];by_cases h:hasK C s=true
 · simp [h,boAV]
 · simp [h]
theorem look_bo (C:List qac) (s:qac):(kvGet (C.map ((fun p:qac×Bool=>(p.1,boAV p.2))∘fun s=>(s,true))) s).getD (Bo false)=Bo (hasK C s):=by
 rw [← List.map_map];show (kvGet ((tru C).map fun p=>(p.1,boAV p.2)) s).getD _=_;rw [kvGet_map];exact look_tru C s
theorem qdv (e:Ex) (C:List qac) (p:Proc) (z c:Nat) (h:qab) (hz:h[z]?=some (.cells (dfC p c))) (hc:h[c]?=some (setO C)) :
  ACalls Tryz.prog 91 [.ptr z 0,.agg e.x] h fun r h'=>r=.ret (Bo (tntE C e))∧h'=h:=by
 refine qaq Tryz.func91 Tryz.ntmps91 rfl (by kernel_rfl) rfl fun E hN hh hu hb hb' hua=>?_;have hzl:z<h.length:=(List.getElem?_eq_some_iff.1 hz).1;have hcl:c<h.length:=(List.getElem?_eq_some_iff.1 hc).1;have hz':∀ l:qab,(h++l)[z]?=some (.cells (dfC p c)):=fun l=>by rw [List.getElem?_append_left hzl];exact hz
 have hc':∀ l:qab,(h++l)[c]?=some (setO C):=fun l=>by rw [List.getElem?_append_left hcl];exact hc
 have hk:=look_bo C e.s;have hcf:=fun H h1 h2=>c_ContainsFunc_Ex e.args 91 z (tntE C) H fun x hx=>by
  have:=Ex.arg_lt hx;exact qdv x C p z c H h1 h2
 rw [tntE_eq,tntEL_any];simp -dsimp [go_sem,hN];refine qak 23 mixed (by kernel_rfl) (by kernel_rfl) ?_;simp -dsimp [go_sem,hN];refine qa9 (c_df_reads e.op) (by simp) ?_;simp -dsimp [go_sem,hN,hz',hc',hk];refine ⟨by grind,qa0 (fun _=>hcf _ (hz' _) (hc' _)) (by simp) ?_ (fun h=>h)⟩;simp -dsimp [go_sem,hN]
 repeat refine ⟨by grind,?_⟩
 exact ⟨_,.refl _,h,by simp [go_sem],hwk.app0 _,Nat.le_refl _,hu,by simp,rfl⟩
termination_by SizeOf.sizeOf e
theorem c_df_operand (e:Ex) (C:List qac) (p:Proc) (z c:Nat) (h:qab) (hz:h[z]?=some (.cells (dfC p c))) (hc:h[c]?=some (setO C)) :
  ACalls Tryz.prog 92 [.ptr z 0,.agg e.x] h fun r h'=>r=.ret (Bo (opnE C e))∧h'=h:=by
 refine qaq Tryz.func92 Tryz.ntmps92 rfl (by kernel_rfl) rfl fun E hN hh hu hb hb' hua=>?_;have hzl:z<h.length:=(List.getElem?_eq_some_iff.1 hz).1;have hcl:c<h.length:=(List.getElem?_eq_some_iff.1 hc).1;have hz':∀ l:qab,(h++l)[z]?=some (.cells (dfC p c)):=fun l=>by rw [List.getElem?_append_left hzl];exact hz
 have hc':∀ l:qab,(h++l)[c]?=some (setO C):=fun l=>by rw [List.getElem?_append_left hcl];exact hc
 have hcf:=fun H h1 h2=>c_ContainsFunc_Ex e.args 91 z (tntE C) H fun x hx=>qdv x C p z c H h1 h2;have hco:=fun H h1 h2=>c_ContainsFunc_Ex e.args 92 z (opnE C) H fun x hx=>by
  have:=Ex.arg_lt hx;exact c_df_operand x C p z c H h1 h2
 rw [opnE_eq,tntEL_any,opnEL_any];simp -dsimp [go_sem,hN];refine qaa (c_df_reads e.op) ?_;simp -dsimp [go_sem,hN];refine qa0 (fun _=>hcf _ (hz' _) (hc' _)) (by simp) ?_ (fun h=>h);simp -dsimp [go_sem,hN]
 repeat refine ⟨by grind,?_⟩
 refine qa0 (fun _=>hco _ (hz' _) (hc' _)) (by simp) ?_ (fun h=>h);simp -dsimp [go_sem,hN]
 repeat refine ⟨by grind,?_⟩
 exact ⟨_,.refl _,h,by simp [go_sem],hwk.app0 _,Nat.le_refl _,hu,by simp,rfl⟩
termination_by SizeOf.sizeOf e
mutual
theorem c_df_keys1 (t:St) (C:List qac) (p:Proc) (z c b:Nat) (h:qab) (hz:h[z]?=some (.cells (dfC p c))) (hc:h[c]?=some (setO C)) (hbx:h[b]?=some (.cells [.ptr z 0])) :
  ACalls Tryz.prog 90 [.agg t.x,.ptr b 0] h fun r h'=>r=.ret (Bo (keyT C t))∧h'=h:=by
 refine qaq Tryz.func90 Tryz.ntmps90 rfl (by kernel_rfl) rfl fun E hN hh hu hb hb' hua=>?_;have hzl:z<h.length:=(List.getElem?_eq_some_iff.1 hz).1;have hcl:c<h.length:=(List.getElem?_eq_some_iff.1 hc).1;have hbl:b<h.length:=(List.getElem?_eq_some_iff.1 hbx).1;have hz':∀ l:qab,(h++l)[z]?=some (.cells (dfC p c)):=fun l=>by rw [List.getElem?_append_left hzl];exact hz
 have hc':∀ l:qab,(h++l)[c]?=some (setO C):=fun l=>by rw [List.getElem?_append_left hcl];exact hc
 have hb2:∀ l:qab,(h++l)[b]?=some (.cells [.ptr z 0]):=fun l=>by rw [List.getElem?_append_left hbl];exact hbx
 have h1:=fun e H=>qdv e C p z c H;have h2:=fun e H=>c_df_operand e C p z c H;have hlB:SizeOf.sizeOf t.body<SizeOf.sizeOf t:=by cases t;simp [St.body];omega
 have hlE:SizeOf.sizeOf t.els<SizeOf.sizeOf t:=by cases t;simp [St.els];omega
 have h3:=fun H x y=>c_df_keys t.body C p z c H x y;have h4:=fun H x y=>c_df_keys t.els C p z c H x y;rw [keyT_eq];simp -dsimp [go_sem,hN,hb2]
 repeat refine ⟨by grind,?_⟩
 refine qa0 (fun _=>h1 t.a _ (hz' _) (hc' _)) (by simp) ?_ (fun h=>h);simp -dsimp [go_sem,hN,hb2]
 repeat refine ⟨by grind,?_⟩
 refine qa0 (fun _=>h2 t.a _ (hz' _) (hc' _)) (by simp) ?_ (fun h=>h);simp -dsimp [go_sem,hN,hb2]
 repeat refine ⟨by grind,?_⟩
 refine qa0 (fun _=>h2 t.b _ (hz' _) (hc' _)) (by simp) ?_ (fun h=>h);simp -dsimp [go_sem,hN,hb2]
 repeat refine ⟨by grind,?_⟩
 refine qa0 (fun _=>h3 _ (hz' _) (hc' _)) (by simp) ?_ (fun h=>h);simp -dsimp [go_sem,hN,hb2]
 repeat refine ⟨by grind,?_⟩
 refine qa0 (fun _=>h4 _ (hz' _) (hc' _)) (by simp) ?_ (fun h=>h);simp -dsimp [go_sem,hN,hb2]
 repeat refine ⟨by grind,?_⟩
 exact ⟨_,.refl _,h,by simp [go_sem],hwk.app0 _,Nat.le_refl _,hu,by simp,rfl⟩
termination_by (SizeOf.sizeOf t,0)
theorem c_df_keys (l:List St) (C:List qac) (p:Proc) (z c:Nat) (h:qab) (hz:h[z]?=some (.cells (dfC p c))) (hc:h[c]?=some (setO C)) :
  ACalls Tryz.prog 59 [.ptr z 0,.slice (l.map St.c)] h fun r h'=>r=.ret (Bo (keyTL C l))∧h'=h:=by
 refine qaq Tryz.func59 Tryz.ntmps59 rfl (by kernel_rfl) rfl fun E hN hh hu hb hb' hua=>?_;have hzl:z<h.length:=(List.getElem?_eq_some_iff.1 hz).1;have hcl:c<h.length:=(List.getElem?_eq_some_iff.1 hc).1;have hz':∀ l:qab,(h++l)[z]?=some (.cells (dfC p c)):=fun l=>by rw [List.getElem?_append_left hzl];exact hz
 have hc':∀ l:qab,(h++l)[c]?=some (setO C):=fun l=>by rw [List.getElem?_append_left hcl];exact hc
 have hcf:=c_ContainsFunc_St l 90 h.length (keyT C) (h++[.cells [.ptr z 0]]) fun x hx=>by
  have:=List.sizeOf_lt_of_mem hx;exact c_df_keys1 x C p z c h.length (h++[.cells [.ptr z 0]]) (hz' _) (hc' _) (by simp)
 rw [keyTL_any];simp -dsimp [go_sem,hN];refine qaj hcf ?_;rintro r h' ⟨rfl,rfl⟩;simp -dsimp [go_sem,hN];exact ⟨_,.refl _,h,by simp [go_sem],hwk.app0 _,Nat.le_refl _,hu,rfl,rfl⟩
termination_by (SizeOf.sizeOf l,1)
end
mutual
theorem c_df_branches1 (t:St) (C:List qac) (p:Proc) (z c b:Nat) (h:qab) (hz:h[z]?=some (.cells (dfC p c))) (hc:h[c]?=some (setO C)) (hbx:h[b]?=some (.cells [.ptr z 0])) :
  ACalls Tryz.prog 93 [.agg t.x,.ptr b 0] h fun r h'=>r=.ret (Bo (brT C t))∧h'=h:=by
 refine qaq Tryz.func93 Tryz.ntmps93 rfl (by kernel_rfl) rfl fun E hN hh hu hb hb' hua=>?_;have hzl:z<h.length:=(List.getElem?_eq_some_iff.1 hz).1;have hcl:c<h.length:=(List.getElem?_eq_some_iff.1 hc).1;have hbl:b<h.length:=(List.getElem?_eq_some_iff.1 hbx).1;have hz':∀ l:qab,(h++l)[z]?=some (.cells (dfC p c)):=fun l=>by rw [List.getElem?_append_left hzl];exact hz
 have hc':∀ l:qab,(h++l)[c]?=some (setO C):=fun l=>by rw [List.getElem?_append_left hcl];exact hc
 have hb2:∀ l:qab,(h++l)[b]?=some (.cells [.ptr z 0]):=fun l=>by rw [List.getElem?_append_left hbl];exact hbx
 have h1:=fun e H=>qdv e C p z c H;have hlB:SizeOf.sizeOf t.body<SizeOf.sizeOf t:=by cases t;simp [St.body];omega
 have hlE:SizeOf.sizeOf t.els<SizeOf.sizeOf t:=by cases t;simp [St.els];omega
 have h3:=fun H x y=>c_df_branches t.body C p z c H x y;have h4:=fun H x y=>c_df_branches t.els C p z c H x y;rw [brT_eq];simp -dsimp [go_sem,hN,hb2]
 repeat refine ⟨by grind,?_⟩
 refine qa0 (fun _=>h1 t.a _ (hz' _) (hc' _)) (by simp) ?_ (fun h=>h);simp -dsimp [go_sem,hN,hb2]
 repeat refine ⟨by grind,?_⟩
 refine qa0 (fun _=>h1 t.a _ (hz' _) (hc' _)) (by simp) ?_ (fun h=>h);simp -dsimp [go_sem,hN,hb2]
 repeat refine ⟨by grind,?_⟩
 refine qa0 (fun _=>h1 t.b _ (hz' _) (hc' _)) (by simp) ?_ (fun h=>h);simp -dsimp [go_sem,hN,hb2]
 repeat refine ⟨by grind,?_⟩
 refine qa0 (fun _=>h3 _ (hz' _) (hc' _)) (by simp) ?_ (fun h=>h);simp -dsimp [go_sem,hN,hb2]
 repeat refine ⟨by grind,?_⟩
 refine qa0 (fun _=>h4 _ (hz' _) (hc' _)) (by simp) ?_ (fun h=>h);simp -dsimp [go_sem,hN,hb2]
 repeat refine ⟨by grind,?_⟩
 exact ⟨_,.refl _,h,by simp [go_sem],hwk.app0 _,Nat.le_refl _,hu,by simp,rfl⟩
termination_by (SizeOf.sizeOf t,0)
theorem c_df_branches (l:List St) (C:List qac) (p:Proc) (z c:Nat) (h:qab) (hz:h[z]?=some (.cells (dfC p c))) (hc:h[c]?=some (setO C)) :
  ACalls Tryz.prog 60 [.ptr z 0,.slice (l.map St.c)] h fun r h'=>r=.ret (Bo (brTL C l))∧h'=h:=by
 refine qaq Tryz.func60 Tryz.ntmps60 rfl (by kernel_rfl) rfl fun E hN hh hu hb hb' hua=>?_;have hzl:z<h.length:=(List.getElem?_eq_some_iff.1 hz).1;have hcl:c<h.length:=(List.getElem?_eq_some_iff.1 hc).1;have hz':∀ l:qab,(h++l)[z]?=some (.cells (dfC p c)):=fun l=>by rw [List.getElem?_append_left hzl];exact hz
 have hc':∀ l:qab,(h++l)[c]?=some (setO C):=fun l=>by rw [List.getElem?_append_left hcl];exact hc
 have hcf:=c_ContainsFunc_St l 93 h.length (brT C) (h++[.cells [.ptr z 0]]) fun x hx=>by
  have:=List.sizeOf_lt_of_mem hx;exact c_df_branches1 x C p z c h.length (h++[.cells [.ptr z 0]]) (hz' _) (hc' _) (by simp)
 rw [brTL_any];simp -dsimp [go_sem,hN];refine qaj hcf ?_;rintro r h' ⟨rfl,rfl⟩;simp -dsimp [go_sem,hN];exact ⟨_,.refl _,h,by simp [go_sem],hwk.app0 _,Nat.le_refl _,hu,rfl,rfl⟩
termination_by (SizeOf.sizeOf l,1)
end
end Go.Proofs.YtilhejdbiionhaaGreatDoor
