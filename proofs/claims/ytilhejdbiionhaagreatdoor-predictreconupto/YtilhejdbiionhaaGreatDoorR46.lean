/- Part 46 of a proof: W66c, W75a, W142, W52, W143, W144, OP, LB -/
import Derived.Test.YtilhejdbiionhaaGreatDoorRows
import Derived.KernelRfl
import Derived.Test.YtilhejdbiionhaaGreatDoorCards
import Derived.Test.YtilhejdbiionhaaGreatDoorTie
import Derived.ProofKit
import Derived.OpenShut
import Derived.Carry
import Derived.Deep.DeepHandedRow
import Derived.Lib.LaidTab
import Derived.Stop.LaidErr
import Derived.Test.YtilhejdbiionhaaGreatDoorR13
import Derived.Test.YtilhejdbiionhaaGreatDoorR20
import Derived.Test.YtilhejdbiionhaaGreatDoorR22
import Derived.Test.YtilhejdbiionhaaGreatDoorR24
import Derived.Test.YtilhejdbiionhaaGreatDoorR30
import Derived.Test.YtilhejdbiionhaaGreatDoorR31
import Derived.Test.YtilhejdbiionhaaGreatDoorR32
import Derived.Test.YtilhejdbiionhaaGreatDoorR34
import Derived.Test.YtilhejdbiionhaaGreatDoorR35
import Derived.Test.YtilhejdbiionhaaGreatDoorR39
import Derived.Test.YtilhejdbiionhaaGreatDoorR41
import Derived.Test.YtilhejdbiionhaaGreatDoorR45
set_option linter.all false

set_option maxRecDepth 4000
set_option maxHeartbeats 2000000
namespace Go.Proofs.YtilhejdbiionhaaGreatDoor
open Go Go.Abs Go.Cw
theorem c_ref04_Same(l l':List qac):APure Tryz.prog 34 [.slice (l.map qa1),.slice (l'.map qa1)] (Bo (sameL eqB l l')):=by
 refine qak Tryz.func34 Tryz.ntmps34 rfl (by kernel_rfl) rfl rfl fun E h hN hh hu hb=>?_;simp[go_sem]at hb;simp-dsimp[go_sem,hN];refine cnd ?_ ?_<;>intro h0<;>simp at h0
 ·simp-dsimp[go_sem,hN];exact sameL_len (by omega)
 simp-dsimp[go_sem,hN];refine qam l.length (fun n=>sameL eqB (l.drop n) (l'.drop n)=sameL eqB l l') (fun n=>⟨[(0,.slice (l.map qa1)),(1,.slice (l'.map qa1)),(5,I n)],h⟩) (by simp) wkA ?_;intro n hn hI;have hw:=qa2 hn hb.1.1;simp-dsimp[go_sem,hN];refine cnd ?_ ?_<;>intro hc<;>simp at hc
 ·have hc':n<l'.length:=by omega
  rw[qaf hc,qaf hc',sameL]at hI;simp-dsimp[go_sem,hN,hc,hc'];refine qai 8 mixed (by kernel_rfl) (by kernel_rfl) ?_;simp-dsimp[go_sem,hN,hc,hc'];refine cnd ?_ ?_<;>intro hg<;>simp at hg
  ·simp-dsimp[go_sem,hN];rw[←hI];simp[eqB,eqVal];grind
  ·simp-dsimp[go_sem,hN,hw];refine⟨hc,?_,wkA⟩;rw[←hI];simp[eqB,eqVal,hg]
 ·rw[List.drop_eq_nil_of_le (by omega),List.drop_eq_nil_of_le (by omega),sameL]at hI;simp-dsimp[go_sem,hN,←hI]
theorem c_ref19_Same(a b:Foot):APure Tryz.prog 12 [.agg a.c,.agg b.c] (Bo (decide (a.all=b.all)&&sameL eqB a.reads b.reads&&sameL eqB a.writes b.writes)):=by
 refine qak Tryz.func12 Tryz.ntmps12 rfl (by kernel_rfl) rfl rfl fun E h hN hh hu hb=>?_;simp-dsimp[go_sem,hN,Foot.c];refine qae (c_ref04_Same a.reads b.reads) (by simp) ?_;simp-dsimp[go_sem,hN];refine qae (c_ref04_Same a.writes b.writes) (by simp) ?_;simp-dsimp[go_sem,hN]
theorem c_ref19_Of(e:Eff):APure Tryz.prog 32 [.agg e.c] (.agg (ftOf e).c):=by
 refine qak Tryz.func32 Tryz.ntmps32 rfl (by kernel_rfl) rfl rfl fun E h hN hh hu hb=>?_;simp-dsimp[go_sem,hN,Eff.c,Foot.c]
theorem c_ref20_Recon(p:Proc)(args:List V)(st:List Pr)(hI:RunIn qbc p args st) :
  APure Tryz.prog 11 [.agg p.c,.slice (args.map V.c),.slice (st.map Pr.c)] (.tuple [.agg (reconS qbc p args st).1.c,I (reconS qbc p args st).2]):=by
 refine qak Tryz.func11 Tryz.ntmps11 rfl (by kernel_rfl) rfl rfl fun E h hN hh hu hb=>?_;have hfree:=c_ref15_Free p args st hI;obtain⟨X,hX⟩:∃X,runS qbc p args st ⟨true,[],[]⟩=X:=⟨_,rfl⟩
 have hR:reconS qbc p args st=if qbv p≠0∨qcl p args≠0∨qb7 st=false then(⟨false,[],[]⟩,1)else(ftOf X,0):=by rw[←hX];rfl
 rw[hX]at hfree;obtain⟨R,hR2⟩:∃R,reconS qbc p args st=R:=⟨_,rfl⟩
 rw[hR2]at hR⊢;simp-dsimp[go_sem,hN];refine qaa (c_ref13_Check p) ?_;simp-dsimp[go_sem,hN];refine qae (c_ref11_Args p args) (by simp) ?_;simp-dsimp[go_sem,hN];refine qae (c_ref06_Valid st) (by simp) ?_;simp-dsimp[go_sem,hN];refine cnd ?_ ?_<;>intro h0<;>simp at h0
 ·rw[if_pos (by grind)]at hR;subst hR;simp-dsimp[go_sem,hN,Foot.c]
 ·rw[if_neg (by grind)]at hR;subst hR;simp-dsimp[go_sem,hN];refine qaa hfree ?_;simp-dsimp[go_sem,hN];refine qaa (c_ref19_Of X) ?_;simp-dsimp[go_sem,hN,Foot.c]
end Go.Proofs.YtilhejdbiionhaaGreatDoor

set_option maxRecDepth 4000
set_option maxHeartbeats 2000000
namespace Go.Proofs.YtilhejdbiionhaaGreatDoor
open Go Go.Abs Go.Cw
theorem c_ref08_countExpr(e:Ex)(d:Int)(h:qab):ACalls Tryz.prog 94 [.agg e.x,I d] h fun r h'=>(∃n:Int,r=.ret (I n))∧h'=h:=by
 refine qaz Tryz.func94 Tryz.ntmps94 rfl (by kernel_rfl) rfl fun E hN hh hu hb hb' hua=>?_;simp[go_sem]at hb;simp-dsimp[go_sem,hN];refine qap (α:=Int) e.args.length (fun n v=>True) (fun n v=>⟨[(1,I d),(2,.ptr h.length 0),(5,I v),(6,I n)],h++[.cells e.x]⟩) (IntKind.i64.wrap (1+IntKind.i64.wrap ((e.s.size:Int) / 64))) trivial ?_ ?_
 ·exact wkA
 rintro n v hn -;have hw:=qa2 hn (show _≤68719476736 by omega);by_cases hc:n<e.args.length
 ·have hlt:SizeOf.sizeOf e.args[n]<SizeOf.sizeOf e:=Ex.arg_lt (List.getElem_mem hc);simp-dsimp[go_sem,hN,hc];refine cnd ?_ ?_<;>intro hd<;>simp at hd
  ·simp-dsimp[go_sem,hN,hc];refine qaj (c_ref08_countExpr e.args[n] _ _) ?_;rintro r h' ⟨⟨k,rfl⟩,rfl⟩;simp-dsimp[go_sem,hN,hw];exact⟨hc,IntKind.i64.wrap (v+k),wkA⟩
  ·simp-dsimp[go_sem,hN];exact⟨_,.refl _,h,by simp[go_sem],by simp[go_sem],by simp,hu,⟨_,rfl⟩,rfl⟩
 ·simp-dsimp[go_sem,hN,hc];exact⟨_,.refl _,h,by simp[go_sem],by simp[go_sem],by simp,hu,⟨_,rfl⟩,rfl⟩
termination_by SizeOf.sizeOf e
theorem St.body_sz(s:St):SizeOf.sizeOf s.body<SizeOf.sizeOf s:=by
 cases s;simp[St.body];omega
theorem St.els_sz(s:St):SizeOf.sizeOf s.els<SizeOf.sizeOf s:=by
 cases s;simp[St.els];omega
theorem c_ref08_countBody(l:List St)(d:Int)(h:qab):ACalls Tryz.prog 61 [.slice (l.map St.c),I d] h fun r h'=>(∃n:Int,r=.ret (I n))∧h'=h:=by
 refine qaz Tryz.func61 Tryz.ntmps61 rfl (by kernel_rfl) rfl fun E hN hh hu hb hb' hua=>?_;simp[go_sem]at hb;simp-dsimp[go_sem,hN];refine qap (α:=Int) l.length (fun n v=>True) (fun n v=>⟨[(0,.slice (l.map St.c)),(1,I d),(5,I v),(6,I n)],h⟩) 0 trivial ?_ ?_
 ·exact Wk.mk (by simp[hh]) (by simp[go_sem]) (by simp[hu,qan hu,go_sem]) (by simpa[go_sem]using hua)
 rintro n v hn -;have hw:=qa2 hn (show _≤68719476736 by omega);by_cases hc:n<l.length
 ·have hlt:SizeOf.sizeOf l[n]<SizeOf.sizeOf l:=List.sizeOf_lt_of_mem (List.getElem_mem hc);have hlb:=St.body_sz l[n];have hle:=St.els_sz l[n];have e1:=fun d H=>c_ref08_countExpr l[n].a d H;have e2:=fun d H=>c_ref08_countExpr l[n].b d H;have e3:=fun d H=>c_ref08_countBody l[n].body d H;have e4:=fun d H=>c_ref08_countBody l[n].els d H;simp-dsimp[go_sem,hN,hc];refine cnd ?_ ?_<;>intro hd<;>simp at hd
  ·simp-dsimp[go_sem,hN,hc];refine qaj (e1 _ _) ?_;rintro r h' ⟨⟨k1,rfl⟩,rfl⟩;simp-dsimp[go_sem,hN,hc];refine qaj (e2 _ _) ?_;rintro r h' ⟨⟨k2,rfl⟩,rfl⟩;simp-dsimp[go_sem,hN,hc];refine qaj (e3 _ _) ?_;rintro r h' ⟨⟨k3,rfl⟩,rfl⟩;simp-dsimp[go_sem,hN,hc];refine qaj (e4 _ _) ?_;rintro r h' ⟨⟨k4,rfl⟩,rfl⟩;simp-dsimp[go_sem,hN,hc,hw];exact⟨IntKind.i64.wrap (IntKind.i64.wrap (IntKind.i64.wrap (IntKind.i64.wrap (IntKind.i64.wrap (IntKind.i64.wrap (v+1)+IntKind.i64.wrap ((l[n].name.size:Int) / 64))+k1)+k2)+k3)+k4),Wk.mk (by simp[hh]) (by simp[go_sem]) (by simp[hu,qan hu,go_sem]) (by simpa[go_sem]using hua)⟩
  ·simp-dsimp[go_sem,hN];exact⟨_,.refl _,h,by simp[go_sem],by simp[go_sem],by simp,hu,⟨_,rfl⟩,rfl⟩
 ·simp-dsimp[go_sem,hN,hc];exact⟨_,.refl _,h,by simp[go_sem],by simp[go_sem],by simp,hu,⟨_,rfl⟩,rfl⟩
termination_by SizeOf.sizeOf l
decreasing_by all_goals omega
theorem c_ref08_Small(p:Proc)(d:Int)(h:qab):ACalls Tryz.prog 25 [.agg p.c,I d] h fun r h'=>(∃b:Bool,r=.ret (Bo b))∧h'=h:=by
 refine qaz Tryz.func25 Tryz.ntmps25 rfl (by kernel_rfl) rfl fun E hN hh hu hb hb' hua=>?_;simp[go_sem,Proc.c]at hb;simp-dsimp[go_sem,hN,Proc.c];by_cases h1:(40:Int)<(p.params.length:Int)
 ·simp-dsimp[go_sem,hN,h1];exact⟨_,.refl _,h,by simp[go_sem],by simp[go_sem],by simp,hu,.inl rfl,rfl⟩
 by_cases h2:(200:Int)<(p.name.size:Int)
 ·simp-dsimp[go_sem,hN,h1,h2];exact⟨_,.refl _,h,by simp[go_sem],by simp[go_sem],by simp,hu,.inl rfl,rfl⟩
 simp-dsimp[go_sem,hN,h1,h2];refine qam p.params.length (fun n=>True) (fun n=>⟨[(1,I d),(2,P0 h.length),(5,I n)],h++[.cells p.c]⟩) trivial ?_ ?_
 ·exact Wk.mk (by simp[hh]) (by simp[go_sem,Proc.c]) (by simp[hu,qan hu,go_sem]) (by simp[go_sem])
 intro n hn _;have hw:=qa2 hn (show _≤68719476736 by omega);simp-dsimp[go_sem,hN,Proc.c];refine cnd ?_ ?_<;>intro hc<;>simp at hc
 ·by_cases h3:(200:Int)<(p.params[n].name.size:Int)
  ·simp-dsimp[go_sem,hN,hc,h3,Param.c];exact⟨_,.refl _,h,by simp[go_sem],by simp[go_sem],by simp,hu,.inl rfl,rfl⟩
  ·simp-dsimp[go_sem,hN,hc,h3,hw,Param.c];exact Wk.mk (by simp[hh]) (by simp[go_sem,Proc.c]) (by simp[hu,qan hu,go_sem]) (by simp[go_sem])
 ·simp-dsimp[go_sem,hN,Proc.c];refine qaj (c_ref08_countBody p.body d _) ?_;rintro r h' ⟨⟨k,rfl⟩,rfl⟩;simp-dsimp[go_sem,hN];exact⟨_,.refl _,h,by simp[go_sem],by simp[go_sem],by simp,hu,by by_cases hk:k≤d<;>simp[hk],rfl⟩
end Go.Proofs.YtilhejdbiionhaaGreatDoor

set_option maxRecDepth 8000
set_option maxHeartbeats 4000000
namespace Go.Proofs.YtilhejdbiionhaaGreatDoor
open Go Go.Abs Go.Cw
variable {tT:TypeId} {tx:Nat×Nat} {g:Nat}
def planS(fmt:Int→qac)(p:Proc)(args:List V)(st:List Pr):Foot :=
 if (statS fmt p args).2=0 then(statS fmt p args).1 else if (reconS fmt p args st).2=0 then(reconS fmt p args st).1 else⟨true,[],[]⟩
theorem runIn_nil{fmt:Int→qac}{p:Proc}{args:List V}{st:List Pr}(h:RunIn fmt p args st):RunIn fmt p args []:=⟨h.fmt,h.body,h.args,by simp⟩
theorem c_pr_Plan(p:Proc)(args:List V)(st:List Pr)(h:qab)(hg:h[g]?=some (tabO tT tx))(hI:RunIn qbc p args st) :
  ACalls Tryz.prog 29 [.agg p.c,.slice (args.map V.c),.slice (st.map Pr.c)] h fun r h'=>r=.ret (.agg (planS qbc p args st).c)∧h'=h:=by
 refine qaz Tryz.func29 Tryz.ntmps29 rfl (by kernel_rfl) rfl fun E hN hh hu hb hb' hua=>?_;have hgl:g<h.length:=(List.getElem?_eq_some_iff.1 hg).1;have hg':∀l:qab,(h++l)[g]?=some (tabO tT tx):=fun l=>by rw[List.getElem?_append_left hgl];exact hg
 have hs:=fun H hH=>c_pr_Static (g:=g) (tT:=tT) (tx:=tx) p args H hH (runIn_nil hI);have hr:=fun H hH=>qeg (g:=g) (tT:=tT) (tx:=tx) p args st H hH hI;obtain⟨R,hR⟩:∃R,planS qbc p args st=R:=⟨_,rfl⟩
 rw[hR];unfold planS at hR;obtain⟨⟨f1,e1⟩,h1⟩:∃R,statS qbc p args=R:=⟨_,rfl⟩
 obtain⟨⟨f2,e2⟩,h2⟩:∃R,reconS qbc p args st=R:=⟨_,rfl⟩
 rw[h1]at hs hR;rw[h2]at hr hR;dsimp only at hs hr hR;simp-dsimp[go_sem,hN];refine qaj (hs _ (hg' _)) ?_;rintro r h' ⟨rfl,rfl⟩;simp-dsimp[go_sem,hN,Foot.c];refine cnd ?_ ?_<;>intro h3<;>simp at h3
 ·rw[if_pos h3]at hR;subst hR;simp-dsimp[go_sem,hN,Foot.c];exact⟨_,.refl _,h,by simp[go_sem],hwk.app0 _,Nat.le_refl _,hu,rfl,rfl⟩
 rw[if_neg h3]at hR;simp-dsimp[go_sem,hN,Foot.c];refine qaj (hr _ (hg' _)) ?_;rintro r h' ⟨rfl,rfl⟩;simp-dsimp[go_sem,hN,Foot.c];refine cnd ?_ ?_<;>intro h4<;>simp at h4
 ·rw[if_pos h4]at hR;subst hR;simp-dsimp[go_sem,hN,Foot.c];exact⟨_,.refl _,h,by simp[go_sem],hwk.app0 _,Nat.le_refl _,hu,rfl,rfl⟩
 rw[if_neg h4]at hR;subst hR;simp-dsimp[go_sem,hN,Foot.c];exact⟨_,.refl _,h,by simp[go_sem],hwk.app0 _,Nat.le_refl _,hu,rfl,rfl⟩
def ba:qac:=⟨#[97]⟩
def bb:qac:=⟨#[98]⟩
def bc:qac:=⟨#[99]⟩
def by':qac:=⟨#[121]⟩
def bz:qac:=⟨#[122]⟩
def exNo:Ex:=.mk 0 0 em []
def exVar(s:qac):Ex:=.mk 3 0 s []
def exTxt(s:qac):Ex:=.mk 2 0 s []
theorem c_law20_name(s:qac)(hs:s.size≤68719476736):APure Tryz.prog 26 [S s] (.agg (exVar s).c):=by
 refine qak Tryz.func26 Tryz.ntmps26 rfl (by kernel_rfl) rfl rfl fun E h hN hh hu hb=>?_;simp-dsimp[go_sem,hN,exVar,Ex.op,Ex.n,Ex.s,Ex.args]
theorem c_law20_text(s:qac)(hs:s.size≤68719476736):APure Tryz.prog 27 [S s] (.agg (exTxt s).c):=by
 refine qak Tryz.func27 Tryz.ntmps27 rfl (by kernel_rfl) rfl rfl fun E h hN hh hu hb=>?_;simp-dsimp[go_sem,hN,exTxt,Ex.op,Ex.n,Ex.s,Ex.args]
theorem c_law20_key(s:qac)(hs:s.size≤68719476736):APure Tryz.prog 28 [S s] (.agg (vS s).c):=by
 refine qak Tryz.func28 Tryz.ntmps28 rfl (by kernel_rfl) rfl rfl fun E h hN hh hu hb=>?_;simp-dsimp[go_sem,hN,vS,V.c]
def cpP:Proc:=⟨⟨#[99,111,112,121]⟩,[⟨ba,2⟩,⟨bb,2⟩],[.mk 1 bx 0 (.mk 22 0 em [exVar ba]) exNo [] [],.mk 3 em 0 (exVar bb) (exVar bx) [] []]⟩
def dP:Proc:=⟨⟨#[100]⟩,[],[.mk 5 em 0 (.mk 24 0 em [exTxt ba]) exNo [.mk 3 em 0 (exTxt bb) (.mk 1 1 em []) [] []] [.mk 4 em 0 (exTxt bc) exNo [] []]]⟩
def fP:Proc:=⟨⟨#[102]⟩,[],[.mk 4 em 0 (.mk 23 0 em [exTxt ba]) exNo [] []]⟩
def stW:List Pr:=[⟨ba,vS bz⟩]
theorem w1:statS qbc cpP [vS bx,vS by']=(⟨false,[bx],[by']⟩,0):=by kernel_rfl
theorem sortS_two:qdy [bb,bc]=[bb,bc]:=by
 unfold qdy bysL ofBys;rw[List.mergeSort_of_pairwise (by decide)];rfl
theorem w2:statS qbc dP []=(⟨false,[ba],[bb,bc]⟩,0):=by
 have h1:qbv dP=0:=by kernel_rfl
 have h2:qcl dP []=0:=by kernel_rfl
 have h3:(exBl qbc dP.body (initF dP.params [] fun _=>none) ⟨[],[],false⟩).2=⟨[ba],[bb,bc],false⟩:=by kernel_rfl
 have h4:qdy [ba]=[ba]:=by kernel_rfl
 unfold statS;rw[h3,if_neg (by simp[h1,h2]),if_neg (by simp),if_neg (by simp)];rw[h4,sortS_two]
theorem w3:statS qbc fP []=(⟨false,[],[]⟩,9):=by kernel_rfl
theorem w4:reconS qbc fP [] stW=(⟨false,[ba],[bz]⟩,0):=by kernel_rfl
theorem w5:reconS qbc dP [] []=(⟨false,[ba],[bc]⟩,0):=by kernel_rfl
theorem w6:planS qbc fP [] stW=⟨false,[ba],[bz]⟩:=by kernel_rfl
theorem w7:(planS qbc fP [vS bx] stW).all=true:=by kernel_rfl
theorem rngX_var(op:Int)(s:qac)(h:s.size≤64)(hop:∀x:Ex,x∈([]:List Ex)→rngX x:=by simp):rngX (.mk op 0 s []):=(qdd _).2 ⟨⟨⟨by simp[Ex.n],by simp[Ex.n]⟩,by simp[Ex.s];omega⟩,by simp[Ex.args]⟩
theorem rngX_un(op:Int)(e:Ex)(h:rngX e):rngX (.mk op 0 em [e]):=(qdd _).2 ⟨⟨⟨by simp[Ex.n],by simp[Ex.n]⟩,by simp[Ex.s,em]⟩,by simpa[Ex.args]using h⟩
theorem rngX_no:rngX exNo:=rngX_var 0 em (by decide)
theorem rngV_S(s:qac)(h:s.size≤64):qcx (vS s):=⟨⟨by simp[vS],by simp[vS]⟩,by simp only[vS];omega⟩
theorem cp_in:RunIn qbc cpP [vS bx,vS by'] []:=by
 refine⟨qcp,fun t ht=>?_,fun v hv=>?_,by simp⟩
 ·simp only[cpP,List.mem_cons,List.not_mem_nil,or_false]at ht;rcases ht with rfl|rfl
  ·exact(qec _).2 ⟨rngX_un _ _ (rngX_var _ _ (by decide)),rngX_no,by simp[St.body],by simp[St.els]⟩
  ·exact(qec _).2 ⟨rngX_var _ _ (by decide),rngX_var _ _ (by decide),by simp[St.body],by simp[St.els]⟩
 ·simp only[List.mem_cons,List.not_mem_nil,or_false]at hv;rcases hv with rfl|rfl
  ·exact rngV_S _ (by decide)
  ·exact rngV_S _ (by decide)
theorem one_rng:rngX (.mk 1 1 em []):=(qdd _).2 ⟨⟨⟨by decide,by decide⟩,by simp[Ex.s,em]⟩,by simp[Ex.args]⟩
theorem d_in:RunIn qbc dP [] []:=by
 refine⟨qcp,fun t ht=>?_,by simp,by simp⟩;simp only[dP,List.mem_cons,List.not_mem_nil,or_false]at ht;subst ht;refine(qec _).2 ⟨rngX_un _ _ (rngX_var _ _ (by decide)),rngX_no,fun x hx=>?_,fun x hx=>?_⟩
 ·simp only[St.body,List.mem_cons,List.not_mem_nil,or_false]at hx;subst hx;exact(qec _).2 ⟨rngX_var _ _ (by decide),one_rng,by simp[St.body],by simp[St.els]⟩
 ·simp only[St.els,List.mem_cons,List.not_mem_nil,or_false]at hx;subst hx;exact(qec _).2 ⟨rngX_var _ _ (by decide),rngX_no,by simp[St.body],by simp[St.els]⟩
theorem f_in(args:List V)(ha:∀v∈args,qcx v):RunIn qbc fP args stW:=by
 refine⟨qcp,fun t ht=>?_,ha,fun q hq=>?_⟩
 ·simp only[fP,List.mem_cons,List.not_mem_nil,or_false]at ht;subst ht;exact(qec _).2 ⟨rngX_un _ _ (rngX_var _ _ (by decide)),rngX_no,by simp[St.body],by simp[St.els]⟩
 ·simp only[stW,List.mem_cons,List.not_mem_nil,or_false]at hq;subst hq;exact rngV_S _ (by decide)
theorem c_w1:∀h,h[g]?=some (tabO tT tx)→ACalls Tryz.prog 13 [.agg cpP.c,.slice ([vS bx,vS by'].map V.c)] h fun e h'=>e=.ret (.tuple [.agg (Foot.c ⟨false,[bx],[by']⟩),I 0])∧h'=h:=fun h hg=>by
 have:=c_pr_Static cpP [vS bx,vS by'] h hg cp_in
 rwa [w1]at this
theorem c_w2:∀h,h[g]?=some (tabO tT tx)→ACalls Tryz.prog 13 [.agg dP.c,.slice []] h fun e h'=>e=.ret (.tuple [.agg (Foot.c ⟨false,[ba],[bb,bc]⟩),I 0])∧h'=h:=fun h hg=>by
 have:=c_pr_Static dP [] h hg d_in
 rwa [w2]at this
theorem c_w3:∀h,h[g]?=some (tabO tT tx)→ACalls Tryz.prog 13 [.agg fP.c,.slice []] h fun e h'=>e=.ret (.tuple [.agg (Foot.c ⟨false,[],[]⟩),I 9])∧h'=h:=fun h hg=>by
 have:=c_pr_Static fP [] h hg (runIn_nil (f_in [] (by simp)))
 rwa [w3]at this
theorem c_w4:∀h,h[g]?=some (tabO tT tx)→ACalls Tryz.prog 10 [.agg fP.c,.slice [],.slice (stW.map Pr.c)] h fun e h'=>e=.ret (.tuple [.agg (Foot.c ⟨false,[ba],[bz]⟩),I 0])∧h'=h:=fun h hg=>by
 have:=qeg fP [] stW h hg (f_in [] (by simp))
 rwa [w4]at this
theorem c_w5:∀h,h[g]?=some (tabO tT tx)→ACalls Tryz.prog 10 [.agg dP.c,.slice [],.slice []] h fun e h'=>e=.ret (.tuple [.agg (Foot.c ⟨false,[ba],[bc]⟩),I 0])∧h'=h:=fun h hg=>by
 have:=qeg dP [] [] h hg d_in
 rwa [w5]at this
theorem c_w6:∀h,h[g]?=some (tabO tT tx)→ACalls Tryz.prog 29 [.agg fP.c,.slice [],.slice (stW.map Pr.c)] h fun e h'=>e=.ret (.agg (Foot.c ⟨false,[ba],[bz]⟩))∧h'=h:=fun h hg=>by
 have:=c_pr_Plan fP [] stW h hg (f_in [] (by simp))
 rwa [w6]at this
theorem c_w7:∀h,h[g]?=some (tabO tT tx)→ACalls Tryz.prog 29 [.agg fP.c,.slice ([vS bx].map V.c),.slice (stW.map Pr.c)] h fun e h'=>e=.ret (.agg (planS qbc fP [vS bx] stW).c)∧h'=h:=fun h hg=>
 c_pr_Plan fP [vS bx] stW h hg (f_in [vS bx] (by simpa using rngV_S bx (by decide)))
theorem c_sm(a:Foot)(h:(decide (a.all=a.all)&&sameL eqB a.reads a.reads&&sameL eqB a.writes a.writes)=true):APure Tryz.prog 12 [.agg a.c,.agg a.c] (Bo true):=by
 have:=c_ref19_Same a a
 rwa [h]at this
@[go_sem] theorem fld_all:aFieldK Tryz.prog 32 0=some (0,4):=by kernel_rfl
theorem c_law20_works(h:qab)(hg:h[g]?=some (tabO tT tx)):ACalls Tryz.prog 9 [] h fun r h'=>r=.ret (Bo true)∧h'=h:=by
 refine qaz Tryz.func9 Tryz.ntmps9 rfl (by kernel_rfl) rfl fun E hN hh hu hb hb' hua=>?_;have hgl:g<h.length:=(List.getElem?_eq_some_iff.1 hg).1;have hg':∀l:qab,(h++l)[g]?=some (tabO tT tx):=fun l=>by rw[List.getElem?_append_left hgl];exact hg
 simp-dsimp[go_sem,hN];refine qaa (c_law20_name ba (by decide)) ?_;simp-dsimp[go_sem,hN];refine qai 11 mixed (by kernel_rfl) (by kernel_rfl) ?_;simp-dsimp[go_sem,hN];refine qax (c_law20_name bb (by decide)) (by simp) ?_;simp-dsimp[go_sem,hN];refine qax (c_law20_name bx (by decide)) (by simp) ?_;simp-dsimp[go_sem,hN];refine qaa (c_law20_text ba (by decide)) ?_;simp-dsimp[go_sem,hN];refine qai 12 mixed (by kernel_rfl) (by kernel_rfl) ?_;simp-dsimp[go_sem,hN];refine qax (c_law20_text bb (by decide)) (by simp) ?_;simp-dsimp[go_sem,hN];refine qax (c_law20_text bc (by decide)) (by simp) ?_;simp-dsimp[go_sem,hN];refine qaa (c_law20_text ba (by decide)) ?_;simp-dsimp[go_sem,hN];refine qaa (c_law20_key bz (by decide)) ?_;simp-dsimp[go_sem,hN];refine qa4 10 mixed (by kernel_rfl) ?_;simp-dsimp[go_sem,hN];refine qax (c_law20_key bx (by decide)) (by simp) ?_;simp-dsimp[go_sem,hN];refine qax (c_law20_key by' (by decide)) (by simp) ?_;simp-dsimp[go_sem,hN];refine tdcall_at (fun _=>at_tab c_w1 (hg' _)) (by simp) ?_;simp-dsimp[go_sem,hN,Foot.c];refine⟨by simp[sepD,List.zipIdx]<;>kernel_rfl,?_⟩;refine qaj (c_w2 _ (hg' _)) ?_;rintro r h' ⟨rfl,rfl⟩;simp-dsimp[go_sem,hN,Foot.c];refine qaj (c_w3 _ (hg' _)) ?_;rintro r h' ⟨rfl,rfl⟩;simp-dsimp[go_sem,hN,Foot.c];refine qaj (c_w4 _ (hg' _)) ?_;rintro r h' ⟨rfl,rfl⟩;simp-dsimp[go_sem,hN,Foot.c];refine qaj (c_w5 _ (hg' _)) ?_;rintro r h' ⟨rfl,rfl⟩;simp-dsimp[go_sem,hN,Foot.c];refine qai 38 mixed (by kernel_rfl) (by kernel_rfl) ?_;simp-dsimp[go_sem,hN];refine qax (c_sm ⟨false,[bx],[by']⟩ (by kernel_rfl)) (by simp) ?_;simp-dsimp[go_sem,hN];refine qax (c_sm ⟨false,[ba],[bb,bc]⟩ (by kernel_rfl)) (by simp) ?_;simp-dsimp[go_sem,hN];refine qax (c_sm ⟨false,[ba],[bz]⟩ (by kernel_rfl)) (by simp) ?_;simp-dsimp[go_sem,hN];refine qax (c_sm ⟨false,[ba],[bc]⟩ (by kernel_rfl)) (by simp) ?_;simp-dsimp[go_sem,hN];refine tdcall_at (fun _=>at_tab c_w6 (hg' _)) (by simp) ?_;simp-dsimp[go_sem,hN,Foot.c];refine qax (c_sm ⟨false,[ba],[bz]⟩ (by kernel_rfl)) (by simp) ?_;simp-dsimp[go_sem,hN];refine qax (c_law20_key bx (by decide)) (by simp) ?_;simp-dsimp[go_sem,hN];refine tgcall_same (fun _=>c_w7 _ (hg' _)) (by simp) ?_ (fun h=>h);simp-dsimp[go_sem,hN,Foot.c,w7];exact⟨_,.refl _,h,by simp[go_sem],hwk.app0 _,Nat.le_refl _,hu,rfl,rfl⟩
theorem c_law20_few(p:Proc)(args:List V)(st:List Pr)(h:qab) :
  ACalls Tryz.prog 8 [.agg p.c,.slice (args.map V.c),.slice (st.map Pr.c)] h fun r h'=>(∃b:Bool,r=.ret (Bo b))∧h'=h:=by
 refine qaz Tryz.func8 Tryz.ntmps8 rfl (by kernel_rfl) rfl fun E hN hh hu hb hb' hua=>?_;simp[go_sem]at hb;simp-dsimp[go_sem,hN];refine qaj (c_ref08_Small p 600 _) ?_;rintro r h' ⟨⟨b,rfl⟩,rfl⟩;simp-dsimp[go_sem,hN]
 repeat refine⟨by grind,?_⟩
 refine cnd (fun h1=>?_) (fun h1=>?_)
 ·simp-dsimp[go_sem,hN];exact⟨_,.refl _,h,by simp[go_sem],hwk.app0 _,Nat.le_refl _,hu,.inl rfl,rfl⟩
 simp-dsimp[go_sem,hN];refine qam args.length (fun _=>True) (fun n=>⟨[(1,.slice (args.map V.c)),(2,.slice (st.map Pr.c)),(7,I n)],h++[.cells p.c]⟩) trivial (Wk.mk (by simp[hh]) (by simp[go_sem,Proc.c]) (by simp[hu,qan hu,go_sem]) (by simp[go_sem])) ?_;intro n hn _;have hw:=qa2 hn hb.2.1.1;simp-dsimp[go_sem,hN];refine cnd ?_ ?_<;>intro hc<;>simp at hc
 ·simp-dsimp[go_sem,hN,hc,V.c];refine cnd (fun h2=>?_) (fun h2=>?_)
  ·simp-dsimp[go_sem,hN];exact⟨_,.refl _,h,by simp[go_sem],hwk.app0 _,Nat.le_refl _,hu,.inl rfl,rfl⟩
  ·simp-dsimp[go_sem,hN,hw];exact⟨hc,wkA⟩
 simp-dsimp[go_sem,hN];refine qam st.length (fun _=>True) (fun n=>⟨[(2,.slice (st.map Pr.c)),(8,I n)],h++[.cells p.c]⟩) trivial wkA ?_;intro m hm _;have hw:=qa2 hm hb.2.2.1;simp-dsimp[go_sem,hN];refine cnd ?_ ?_<;>intro hc<;>simp at hc
 ·simp-dsimp[go_sem,hN,hc,Pr.c]
  repeat refine⟨by grind,?_⟩
  refine cnd (fun h2=>?_) (fun h2=>?_)
  ·simp-dsimp[go_sem,hN];exact⟨_,.refl _,h,by simp[go_sem],hwk.app0 _,Nat.le_refl _,hu,.inl rfl,rfl⟩
  ·simp-dsimp[go_sem,hN,hw];exact⟨hc,wkA⟩
 ·simp-dsimp[go_sem,hN];exact⟨_,.refl _,h,by simp[go_sem],hwk.app0 _,Nat.le_refl _,hu,.inr rfl,rfl⟩
end Go.Proofs.YtilhejdbiionhaaGreatDoor

set_option maxRecDepth 4000
set_option maxHeartbeats 2000000
namespace Go.Proofs.YtilhejdbiionhaaGreatDoor
open Go Go.Abs Go.Cw
end Go.Proofs.YtilhejdbiionhaaGreatDoor

set_option maxRecDepth 8000
set_option maxHeartbeats 4000000
namespace Go.Proofs.YtilhejdbiionhaaGreatDoor
open Go Go.Abs Go.Cw
variable {tT:TypeId} {tx:Nat×Nat} {g:Nat}
end Go.Proofs.YtilhejdbiionhaaGreatDoor

set_option maxRecDepth 8000
set_option maxHeartbeats 4000000
namespace Go.Proofs.YtilhejdbiionhaaGreatDoor
open Go Go.Abs Go.Cw
variable {tT:TypeId} {tx:Nat×Nat} {g:Nat}
theorem same_foot(a:Foot):(decide (a.all=a.all)&&sameL eqB a.reads a.reads&&sameL eqB a.writes a.writes)=true:=by
 have h:∀l:List qac,sameL eqB l l=true:=fun l=>by
  induction l with
  |nil=>rfl
  |cons x l ih=>simp[sameL,eqB,ih]
 simp[h]
theorem c_law20_Recon(p:Proc)(args:List V)(st:List Pr)(h:qab)(hg:h[g]?=some (tabO tT tx))(hI:RunIn qbc p args st) :
  ACalls Tryz.prog 3 [.agg p.c,.slice (args.map V.c),.slice (st.map Pr.c)] h fun r h'=>r=.ret (Bo true)∧h'=h:=by
 refine qaz Tryz.func3 Tryz.ntmps3 rfl (by kernel_rfl) rfl fun E hN hh hu hb hb' hua=>?_;have hgl:g<h.length:=(List.getElem?_eq_some_iff.1 hg).1;have hg':∀l:qab,(h++l)[g]?=some (tabO tT tx):=fun l=>by rw[List.getElem?_append_left hgl];exact hg
 have hr:=fun H hH=>qeg (g:=g) (tT:=tT) (tx:=tx) p args st H hH hI;have hq:=c_ref20_Recon p args st hI;obtain⟨⟨f,e⟩,hR⟩:∃R,reconS qbc p args st=R:=⟨_,rfl⟩
 rw[hR]at hr hq;simp-dsimp[go_sem,hN];refine qaj (c_law20_few p args st _) ?_;rintro r h' ⟨⟨b,rfl⟩,rfl⟩;simp-dsimp[go_sem,hN];refine cnd (fun h1=>?_) (fun h1=>?_)
 ·simp-dsimp[go_sem,hN];refine qaj (c_law20_works _ (hg' _)) ?_;rintro r h' ⟨rfl,rfl⟩;simp-dsimp[go_sem,hN];exact⟨_,.refl _,h,by simp[go_sem],hwk.app0 _,Nat.le_refl _,hu,rfl,rfl⟩
 simp-dsimp[go_sem,hN];refine qaj (hr _ (hg' _)) ?_;rintro r h' ⟨rfl,rfl⟩;simp-dsimp[go_sem,hN,Foot.c];refine qaa hq ?_;simp-dsimp[go_sem,hN,Foot.c];refine qaa (c_ref19_Same f f) ?_;rw[same_foot];simp-dsimp[go_sem,hN,Foot.c];refine tgcall_same (fun _=>c_law20_works _ (hg' _)) (by simp) ?_ (fun h=>h);simp-dsimp[go_sem,hN];exact⟨_,.refl _,h,by simp[go_sem],hwk.app0 _,Nat.le_refl _,hu,rfl,rfl⟩
end Go.Proofs.YtilhejdbiionhaaGreatDoor

set_option maxRecDepth 8000
namespace Go.Proofs.YtilhejdbiionhaaGreatDoor
open Go Go.Abs Go.Cw
section
variable {H:Type} {enc:TypeId×Value→H} {w:World}
theorem bulk_part{d:DataW H}{l:List (DataW H)}(h:d∈l):Rows.uptoBulk d≤Rows.uptoBulkAll l:=by
 induction l with
 |nil=>cases h
 |cons x r ih =>
  simp only[Rows.uptoBulkAll];rcases List.mem_cons.1 h with rfl|e
  ·omega
  ·have:=ih e;omega
theorem bulk_one(d:DataW H):1≤Rows.uptoBulk d:=by
 cases d with
 |lit l=>cases l<;>simp[Rows.uptoBulk]
 |nil=>simp[Rows.uptoBulk]
 |ptr d=>simp[Rows.uptoBulk]
 |slice elems spare=>simp[Rows.uptoBulk]
 |agg parts=>simp[Rows.uptoBulk]
 |iface t d=>simp[Rows.uptoBulk]
 |map entries=>simp[Rows.uptoBulk]
 |held h=>simp[Rows.uptoBulk]
theorem bulk_len(l:List (DataW H)):l.length≤Rows.uptoBulkAll l:=by
 induction l with
 |nil=>simp[Rows.uptoBulkAll]
 |cons x r ih=>have:=bulk_one x;simp only[Rows.uptoBulkAll,List.length_cons];omega
theorem bulkB:Bulk (H:=H) Rows.uptoBulk where
 str:=fun s=>by simp[Rows.uptoBulk]
 len:=fun e s=>by have:=bulk_len e;simp only[Rows.uptoBulk];omega
 sl:=fun e s x hx=>by have:=bulk_part hx;simp only[Rows.uptoBulk];omega
 agg:=fun ps x hx=>by have:=bulk_part hx;simp only[Rows.uptoBulk];omega
abbrev UB:Nat:=1048576
variable (enc w) in
abbrev RD(n:Nat)(t:TypeId)(Q:List AV→Prop):Prop:=Rd enc Tryz.prog w Rows.uptoBulk UB n t Q
theorem ub_le:UB≤68719476736:=by decide
def rOf{α:Type}(c:α→List AV)(good:α→Prop)(xs:List AV):Prop:=∃a,xs=c a∧good a
def gStr(s:qac):Prop:=s.size≤UB
def gSl{α:Type}(good:α→Prop)(l:List α):Prop:=l.length≤UB∧∀a∈l,good a
def qOf{α:Type}(c:α→List AV)(good:α→Prop)(xs:List AV):Prop:=rOf (fun l:List α=>[.slice (l.map c)]) (gSl good) xs
theorem rd_of{n:Nat}{t e:TypeId}(ht:Tryz.prog.underlying t=some (.slice e)){sz:Nat}(hsz:Tryz.prog.cellsOf e=sz)(h0:0<sz){α:Type}{c:α→List AV}{good:α→Prop}(hl:∀a,(c a).length=sz)(he:RD enc w n e (rOf c good)):RD enc w n t (qOf c good):=by
 refine(rd_slice bulkB ub_le ht hsz h0 (by rintro _ ⟨a,rfl,_⟩;exact hl a) he).mono ?_;rintro _ ⟨rows,rfl,hlen,hq⟩;obtain⟨l,rfl,hg⟩:=rows_list hq;exact⟨l,rfl,by simpa using hlen,hg⟩
theorem len_of{α:Type}{c:α→List AV}{good:α→Prop}:∀xs,qOf c good xs→xs.length=1:=by rintro _ ⟨l,rfl,_⟩;rfl
theorem rd_I{n:Nat}:RD enc w n 3 (qInt .i64):=rd_int (by decide) Tryz.underlying3
theorem rd_I64{n:Nat}:RD enc w n 2 (qInt .i64):=rd_int (by decide) Tryz.underlying2
theorem rd_S{n:Nat}:RD enc w n 9 (qStr UB):=rd_str bulkB ub_le Tryz.underlying9
theorem i64_of{z:Int}(h:IntKind.i64.min≤z∧z≤IntKind.i64.max):i64 z:=⟨h.1,h.2⟩
theorem rd_V:∀{n:Nat},RD enc w n 54 (rOf V.c qcx)
 | 0=>Rd.zero
 |n+1=>by
  refine(rd_struct (Qs:=[qInt .i64,qInt .i64,qStr UB]) bulkB Tryz.underlying54 ?_).mono ?_
  ·simp only[Flds];exact⟨(by first|rfl|trivial),1,by kernel_rfl,rd_I,len_int,(by first|rfl|trivial),1,by kernel_rfl,rd_I64,len_int,(by first|rfl|trivial),1,by kernel_rfl,rd_S,len_str,by first|kernel_rfl|trivial⟩
  ·rintro _ ⟨ps,hp0,rfl⟩;obtain⟨_,_,rfl,⟨k,rfl,_⟩,hp1⟩:=qa6 hp0;obtain⟨_,_,rfl,⟨z,rfl,hz⟩,hp2⟩:=qa6 hp1;obtain⟨_,_,rfl,⟨s,rfl,hs⟩,hp3⟩:=qa6 hp2;obtain rfl:=parts_nil hp3;exact⟨⟨k,z,s⟩,rfl,i64_of hz,by show s.size≤_;unfold UB at hs;omega⟩
def gP(p:Pr):Prop:=p.key.size≤UB∧qcx p.v
theorem rd_P:∀{n:Nat},RD enc w n 56 (rOf Pr.c gP)
 | 0=>Rd.zero
 |n+1=>by
  refine(rd_struct (Qs:=[qStr UB,rOf V.c qcx]) bulkB Tryz.underlying56 ?_).mono ?_
  ·simp only[Flds];exact⟨(by first|rfl|trivial),1,by kernel_rfl,rd_S,len_str,(by first|rfl|trivial),3,by kernel_rfl,rd_V,by rintro _ ⟨v,rfl,_⟩;rfl,by first|kernel_rfl|trivial⟩
  ·rintro _ ⟨ps,hp0,rfl⟩;obtain⟨_,_,rfl,⟨k,rfl,hk⟩,hp1⟩:=qa6 hp0;obtain⟨_,_,rfl,⟨v,rfl,hv⟩,hp2⟩:=qa6 hp1;obtain rfl:=parts_nil hp2;exact⟨⟨k,v⟩,rfl,hk,hv⟩
theorem rd_Vs{n:Nat}:RD enc w n 26 (qOf V.c qcx):=rd_of Tryz.underlying26 (sz:=3) (by kernel_rfl) (by decide) (fun _=>rfl) rd_V
theorem rd_Ps{n:Nat}:RD enc w n 27 (qOf Pr.c gP):=rd_of Tryz.underlying27 (sz:=4) (by kernel_rfl) (by decide) (fun _=>rfl) rd_P
theorem rd_E:∀(n:Nat),RD enc w n 59 (rOf Ex.c rngX)
 | 0=>Rd.zero
 |n+1=>by
  have hs:RD enc w n 57 (qOf Ex.c rngX):=rd_of Tryz.underlying57 (sz:=4) (by kernel_rfl) (by decide) (fun e=>by rw[Ex.c_eq];rfl) (rd_E n);refine(rd_struct (Qs:=[qInt .i64,qInt .i64,qStr UB,qOf Ex.c rngX]) bulkB Tryz.underlying59 ?_).mono ?_
  ·simp only[Flds];exact⟨(by first|rfl|trivial),1,by kernel_rfl,rd_I,len_int,(by first|rfl|trivial),1,by kernel_rfl,rd_I64,len_int,(by first|rfl|trivial),1,by kernel_rfl,rd_S,len_str,(by first|rfl|trivial),1,by kernel_rfl,hs,len_of,by first|kernel_rfl|trivial⟩
  ·rintro _ ⟨ps,hp0,rfl⟩;obtain⟨_,_,rfl,⟨k,rfl,_⟩,hp1⟩:=qa6 hp0;obtain⟨_,_,rfl,⟨z,rfl,hz⟩,hp2⟩:=qa6 hp1;obtain⟨_,_,rfl,⟨s,rfl,hs⟩,hp3⟩:=qa6 hp2;obtain⟨_,_,rfl,⟨l,rfl,hl⟩,hp4⟩:=qa6 hp3;obtain rfl:=parts_nil hp4;refine⟨.mk k z s l,by rw[Ex.c_eq];rfl,(qdd _).2 ⟨⟨i64_of hz,by show s.size≤_;unfold UB at hs;omega⟩,hl.2⟩⟩
theorem rd_T:∀(n:Nat),RD enc w n 64 (rOf St.c rngS)
 | 0=>Rd.zero
 |n+1=>by
  have hs:RD enc w n 23 (qOf St.c rngS):=rd_of Tryz.underlying23 (sz:=13) (by kernel_rfl) (by decide) (fun e=>by rw[St.c_eq];rfl) (rd_T n);refine(rd_struct (Qs:=[qInt .i64,qStr UB,qInt .i64,rOf Ex.c rngX,rOf Ex.c rngX,qOf St.c rngS,qOf St.c rngS]) bulkB Tryz.underlying64 ?_).mono ?_
  ·simp only[Flds];exact⟨(by first|rfl|trivial),1,by kernel_rfl,rd_I,len_int,(by first|rfl|trivial),1,by kernel_rfl,rd_S,len_str,(by first|rfl|trivial),1,by kernel_rfl,rd_I,len_int,(by first|rfl|trivial),4,by kernel_rfl,rd_E n,by rintro _ ⟨e,rfl,_⟩;rw[Ex.c_eq];rfl,(by first|rfl|trivial),4,by kernel_rfl,rd_E n,by rintro _ ⟨e,rfl,_⟩;rw[Ex.c_eq];rfl,(by first|rfl|trivial),1,by kernel_rfl,hs,len_of,(by first|rfl|trivial),1,by kernel_rfl,hs,len_of,by first|kernel_rfl|trivial⟩
  ·rintro _ ⟨ps,hp0,rfl⟩;obtain⟨_,_,rfl,⟨k,rfl,_⟩,hp1⟩:=qa6 hp0;obtain⟨_,_,rfl,⟨s,rfl,hs⟩,hp2⟩:=qa6 hp1;obtain⟨_,_,rfl,⟨m,rfl,_⟩,hp3⟩:=qa6 hp2;obtain⟨_,_,rfl,⟨a,rfl,ha⟩,hp4⟩:=qa6 hp3;obtain⟨_,_,rfl,⟨b,rfl,hb⟩,hp5⟩:=qa6 hp4;obtain⟨_,_,rfl,⟨l,rfl,hl⟩,hp6⟩:=qa6 hp5;obtain⟨_,_,rfl,⟨l',rfl,hl'⟩,hp7⟩:=qa6 hp6;obtain rfl:=parts_nil hp7;refine⟨.mk k s m a b l l',?_,(qec _).2 ⟨ha,hb,hl.2,hl'.2⟩⟩;simp[St.c,St.cl_map]
theorem rd_Ts{n:Nat}:RD enc w n 23 (qOf St.c rngS):=rd_of Tryz.underlying23 (sz:=13) (by kernel_rfl) (by decide) (fun e=>by rw[St.c_eq];rfl) (rd_T n)
theorem rd_M:∀{n:Nat},RD enc w n 62 (rOf Param.c fun p=>gStr p.name)
 | 0=>Rd.zero
 |n+1=>by
  refine(rd_struct (Qs:=[qStr UB,qInt .i64]) bulkB Tryz.underlying62 ?_).mono ?_
  ·simp only[Flds];exact⟨(by first|rfl|trivial),1,by kernel_rfl,rd_S,len_str,(by first|rfl|trivial),1,by kernel_rfl,rd_I,len_int,by first|kernel_rfl|trivial⟩
  ·rintro _ ⟨ps,hp0,rfl⟩;obtain⟨_,_,rfl,⟨s,rfl,hs⟩,hp1⟩:=qa6 hp0;obtain⟨_,_,rfl,⟨k,rfl,_⟩,hp2⟩:=qa6 hp1;obtain rfl:=parts_nil hp2;exact⟨⟨s,k⟩,rfl,hs⟩
theorem rd_Ms{n:Nat}:RD enc w n 22 (qOf Param.c fun p=>gStr p.name):=rd_of Tryz.underlying22 (sz:=2) (by kernel_rfl) (by decide) (fun _=>rfl) rd_M
def gProc(p:Proc):Prop:=gStr p.name∧gSl (fun x:Param=>gStr x.name) p.params∧gSl rngS p.body
theorem rd_Proc:∀{n:Nat},RD enc w n 25 (rOf Proc.c gProc)
 | 0=>Rd.zero
 |n+1=>by
  refine(rd_struct (Qs:=[qStr UB,qOf Param.c fun p=>gStr p.name,qOf St.c rngS]) bulkB Tryz.underlying25 ?_).mono ?_
  ·simp only[Flds];exact⟨(by first|rfl|trivial),1,by kernel_rfl,rd_S,len_str,(by first|rfl|trivial),1,by kernel_rfl,rd_Ms,len_of,(by first|rfl|trivial),1,by kernel_rfl,rd_Ts,len_of,by first|kernel_rfl|trivial⟩
  ·rintro _ ⟨ps,hp0,rfl⟩;obtain⟨_,_,rfl,⟨s,rfl,hs⟩,hp1⟩:=qa6 hp0;obtain⟨_,_,rfl,⟨l,rfl,hl⟩,hp2⟩:=qa6 hp1;obtain⟨_,_,rfl,⟨b,rfl,hb⟩,hp3⟩:=qa6 hp2;obtain rfl:=parts_nil hp3;exact⟨⟨s,l,b⟩,rfl,hs,hl,hb⟩
structure gEff(e:Eff):Prop where
 out:gSl qcx e.out
 reads:gSl gStr e.reads
 puts:gSl gStr e.puts
 writes:gSl gP e.writes
 miss:gStr e.miss
end
end Go.Proofs.YtilhejdbiionhaaGreatDoor

set_option maxRecDepth 8000
namespace Go.Proofs.YtilhejdbiionhaaGreatDoor
open Go Go.Abs Go.Cw Go.ChangeShapes Go.WideShapes Go.ChangeAt Go.RowKit
theorem laidOut:laidOutB Tryz.prog=true:=by kernel_rfl
theorem ownK:ownKnob Tryz.prog.godebug=none:=by kernel_rfl
abbrev laidL:List (String×DataW Unit):=[("math/bits.deBruijn32tab",Rows.laid_math_bits_deBruijn32tab),("math/bits.deBruijn64tab",Rows.laid_math_bits_deBruijn64tab),("internal/strconv.uint64pow10",Rows.laid_internal_strconv_uint64pow10)]
abbrev gTab:Nat:=0
theorem table{W:World}(h:laidMetH Tryz.prog laidL W):Lib.TabIs Tryz.prog W "internal/strconv.uint64pow10" .u64 Lib.pow10Tab :=
 Lib.tabIs_of_head (rest:=[]) (g:=gTab) (n:=20) (by kernel_rfl) (by kernel_rfl) Tryz.underlying300 Tryz.underlying202 (by kernel_rfl) (by kernel_rfl) (laidMet.tail (laidMet.tail (show laidMet Tryz.prog laidL W from h)))
theorem table_heap{W:World}(h:laidMetH Tryz.prog laidL W):∃T x,W.heap[gTab]?=some (.cells tabV T x):=by
 have h1:=table h;unfold Lib.TabIs World.var? at h1
 rw[show Tryz.prog.globalNamed "internal/strconv.uint64pow10" = some gTab by kernel_rfl]at h1
 simp only[Option.bind_some]at h1;split at h1
 ·rename_i cs T x hx;cases h1;exact⟨T,x,hx⟩
 ·cases h1
theorem tab_u64:∀(j:Nat) (v:Value),tabV[j]?=some v→∃n,v=.int .u64 n:=by
 intro j v hv;unfold tabV at hv;have:(Lib.pow10Tab.map fun z=>Value.int .u64 z)[j]?=some v:=by simpa using hv
 rw[List.getElem?_map,Option.map_eq_some_iff]at this;obtain⟨z,_,rfl⟩:=this;exact⟨z,rfl⟩
def putTab(zs:List Value):Obj→Obj
 | .cells _ t fr=>.cells zs.toArray t fr
 |o=>o
def tabVals(d:DataW Unit):List Value:=match d with
 | .agg ps=>ps.map fun| .lit (.int k n)=>.int k n|_=>undef
 |_=>[]
noncomputable def laidWorld(os:Os):World :=
 { World.holding Tryz.prog os ⟨#[],#[],[]⟩with heap:=(((World.holding Tryz.prog os ⟨#[],#[],[]⟩).heap.modify gTab (putTab (tabVals Rows.laid_internal_strconv_uint64pow10))).modify 2 (putTab (tabVals Rows.laid_math_bits_deBruijn32tab))).modify 3 (putTab (tabVals Rows.laid_math_bits_deBruijn64tab)) }
section
variable {H:Type} {enc:TypeId×Value→H} {W:World} {base:Nat}
theorem okWide_struct{t:TypeId}{fs:Array Field}(ht:Tryz.prog.underlying t=some (.struct fs)){v:Value}(h:Value.okWide Tryz.prog W .any base t v):∃cs,v=.agg cs:=by
 unfold Value.okWide at h;rw[ht]at h;obtain⟨cs,rfl,_⟩:=h;exact⟨cs,rfl⟩
theorem okWide_slice{t e:TypeId}(ht:Tryz.prog.underlying t=some (.slice e)){v:Value}(h:Value.okWide Tryz.prog W .any base t v):v.cells = #[v]:=by
 unfold Value.okWide at h;rw[ht]at h;simp only at h;unfold Cell.okWide at h;rw[ht]at h;cases v<;>first|rfl|skip
 unfold Cell.ok at h;rw[ht]at h;exact h.elim
theorem arg_struct{t:TypeId}{fs:Array Field}(ht:Tryz.prog.underlying t=some (.struct fs)){v:Value}{d:DataW H}{ps:List MemPlace}(hv:Value.okWide Tryz.prog W .any base t v)(h:DataW.Trod enc Tryz.prog W 0 (fun _=>true) true t v d ps)
  {α:Type} {c:α→List AV} {good:α→Prop} (hr:∀n,RD enc W n t (rOf c good)) (hb:Rows.uptoBulk d≤UB):∃a,Rel (ctxR W gTab) (.agg (c a)) v∧good a:=by
 obtain⟨cs,rfl⟩:=okWide_struct ht hv;obtain⟨fuel,hf⟩:=h;obtain⟨_,hd,a,rfl,hg⟩:=hr fuel fuel _ _ _ (Nat.le_refl _) hf hb;exact⟨a,rel_agg hd,hg⟩
theorem arg_slice{t e:TypeId}(ht:Tryz.prog.underlying t=some (.slice e)){v:Value}{d:DataW H}{ps:List MemPlace}(hv:Value.okWide Tryz.prog W .any base t v)(h:DataW.Trod enc Tryz.prog W 0 (fun _=>true) true t v d ps)
  {α:Type} {c:α→List AV} {good:α→Prop} (hr:∀n,RD enc W n t (qOf c good)) (hb:Rows.uptoBulk d≤UB):∃l:List α,Rel (ctxR W gTab) (.slice (l.map c)) v∧gSl good l:=by
 obtain⟨fuel,hf⟩:=h;rw[okWide_slice ht hv]at hf;obtain⟨_,hd,l,rfl,hg⟩:=hr fuel fuel _ _ _ (Nat.le_refl _) hf hb;exact⟨l,rel_one hd,hg⟩
end
theorem pLaid:laidOutB Tryz.pinned.checked.prog=true:=by kernel_rfl
theorem pMaps:mapsRowed Tryz.pinned.checked.prog=true:=by kernel_rfl
theorem pHeard:Tryz.pinned.checked.prog.stopsHeard=true:=by kernel_rfl
theorem pEnter:Tryz.pinned.checked.prog.mayEnter=true:=by kernel_rfl
end Go.Proofs.YtilhejdbiionhaaGreatDoor
