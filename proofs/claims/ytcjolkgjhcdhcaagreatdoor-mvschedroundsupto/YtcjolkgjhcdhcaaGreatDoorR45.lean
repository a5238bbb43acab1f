/- Part 45 of a proof: W48, W59, W53, W66a, W71, W73, W74 -/
import Derived.Test.YtcjolkgjhcdhcaaGreatDoorR17
import Derived.Test.YtcjolkgjhcdhcaaGreatDoorR19
import Derived.Test.YtcjolkgjhcdhcaaGreatDoorR26
import Derived.Test.YtcjolkgjhcdhcaaGreatDoorR27
import Derived.Test.YtcjolkgjhcdhcaaGreatDoorR32
import Derived.Test.YtcjolkgjhcdhcaaGreatDoorR34
import Derived.Test.YtcjolkgjhcdhcaaGreatDoorR39
import Derived.Test.YtcjolkgjhcdhcaaGreatDoorR40
import Derived.Test.YtcjolkgjhcdhcaaGreatDoorR41
import Derived.Test.YtcjolkgjhcdhcaaGreatDoorR42
import Derived.Test.YtcjolkgjhcdhcaaGreatDoorR44
set_option linter.all false

set_option maxRecDepth 4000
set_option maxHeartbeats 4000000
namespace Go.Proofs.YtcjolkgjhcdhcaaGreatDoor
open Go Go.Abs Go.Cw
section
attribute [local go_sem] RM.c
theorem fmt_ref:∀ n,i64 n→APure Tryz.prog 279 [I n] (S (qb3 n)):=fun n hn=>c_ref01_Format n hn
theorem c_ref15_Run (p:Proc) (args:List V) (st:List Pr) (ft:Foot) (hI:RunIn qb3 p args st):APure Tryz.prog 102 [.agg p.c,.slice (args.map V.c),.slice (st.map Pr.c),.agg ft.c] (.agg (runS qb3 p args st ft).c):=by
 refine qaj Tryz.func102 Tryz.ntmps102 rfl (by kernel_rfl) rfl rfl fun E h hN hh hu hb=>?_;simp [go_sem] at hb;rw [← runR_eq hI];have hcond:(qbx p≠0∨qc5 p args≠0∨qa0 st=false∨qcd ft.all ft.reads ft.writes=false)↔¬ runOk p args st ft:=by unfold runOk;simp only [Decidable.not_not]
 simp -dsimp [go_sem,hN];refine qaa (c_ref13_Check p) ?_;simp -dsimp [go_sem,hN];refine qae (c_ref11_Args p args) (by simp) ?_;simp -dsimp [go_sem,hN];refine qae (c_ref06_Valid st) (by simp) ?_;simp -dsimp [go_sem,hN];refine qae (c_ref15_ValidFoot ft) (by simp) ?_;simp -dsimp [go_sem,hN]
 repeat refine ⟨by grind,?_⟩
 refine cnd ?_ ?_<;>intro h0<;>simp at h0
 ·
  have e1:runR qb3 p args st ft=wrongE:=by unfold runR;rw [if_pos (by grind)]
  rw [e1];simp -dsimp [go_sem,hN];refine qaa c_ref15_nothing ?_;simp -dsimp [go_sem,hN]
 have hok:runOk p args st ft:=by rw [qb1];grind
 have hok':=(qb1 _ _ _ _).1 hok;have hlen:=(argsErr_ok hok'.2.1).1;have hfew:=valid_few (cost_valid hok'.1);have e1:runR qb3 p args st ft=doneR (blkR (cfgR qb3 st ft) p.body (rm0 p args)):=by unfold runR;rw [if_neg hok]
 rw [e1];simp -dsimp [go_sem,hN];refine qas (α:=List Pr) args.length (fun n vs=>qcs (p.params.drop n) (args.drop n) vs=qcs p.params args []∧vs.length≤n) (fun n vs=>⟨[(1,.slice (args.map V.c)),(4,P0 h.length),(8,P0 (h.length+2)),(9,P0 (h.length+3)),(10,I n)],h++[.cells p.c,.cells ft.c,effZ,.cells (RM.c (cfgR qb3 st ft) ⟨vs,[],0,0,[],[],[],em,0⟩)]⟩) [] (by simp) wkA ?_;rintro n vs hn ⟨hI2,hvl⟩;have hw:=qaq hn (show _≤68719476736 by omega);simp -dsimp [go_sem,hN];refine cnd ?_ ?_<;>intro hc<;>simp at hc
 ·
  have hc2:n<p.params.length:=by omega
  rw [qad hc,qad hc2,qcs] at hI2;simp -dsimp [go_sem,hN,hc,hc2];refine qah 13 mixed (by kernel_rfl) (by kernel_rfl) ?_;simp -dsimp [go_sem,hN,hc,hc2];refine qaa (c_ref15_set vs ⟨p.params[n].name,args[n]⟩ (by omega)) ?_;simp -dsimp [go_sem,hN,hw];have:=setR_len vs ⟨p.params[n].name,args[n]⟩;exact ⟨_,⟨hI2,by omega⟩,wkA⟩
 ·
  rw [List.drop_eq_nil_of_le (show args.length≤n by omega),List.drop_eq_nil_of_le (show p.params.length≤n by omega),show qcs [] [] vs=vs by simp [qcs]] at hI2;subst hI2;have hsi:=setArgsR_inv p.params args [] hI.args (by simp);have hRI:RInv 0 0 (rm0 p args):=⟨hsi.1,by simp,by simp,by simp,by simp,by simp,by simp,by have:=hsi.2;simp at this ⊢;omega,by simp⟩
  have hC:rngC (cfgR qb3 st ft):=fun q hq=>hI.st q hq;simp -dsimp [go_sem,hN];refine qaa (c_ref15_block (cfgR qb3 st ft) hC hI.fmt fmt_ref p.body 1 (rm0 p args) (cost_okL hok'.1) (cost_goS hok'.1 hI.body) hRI rfl) ?_;obtain ⟨M,hM⟩:∃ M,blkR (cfgR qb3 st ft) p.body (rm0 p args)=M:=⟨_,rfl⟩
  rw [hM];simp -dsimp [go_sem,hN];refine qaa (qbq (cfgR qb3 st ft) M) ?_;simp -dsimp [go_sem,hN];refine cnd ?_ ?_<;>intro h1<;>simp at h1
  ·
   simp -dsimp [go_sem,hN];refine qaa (c_ref15_ended (cfgR qb3 st ft) M) ?_;simp -dsimp [go_sem,hN,doneR,h1]
  ·
   simp -dsimp [go_sem,hN];refine qaa (c_ref15_Commit (cfgR qb3 st ft) M) ?_;simp -dsimp [go_sem,hN,doneR,h1]
variable {tT:TypeId} {tx:Nat×Nat} {g:Nat}
end
end Go.Proofs.YtcjolkgjhcdhcaaGreatDoor

set_option maxRecDepth 4000
set_option maxHeartbeats 2000000
namespace Go.Proofs.YtcjolkgjhcdhcaaGreatDoor
open Go Go.Abs Go.Cw
end Go.Proofs.YtcjolkgjhcdhcaaGreatDoor

set_option maxRecDepth 4000
set_option maxHeartbeats 2000000
namespace Go.Proofs.YtcjolkgjhcdhcaaGreatDoor
open Go Go.Abs Go.Cw
theorem c_ref21_Find (procs:List Proc) (name:qac):APure Tryz.prog 100 [.slice (procs.map Proc.c),S name] (.tuple [.agg ((findN procs name).getD noProc).c,Bo (findN procs name).isSome]):=by
 refine qaj Tryz.func100 Tryz.ntmps100 rfl (by kernel_rfl) rfl rfl fun E h hN hh hu hb=>?_;simp [go_sem] at hb;simp -dsimp [go_sem,hN];refine qaf procs.length (fun n=>(procs.drop n).find? (fun p=>decide (p.name=name))=findN procs name) (fun n=>⟨[(0,.slice (procs.map Proc.c)),(1,S name),(4,P0 h.length),(6,I n)],h++[.cells [S em,.nils,.nils]]⟩) (by simp [findN]) wkA ?_;intro n hn hI;have hw:=qaq hn (show _≤68719476736 by omega);simp -dsimp [go_sem,hN];refine cnd ?_ ?_<;>intro hc<;>simp at hc
 ·
  rw [qad hc] at hI;simp -dsimp [go_sem,hN,hc];refine cnd ?_ ?_<;>intro h1<;>simp at h1
  ·
   rw [List.find?_cons_of_pos (by simpa using h1)] at hI;simp -dsimp [go_sem,hN,hc];simp [← hI,Proc.c]
  ·
   rw [List.find?_cons_of_neg (by simpa using h1)] at hI;simp -dsimp [go_sem,hN,hw];exact ⟨hc,hI,wkA⟩
 ·
  rw [List.drop_eq_nil_of_le (by omega)] at hI;simp -dsimp [go_sem,hN];simp [← hI,noProc,Proc.c]
theorem c_ref21_One (procs:List Proc) (s:List Pr) (t:Txn) (hI:∀ p,findP procs t=some p→RunIn qb3 p t.args s) (hL:s.length≤60000000000) :
  APure Tryz.prog 73 [.slice (procs.map Proc.c),.slice (s.map Pr.c),.agg t.c] (.tuple [.slice ((oneS qb3 procs s t).1.map Pr.c),.agg (oneS qb3 procs s t).2.c]):=by
 refine qaj Tryz.func73 Tryz.ntmps73 rfl (by kernel_rfl) rfl rfl fun E h hN hh hu hb=>?_;simp [go_sem,Txn.c] at hb;obtain ⟨R,hR⟩:∃ R,oneS qb3 procs s t=R:=⟨_,rfl⟩
 rw [hR];unfold oneS at hR;have hfind:findP procs t=match findN procs t.proc with | none=>none | some p=>if qc5 p t.args=0 then some p else none:=rfl
 simp -dsimp [go_sem,hN,Txn.c];refine qaa (c_ref21_Find procs t.proc) ?_;rcases hF:findN procs t.proc with _ | p
 ·
  rw [hF] at hfind;simp only at hfind;rw [hfind] at hR;simp only at hR;subst hR;simp -dsimp [go_sem,hN,noProc];refine qdh ?_;simp -dsimp [go_sem,hN,wrongE]
 ·
  rw [hF] at hfind;simp only at hfind;simp -dsimp [go_sem,hN];refine qae (c_ref11_Args p t.args) (by simp) ?_;simp -dsimp [go_sem,hN];refine cnd ?_ ?_<;>intro h0<;>simp at h0
  ·
   rw [if_neg h0] at hfind;rw [hfind] at hR;simp only at hR;subst hR;simp -dsimp [go_sem,hN,wrongE]
  rw [if_pos h0] at hfind;have hRun:=hI p hfind;rw [hfind] at hR;simp only at hR;have hc1:=fun h=>run_commit_ok (fmt:=qb3) (p:=p) (args:=t.args) (s:=s) (ft:=t.ft) h;have hc2:=fun h=>(run_commit (ft:=t.ft) hRun h).2.2;have hlw:=run_lenW (ft:=t.ft) hRun;have hcall:=c_ref15_Run p t.args s t.ft hRun;obtain ⟨e,he⟩:∃ e,runS qb3 p t.args s t.ft=e:=⟨_,rfl⟩
  rw [he] at hR hc1 hc2 hlw hcall;simp -dsimp [go_sem,hN];refine qaa hcall ?_;simp -dsimp [go_sem,hN];refine cnd ?_ ?_<;>intro h1<;>simp at h1
  ·
   rw [if_neg h1] at hR;subst hR;simp -dsimp [go_sem,hN];refine qah 3 mixed (by kernel_rfl) (by kernel_rfl) ?_;simp -dsimp [go_sem,hN]
  ·
   rw [if_pos h1] at hR;subst hR;have hA:=c_ref06_Apply s e.writes (by omega);rw [hc1 h1,hc2 h1] at hA;simp only [Bool.and_self,if_true] at hA;simp -dsimp [go_sem,hN];refine qaa hA ?_;simp -dsimp [go_sem,hN];refine qah 3 mixed (by kernel_rfl) (by kernel_rfl) ?_;simp -dsimp [go_sem,hN]
end Go.Proofs.YtcjolkgjhcdhcaaGreatDoor

set_option maxRecDepth 4000
set_option maxHeartbeats 2000000
namespace Go.Proofs.YtcjolkgjhcdhcaaGreatDoor
open Go Go.Abs Go.Cw
theorem c_ref04_Ascending (l:List qac):APure Tryz.prog 77 [.slice (l.map qbd)] (Bo (ascK none l)):=by
 refine qaj Tryz.func77 Tryz.ntmps77 rfl (by kernel_rfl) rfl rfl fun E h hN hh hu hb=>?_;simp [go_sem] at hb;simp -dsimp [go_sem,hN];refine qaf l.length (fun n=>ascK (qbh l n) (l.drop n)=ascK none l) (fun n=>⟨[(0,.slice (l.map qbd)),(3,I n)],h⟩) (by simp [qbh]) wkA ?_;intro n hn hI;have hw:=qaq hn hb.1;simp -dsimp [go_sem,hN];refine cnd ?_ ?_<;>intro hc<;>simp at hc
 ·
  rw [qad hc,ascK] at hI;simp -dsimp [go_sem,hN,hc];refine qah 19 mixed (by kernel_rfl) (by kernel_rfl) ?_;simp -dsimp [go_sem,hN,hc];refine qay (qej _) (by simp) ?_;cases n with
  | zero =>
   simp -dsimp [go_sem,hN];refine cnd ?_ ?_<;>intro hg<;>try simp at hg
   ·
    simp -dsimp [go_sem,hN];grind [qbh,after]
   ·
    simp -dsimp [go_sem,hN,hw];exact ⟨hc,by simpa [hg,qbh,hc,after] using hI,wkA⟩
  | succ m =>
   have hm:m<l.length:=by omega
   have hw2:=wrapN (Nat.le_of_lt hm) hb.1;simp at hw;simp -dsimp [go_sem,hN,hw2,hm,hc];refine ⟨fun hk=>⟨hk,by omega⟩,cnd (fun hg=>?_) (fun hg=>?_)⟩<;>simp at hg
   ·
    simp -dsimp [go_sem,hN];rw [← hI];rcases hg with h1 | h1<;>simp [qbh,hm,after,h1]
   ·
    simp -dsimp [go_sem,hN,hw];simp [hg,qbh,hm,after] at hI;exact ⟨hc,by simpa [qbh,hc] using hI,wkA⟩
 ·
  rw [List.drop_eq_nil_of_le (by omega),ascK] at hI;simp -dsimp [go_sem,hN,← hI]
theorem c_ref19_Valid (f:Foot):APure Tryz.prog 47 [.agg f.c] (Bo (qcd f.all f.reads f.writes)):=by
 refine qaj Tryz.func47 Tryz.ntmps47 rfl (by kernel_rfl) rfl rfl fun E h hN hh hu hb=>?_;simp -dsimp [go_sem,hN,Foot.c];refine cnd ?_ ?_<;>intro h0<;>try simp at h0
 all_goals simp -dsimp [go_sem,hN,qcd,h0]
 refine qae (c_ref04_Ascending f.reads) (by simp) ?_;simp -dsimp [go_sem,hN];refine qae (c_ref04_Ascending f.writes) (by simp) ?_;simp -dsimp [go_sem,hN,qcd,h0];grind
theorem c_ref21_Round (procs:List Proc) (s:List Pr) (l:List Txn) (hB:BatchIn qb3 procs l) (hs:rngL s) (hL:s.length+64 * l.length≤60000000000) :
  APure Tryz.prog 43 [.slice (procs.map Proc.c),.slice (s.map Pr.c),.slice (l.map Txn.c)] (.tuple [.slice ((qb2 qb3 procs s l).1.map Pr.c),.slice ((qb2 qb3 procs s l).2.map Eff.c)]):=by
 refine qaj Tryz.func43 Tryz.ntmps43 rfl (by kernel_rfl) rfl rfl fun E h hN hh hu hb=>?_;simp [go_sem] at hb;simp -dsimp [go_sem,hN];refine qaf l.length (fun n=>True) (fun n=>⟨[(0,.slice (procs.map Proc.c)),(1,.slice ((qb2 qb3 procs s (l.take n)).1.map Pr.c)),(2,.slice (l.map Txn.c)),(8,.own h.length n),(9,I n)],h++[.arr 39 8 ((qb2 qb3 procs s (l.take n)).2.map Eff.c)]⟩) trivial ((nil_wk E _ 8 39 8 (by simp [go_sem])).trans ?_) ?_
 ·
  simp [qb2];exact wkA
 intro n hn _;have hw:=qaq hn (show _≤68719476736 by omega);obtain ⟨hrs,hrl,hrc⟩:=round_stepState (fmt:=qb3) (procs:=procs) hs hB n hn;simp -dsimp [go_sem,hN];refine cnd ?_ ?_<;>intro hc<;>simp at hc
 ·
  have hnx:=round_next (fmt:=qb3) (procs:=procs) (s:=s) hc;have hone:=c_ref21_One procs (qb2 qb3 procs s (l.take n)).1 l[n] (runIn_one hB hrs (List.getElem_mem hc)) (by omega);obtain ⟨X,hX⟩:∃ X,qb2 qb3 procs s (l.take n)=X:=⟨_,rfl⟩
  rw [hX] at hnx hrs hrl hrc hone;simp only [hX];obtain ⟨O,hO⟩:∃ O,oneS qb3 procs X.1 l[n]=O:=⟨_,rfl⟩
  rw [hO] at hnx hone;simp -dsimp [go_sem,hN,hc,Txn.c];refine qaa hone ?_;simp -dsimp [go_sem,hN,hw,hrc,Eff.c];refine ⟨by omega,hc,?_⟩;rw [hnx];exact (wkA (by simp [go_sem,Eff.c]))
 ·
  simp -dsimp [go_sem,hN];rw [if_pos hrc,List.take_of_length_le (by omega)];exact ⟨rfl,rfl⟩
end Go.Proofs.YtcjolkgjhcdhcaaGreatDoor

set_option maxRecDepth 4000
set_option maxHeartbeats 2000000
namespace Go.Proofs.YtcjolkgjhcdhcaaGreatDoor
open Go Go.Abs Go.Cw
theorem c_ref04_Has (l:List qac) (k:qac):APure Tryz.prog 56 [.slice (l.map qbd),S k] (Bo (qcr l k)):=by
 refine qaj Tryz.func56 Tryz.ntmps56 rfl (by kernel_rfl) rfl rfl fun E h hN hh hu hb=>?_;simp [go_sem] at hb;simp -dsimp [go_sem,hN];refine qaf l.length (fun n=>qcr (l.drop n) k=qcr l k) (fun n=>⟨[(0,.slice (l.map qbd)),(1,S k),(5,I n)],h⟩) (by simp) wkA ?_;intro n hn hI;have hw:=qaq hn hb.1.1;simp -dsimp [go_sem,hN];refine cnd ?_ ?_<;>intro hc<;>simp at hc
 ·
  rw [qad hc,qcr,anyL] at hI;simp -dsimp [go_sem,hN,hc];refine cnd ?_ ?_<;>intro hg<;>simp at hg
  ·
   simp -dsimp [go_sem,hN];simp [← hI,hg]
  ·
   simp -dsimp [go_sem,hN,hw];exact ⟨hc,by simpa [hg,qcr] using hI,wkA⟩
 ·
  rw [List.drop_eq_nil_of_le (by omega),qcr,anyL] at hI;simp -dsimp [go_sem,hN,← hI]
theorem c_ref23_Ints (l l':List Nat):APure Tryz.prog 14 [.slice (l.map nR),.slice (l'.map nR)] (Bo (decide (l=l'))):=by
 refine qaj Tryz.func14 Tryz.ntmps14 rfl (by kernel_rfl) rfl rfl fun E h hN hh hu hb=>?_;simp [go_sem] at hb;simp -dsimp [go_sem,hN];refine cnd ?_ ?_<;>intro h0<;>simp at h0
 ·
  simp -dsimp [go_sem,hN];intro e;subst e;omega
 have h0:l.length=l'.length:=by omega
 simp -dsimp [go_sem,hN];refine qaf l.length (fun n=>decide (l.drop n=l'.drop n)=decide (l=l')) (fun n=>⟨[(0,.slice (l.map nR)),(1,.slice (l'.map nR)),(5,I n)],h⟩) (by simp) wkA ?_;intro n hn hI;have hw:=qaq hn hb.1.1;simp -dsimp [go_sem,hN];refine cnd ?_ ?_<;>intro hc<;>simp at hc
 ·
  have hc':n<l'.length:=by omega
  rw [qad hc,qad hc'] at hI;simp -dsimp [go_sem,hN,hc,hc'];refine qah 8 mixed (by kernel_rfl) (by kernel_rfl) ?_;simp -dsimp [go_sem,hN,hc,hc',nR];refine cnd ?_ ?_<;>intro hg<;>simp at hg
  ·
   simp -dsimp [go_sem,hN];intro e;subst e;exact hg rfl
  ·
   have e:l[n]=l'[n]:=by omega
   simp -dsimp [go_sem,hN,hw];simp only [e,List.cons.injEq,true_and] at hI;exact ⟨hc,by simpa using hI,wkA⟩
 ·
  rw [List.drop_eq_nil_of_le (by omega),List.drop_eq_nil_of_le (by omega)] at hI;simp -dsimp [go_sem,hN,← hI]
theorem c_ref26_norm (f:Foot):APure Tryz.prog 55 [.agg f.c] (.agg (effF f).c):=by
 refine qaj Tryz.func55 Tryz.ntmps55 rfl (by kernel_rfl) rfl rfl fun E h hN hh hu hb=>?_;simp -dsimp [go_sem,hN,Foot.c];refine qaa (c_ref19_Valid f) ?_;simp -dsimp [go_sem,hN];refine cnd ?_ ?_<;>intro h0<;>try simp at h0
 · simp -dsimp [go_sem,hN,effF,h0,Foot.c]
 · simp -dsimp [go_sem,hN,effF,h0,Foot.c]
theorem c_ref26_Depends (a b:Foot):APure Tryz.prog 33 [.agg a.c,.agg b.c] (Bo (depS (effF a) (effF b))):=by
 refine qaj Tryz.func33 Tryz.ntmps33 rfl (by kernel_rfl) rfl rfl fun E h hN hh hu hb=>?_;simp [go_sem,Foot.c] at hb;have hR:=depR_eq a b;unfold depR at hR;have hna:=c_ref26_norm a;have hnb:=c_ref26_norm b;have hbw:(effF a).writes.length≤68719476736:=by
  unfold effF;split
  · omega
  · simp
 rw [← hR];obtain ⟨A,hA⟩:∃ A,effF a=A:=⟨_,rfl⟩
 obtain ⟨B,hB⟩:∃ B,effF b=B:=⟨_,rfl⟩
 rw [hA] at hna hbw;rw [hB] at hnb;rw [hA,hB];obtain ⟨R,hRR⟩:∃ R,(B.all||(A.all&&decide (0<B.reads.length))||A.writes.any fun k=>qcr B.reads k)=R:=⟨_,rfl⟩
 rw [hRR];simp -dsimp [go_sem,hN,Foot.c];refine qah 3 mixed (by kernel_rfl) (by kernel_rfl) ?_;simp -dsimp [go_sem,hN,Foot.c];refine qay hna (by simp) ?_;simp -dsimp [go_sem,hN,Foot.c];refine qaa hnb ?_;simp -dsimp [go_sem,hN,Foot.c];by_cases h1:B.all=true
 ·
  rw [h1] at hRR;simp only [Bool.true_or] at hRR;subst hRR;simp -dsimp [go_sem,hN,h1]
 have h1':B.all=false:=by simpa using h1
 by_cases h2:A.all=true∧0<B.reads.length
 ·
  have h3:B.reads≠[]:=fun e=>by rw [e] at h2;simp at h2
  rw [h1',h2.1,decide_eq_true h2.2] at hRR;simp only [Bool.true_and,Bool.false_or,Bool.true_or] at hRR;subst hRR;simp -dsimp [go_sem,hN,h1',h2.1,h2.2,h3]
 ·
  have hz:(A.all&&decide (0<B.reads.length))=false:=by
   rcases hAa:A.all with _ | _
   · rfl
   ·
    simp only [hAa,true_and] at h2;simpa using h2
  rw [h1',hz,Bool.false_or,Bool.false_or] at hRR;simp -dsimp [go_sem,hN,h1',hz];refine qaf A.writes.length (fun n=>((A.writes.drop n).any fun k=>qcr B.reads k)=(A.writes.any fun k=>qcr B.reads k)) (fun n=>⟨[(2,P0 h.length),(3,P0 (h.length+1)),(5,I n)],h++[.cells A.c,.cells B.c]⟩) (by simp) ?_ ?_
  · exact Wk.mk (by simp [hh]) (by simp [go_sem,Foot.c,h1']) (by simp [hu,qag hu,go_sem]) (by simp [go_sem])
  intro n hn hI;rw [hRR] at hI;have hw:=qaq hn hbw;simp -dsimp [go_sem,hN,Foot.c];refine cnd ?_ ?_<;>intro hc<;>simp at hc
  ·
   rw [qad hc,List.any_cons] at hI;simp -dsimp [go_sem,hN,hc];refine qah 7 mixed (by kernel_rfl) (by kernel_rfl) ?_;simp -dsimp [go_sem,hN,hc,Foot.c];refine qaa (c_ref04_Has B.reads A.writes[n]) ?_;simp -dsimp [go_sem,hN];refine cnd (fun h4=>?_) (fun h4=>?_)
   ·
    simp -dsimp [go_sem,hN];rw [← hI,h4,Bool.true_or]
   ·
    simp -dsimp [go_sem,hN,hw];exact ⟨hc,by rw [hRR];simpa [h4] using hI,Wk.mk (by simp [hh]) (by simp [go_sem,Foot.c]) (by simp [hu,qag hu,go_sem]) (by simp [go_sem])⟩
  ·
   rw [List.drop_eq_nil_of_le (by omega),List.any_nil] at hI;simp -dsimp [go_sem,hN,← hI]
theorem c_ref26_Feet (l:List Txn):APure Tryz.prog 23 [.slice (l.map Txn.c)] (.slice ((feetL l).map Foot.c)):=by
 refine qaj Tryz.func23 Tryz.ntmps23 rfl (by kernel_rfl) rfl rfl fun E h hN hh hu hb=>?_;simp [go_sem] at hb;simp -dsimp [go_sem,hN];refine qaf l.length (fun n=>True) (fun n=>⟨[(0,.slice (l.map Txn.c)),(3,.own h.length n),(4,I n)],h++[.arr 58 3 ((feetR l).take n)]⟩) trivial ((nil_wk E _ 3 58 3 (by simp [go_sem])).trans ?_) ?_
 ·
  simp;exact wkA
 intro n hn _;have hw:=qaq hn (show _≤68719476736 by omega);have hal:=feetR_tlen hn;simp -dsimp [go_sem,hN];refine cnd ?_ ?_<;>intro hc<;>simp at hc
 ·
  simp -dsimp [go_sem,hN,hc,hw,hal,Txn.c];rw [feetR_take hc];exact ⟨by omega,Wk.mk (by simp [hh]) (by simp [go_sem,Foot.c]) (by simp [hu,qag hu,go_sem]) (by simp [go_sem])⟩
 ·
  have hn2:n=l.length:=by omega
  subst hn2;rw [feetR_all];simp -dsimp [go_sem,hN,qei]
theorem sameL_lenM {α:Type} {f:α→α→Bool}:∀ (a b:List α),qde f a b=true→a.length=b.length
 | [],[],_=>rfl
 | x::a,y::b,h=>by
  rw [qde,Bool.and_eq_true] at h;simp [sameL_lenM a b h.2]
 | [],_::_,h=>by simp [qde] at h
 | _::_,[],h=>by simp [qde] at h
theorem c_law26_same (a b:List Eff):APure Tryz.prog 21 [.slice (a.map Eff.c),.slice (b.map Eff.c)] (Bo (qde sameE a b)):=by
 refine qaj Tryz.func21 Tryz.ntmps21 rfl (by kernel_rfl) rfl rfl fun E h hN hh hu hb=>?_;simp [go_sem] at hb;simp -dsimp [go_sem,hN];refine cnd ?_ ?_<;>intro h0<;>simp at h0
 ·
  have h1:qde sameE a b=false:=by
   rcases Bool.eq_false_or_eq_true (qde sameE a b) with g | g
   · exact (h0 (by exact_mod_cast sameL_lenM a b g)).elim
   · exact g
  simp -dsimp [go_sem,hN,h1]
 have h0:a.length=b.length:=by omega
 simp -dsimp [go_sem,hN];refine qaf a.length (fun n=>qde sameE (a.drop n) (b.drop n)=qde sameE a b) (fun n=>⟨[(0,.slice (a.map Eff.c)),(1,.slice (b.map Eff.c)),(5,I n)],h⟩) (by simp) wkA ?_;intro n hn hI;have hw:=qaq hn (show _≤68719476736 by omega);simp -dsimp [go_sem,hN];refine cnd ?_ ?_<;>intro hc<;>simp at hc
 ·
  have hc2:n<b.length:=by omega
  rw [qad hc,qad hc2,qde] at hI;simp -dsimp [go_sem,hN,hc,hc2];refine qah 8 mixed (by kernel_rfl) (by kernel_rfl) ?_;simp -dsimp [go_sem,hN,hc,hc2,Eff.c];refine qaa (c_ref15_Same a[n] b[n]) ?_;simp -dsimp [go_sem,hN];refine cnd ?_ ?_<;>intro h1<;>simp at h1
  ·
   rw [h1] at hI;simp -dsimp [go_sem,hN,← hI]
  ·
   rw [h1] at hI;simp -dsimp [go_sem,hN,hw];exact ⟨hc,by simpa using hI,wkA⟩
 ·
  rw [List.drop_eq_nil_of_le (show a.length≤n by omega),List.drop_eq_nil_of_le (show b.length≤n by omega),qde] at hI;simp -dsimp [go_sem,hN,← hI]
end Go.Proofs.YtcjolkgjhcdhcaaGreatDoor

set_option maxRecDepth 4000
set_option maxHeartbeats 2000000
namespace Go.Proofs.YtcjolkgjhcdhcaaGreatDoor
open Go Go.Abs Go.Cw
theorem c_ref26_Deps (l:List Foot):APure Tryz.prog 13 [.slice (l.map Foot.c)] (.slice ((qbn l l.length).map lR)):=by
 refine qaj Tryz.func13 Tryz.ntmps13 rfl (by kernel_rfl) rfl rfl fun E h hN hh hu hb=>?_;simp [go_sem] at hb;simp -dsimp [go_sem,hN];refine qaf l.length (fun n=>True) (fun n=>⟨[(0,.slice (l.map Foot.c)),(3,.own h.length n),(4,I n)],h++[.arr 28 1 ((qbn l n).map lR)]⟩) trivial ((nil_wk E _ 3 28 1 (by simp [go_sem])).trans ?_) ?_
 ·
  simp [qbn];exact wkA
 intro n hn _;have hw:=qaq hn (show _≤68719476736 by omega);have hal:=depsAll_len l n;simp -dsimp [go_sem,hN];refine cnd ?_ ?_<;>intro hc<;>simp at hc
 ·
  simp -dsimp [go_sem,hN,hc];refine qaf n (fun m=>True) (fun m=>⟨[(0,.slice (l.map Foot.c)),(3,.own h.length n),(4,I n),(5,if m<n then .own (h.length+1) (depM l n m).length else .slice ((depM l n n).map nR)),(6,I m)],h++.arr 28 1 ((qbn l n).map lR)::if m<n then [.arr 3 1 ((depM l n m).map nR)] else []⟩) trivial ?_ ?_
  ·
   by_cases h0:0<n
   ·
    simp only [if_pos h0];refine (nil_wk E _ 5 3 1 (by simp [go_sem])).trans ?_;simp [depM];exact wkA
   ·
    obtain rfl:n=0:=by omega
    simp [depM];exact wkA
  intro m hm _;have hw2:=qaq hm (show _≤68719476736 by omega);rcases Nat.lt_or_ge m n with hd | hd
  ·
   have hml:m<l.length:=by omega
   have hdl:=depM_len l n m;have hdm:=depM_succ (fs:=l) hc hml;simp only [if_pos hd];simp -dsimp [go_sem,hN,hd];refine qah 8 mixed (by kernel_rfl) (by kernel_rfl) ?_;simp -dsimp [go_sem,hN,hc,hml];refine qaa (c_ref26_Depends l[m] l[n]) ?_;simp -dsimp [go_sem,hN];refine cnd (fun h1=>?_) (fun h1=>?_)
   ·
    rw [if_pos h1] at hdm;simp -dsimp [go_sem,hN,hw2]
    repeat refine ⟨by omega,?_⟩
    rcases Nat.lt_or_ge (m+1) n with h2 | h2
    ·
     simp only [if_pos h2,hdm];exact (Wk.mk (by simp [hh]) (by simp [go_sem,nR]) (by simp [hu,qag hu,go_sem]) (by simp [go_sem]))
    ·
     have e:n=m+1:=by omega
     have hdn:depM l n n=depM l n m++[m]:=by rw [← hdm,← e]
     simp only [if_neg (show ¬ m+1<n by omega),hdn];exact (norm1_wk E _ 5).trans (Wk.mk (by simp [hh]) (by simp [go_sem,nR]) (by simp [hu,qag hu,go_sem]) (by simp [go_sem,AV.norm,qbc,wkT,nR]))
   ·
    rw [if_neg (by simp [h1])] at hdm;simp -dsimp [go_sem,hN,hw2]
    repeat refine ⟨by omega,?_⟩
    rcases Nat.lt_or_ge (m+1) n with h2 | h2
    ·
     simp only [if_pos h2,hdm];exact (Wk.mk (by simp [hh]) (by simp [go_sem,nR]) (by simp [hu,qag hu,go_sem]) (by simp [go_sem]))
    ·
     have e:n=m+1:=by omega
     have hdn:depM l n n=depM l n m:=by rw [← hdm,← e]
     simp only [if_neg (show ¬ m+1<n by omega),hdn];exact (norm1_wk E _ 5).trans (Wk.mk (by simp [hh]) (by simp [go_sem,nR]) (by simp [hu,qag hu,go_sem]) (by simp [go_sem,AV.norm,qbc,wkT,nR]))
  ·
   obtain rfl:m=n:=by omega
   simp only [if_neg (Nat.lt_irrefl m)];simp -dsimp [go_sem,hN,hal,hw];refine ⟨by omega,hc,?_⟩;rw [depsAll_succ];exact (Wk.mk (by simp [hh]) (by simp [go_sem,lR]) (by simp [hu,qag hu,go_sem]) (by simp [go_sem]))
 ·
  simp -dsimp [go_sem,hN,hal];rw [show n=l.length by omega]
end Go.Proofs.YtcjolkgjhcdhcaaGreatDoor

set_option maxRecDepth 4000
set_option maxHeartbeats 2000000
namespace Go.Proofs.YtcjolkgjhcdhcaaGreatDoor
open Go Go.Abs Go.Cw
def readyM (fs:List Foot) (done:List Bool) (n m:Nat):Bool:=!done.getD n false&&((depM fs n n).take m).all fun i=>done.getD i false
theorem readyM_all {fs:List Foot} {done:List Bool} {n m:Nat} (hn:n<fs.length) (hm:(depM fs n n).length≤m):readyM fs done n m=readyS fs done n:=by
 unfold readyM readyS;rw [List.take_of_length_le hm,depM_eq hn]
theorem readyM_succ {fs:List Foot} {done:List Bool} {n m:Nat} (h:m<(depM fs n n).length):readyM fs done n (m+1)=(readyM fs done n m&&done.getD (depM fs n n)[m] false):=by
 unfold readyM;rw [List.take_succ_eq_append_getElem h,List.all_append,Bool.and_assoc];simp
theorem c_ref26_ready (fs:List Foot) (done:List Bool) (h:qab) (k:Nat) (hk:h[k]?=some (.uarr 4 1 (done.map bRow))) (hl:done.length=fs.length) (hf:fs.length≤68719476736) :
  ACalls Tryz.prog 74 [.slice ((qbn fs fs.length).map lR),.own k fs.length] h fun r h'=>r=.ret (.slice ((candS fs done).map nR))∧h'=h:=by
 refine qav Tryz.func74 Tryz.ntmps74 rfl (by kernel_rfl) rfl fun E hN hh hu hb hb' hua=>?_;have hk':k<h.length:=(List.getElem?_eq_some_iff.1 hk).1;have a1:∀ l,(h++l)[k]?=some (.uarr 4 1 (done.map bRow)):=fun l=>by rw [List.getElem?_append_left hk'];exact hk
 have hdl:=depsAll_len fs fs.length;simp -dsimp [go_sem,hN];refine qaf fs.length (fun n=>True) (fun n=>⟨[(0,.slice ((qbn fs fs.length).map lR)),(1,.own k fs.length),(5,.own h.length (candM fs done n).length),(6,I n)],h++[.arr 3 1 ((candM fs done n).map nR)]⟩) trivial ((nil_wk E _ 5 3 1 (by simp [go_sem])).trans ?_) ?_
 · exact (Wk.mk (by simp [hh]) (by simp [go_sem,candM]) (by simp [hu,qag hu,go_sem]) (by simp [go_sem,candM];omega))
 intro n hn _;have hw:=qaq hn (show _≤68719476736 by omega);have hcl:=candM_len fs done n;have hcs:=candM_succ fs done n;simp only [hcs];simp -dsimp [go_sem,hN,hdl];refine cnd ?_ ?_<;>intro hc<;>simp at hc
 ·
  have hnd:n<done.length:=by omega
  have hda:n<(qbn fs fs.length).length:=by rw [hdl];exact hc
  have hdj:(qbn fs fs.length)[n]=depM fs n n:=by simp [qbn]
  have hg:done.getD n false=done[n]:=by rw [List.getD_eq_getElem?_getD,List.getElem?_eq_getElem hnd];rfl
  have hml:=depM_len fs n n;have he:done[n]?=some done[n]:=List.getElem?_eq_getElem hnd;simp -dsimp [go_sem,hN,a1,he,hc,bRow];refine ⟨⟨hl,hnd⟩,?_⟩;refine qaf (depM fs n n).length (fun m=>True) (fun m=>⟨[(0,.slice ((qbn fs fs.length).map lR)),(1,.own k fs.length),(5,.own h.length (candM fs done n).length),(6,I n),(7,Bo (readyM fs done n m)),(8,I m)],h++[.arr 3 1 ((candM fs done n).map nR)]⟩) trivial ?_ ?_
  ·
   have h0:readyM fs done n 0 = !done[n]:=by unfold readyM;rw [hg];simp
   rw [h0];exact (Wk.mk (by simp [hh]) (by simp [go_sem,nR]) (by simp [hu,qag hu,go_sem]) (by simp [go_sem];try omega))
  intro m hm _;have hwm:=qaq hm (show _≤68719476736 by omega);simp -dsimp [go_sem,hN,hda,hdj,lR];refine cnd ?_ ?_<;>intro hd<;>simp at hd
  ·
   have hx:=readyM_succ (done:=done) hd;have hxl:=depM_lt (List.getElem_mem hd);have hxd:(depM fs n n)[m]<done.length:=by omega
   have hg2:done.getD (depM fs n n)[m] false=done[(depM fs n n)[m]]:=by rw [List.getD_eq_getElem?_getD,List.getElem?_eq_getElem hxd];rfl
   have he2:done[(depM fs n n)[m]]?=some done[(depM fs n n)[m]]:=List.getElem?_eq_getElem hxd;have hxf:(depM fs n n)[m]<fs.length:=by omega
   rw [hx,hg2];rcases hr:readyM fs done n m with _ | _
   ·
    simp -dsimp [go_sem,hN,hda,hdj,lR,hd,hwm,hr,nR,a1,he2,hxf,bRow];exact (Wk.mk (by simp [hh]) (by simp [go_sem,nR]) (by simp [hu,qag hu,go_sem]) (by simp [go_sem];try omega))
   ·
    simp -dsimp [go_sem,hN,hda,hdj,lR,hd,hwm,hr,nR,a1,he2,hxf,bRow];exact ⟨⟨hl,hxd⟩,(Wk.mk (by simp [hh]) (by simp [go_sem,nR]) (by simp [hu,qag hu,go_sem]) (by simp [go_sem];try omega))⟩
  ·
   have hra:=readyM_all (done:=done) hc hd;rw [hra];simp -dsimp [go_sem,hN];refine cnd (fun h1=>?_) (fun h1=>?_)
   ·
    rw [if_pos h1];simp -dsimp [go_sem,hN,hw];exact ⟨by omega,hc,(Wk.mk (by simp [hh]) (by simp [go_sem,nR]) (by simp [hu,qag hu,go_sem]) (by simp [go_sem];try omega))⟩
   ·
    rw [if_neg (by simp [h1])];simp -dsimp [go_sem,hN,hw];exact ⟨hc,(Wk.mk (by simp [hh]) (by simp [go_sem,nR]) (by simp [hu,qag hu,go_sem]) (by simp [go_sem];try omega))⟩
 ·
  have e:n=fs.length:=by omega
  subst e;rw [candM_eq];simp -dsimp [go_sem,hN];exact ⟨_,.refl _,h,by simp [go_sem],by simp [go_sem],by simp,by simp [hu,go_sem],rfl,rfl⟩
theorem c_ref26_Order (procs:List Proc) (s:List Pr) (l:List Txn) (choices:List Int) (hB:BatchIn qb3 procs l) (hs:rngL s) (hll:l.length≤100000) :
  APure Tryz.prog 44 [.slice ((feetL l).map Foot.c),.slice (choices.map iRow)] (.slice ((mvN qb3 procs s l choices l.length).2.2.map nR)):=by
 refine qcz Tryz.func44 rfl (by kernel_rfl) (by simp [Tryz.ntmps44]) rfl ?_;intro E h hN hh hu hb;rw [Tryz.ntmps44] at hN;simp [go_sem] at hb;have hfl:=qei l;refine qcx (awp_ops ?_);simp [go_sem,hN];refine qcx (qa2 _ _ _ ?_);simp -dsimp [go_sem,hN];refine qaa (c_ref26_Deps (feetL l)) ?_;rw [hfl];simp -dsimp [go_sem,hN,hfl];refine qcx (awp_opsT [_,_] _ ?_);simp [go_sem,hN];intro c a w sm k;refine wp_makeT sm k (el:=4) (x:=.tmp 14) (d1:=15) (n:=l.length) (sz:=1) (zr:=[Bo false]) rfl rfl (by omega) rfl (by simp [go_sem]) (by simp [go_sem]) (by simp [go_sem]) (by omega) (by simp [go_sem]) (by simp [go_sem]) (by simp [go_sem,nilz]) (by simp [go_sem]) (by simp [go_sem,hfl]) (by omega) fun c' a' w' s' k'=>?_;refine qdb _ [_,_,_] _ rfl ?_ c' a' w' s' k';simp [go_sem,hN];apply qa2;simp -dsimp [go_sem,hN];refine qaf l.length (fun n=>True) (fun n=>⟨[(0,.slice ((feetL l).map Foot.c)),(1,.slice (choices.map iRow)),(5,.slice ((qbn (feetL l) l.length).map lR)),(6,.own h.length l.length),(7,.own (h.length+1) n),(8,I n)],h++[.uarr 4 1 ((mvN qb3 procs s l choices n).2.1.map bRow),.arr 3 1 ((mvN qb3 procs s l choices n).2.2.map nR)]⟩) trivial ((nil_wk E _ 7 3 1 (by simp [go_sem])).trans ?_) ?_
 ·
  simp only [mvN,List.range_zero,List.foldl_nil,List.map_replicate];exact (Wk.mk (by simp [hh]) (by simp [go_sem,bRow]) (by simp [hu,qag hu,go_sem]) (by simp [go_sem]))
 intro n hn _;have hw:=qaq hn (show _≤68719476736 by omega);have hJ:=mv_all (choices:=choices) hB hs n hn;have hsc:=mvN_succ (fmt:=qb3) (procs:=procs) (s:=s) (l:=l) (choices:=choices) n;simp only [hsc];obtain ⟨X,hX⟩:∃ X,mvN qb3 procs s l choices n=X:=⟨_,rfl⟩
 rw [hX] at hJ;simp only [hX];obtain ⟨Es,D,O⟩:=X;have he2:=hJ.inv.ld;have he3:=hJ.len;dsimp only at he2 he3 ⊢;have hal:(O.map nR).length=n:=by simpa using he3
 simp -dsimp [go_sem,hN,hfl];refine cnd ?_ ?_<;>intro hc<;>simp at hc
 ·
  have hcn:=cand_ne hJ hc;have hclt:=choice_lt (choices:=choices) (step:=n) hcn;dsimp only at hcn hclt;have hrd:=fun H k hk=>c_ref26_ready (feetL l) D H k hk (by omega) (by omega);rw [hfl] at hrd;have hcm:∀ x∈candS (feetL l) D,x<l.length:=fun x hx=>by
   unfold candS at hx;have:=List.mem_range.1 (List.mem_filter.1 hx).1;omega
  have hfe:l.map (·.ft)=feetL l:=rfl
  rw [hfe] at hcn hclt;have hms:mvStep qb3 procs s l choices (Es,D,O) n=mvStep qb3 procs s l choices (Es,D,O) n:=rfl
  conv at hms =>
   rhs
   unfold mvStep;rw [hfe]
  obtain ⟨cc,hcd⟩:∃ c,candS (feetL l) D=c:=⟨_,rfl⟩
  rw [hcd] at hcn hclt hcm;simp only [hcd] at hrd hms;have hci:=choice_iff (choices:=choices) (step:=n) (n:=cc.length);obtain ⟨q,hq⟩:∃ q,choiceS choices n cc.length=q:=⟨_,rfl⟩
  rw [hq] at hclt hci;obtain ⟨j,hj⟩:∃ j,cc[q]=j:=⟨_,rfl⟩
  have hjl:j<l.length:=by rw [← hj];exact hcm _ (List.getElem_mem hclt)
  simp only [hq,List.getD_eq_getElem?_getD,List.getElem?_eq_getElem hclt,Option.getD_some,hj] at hms;have hm1:(mvStep qb3 procs s l choices (Es,D,O) n).2.1=D.set j true:=by rw [hms]
  have hm2:(mvStep qb3 procs s l choices (Es,D,O) n).2.2=O++[j]:=by rw [hms]
  rw [hm1,hm2];simp -dsimp [go_sem,hN];refine qan (hrd _ h.length (by simp)) ?_;rintro r h' ⟨rfl,rfl⟩;by_cases hnc:n<choices.length
  ·
   rw [dif_pos hnc] at hci;by_cases hp:0<choices[n]
   ·
    rw [if_neg (by omega)] at hci;have hm:choices[n].tmod (cc.length:Int)=(q:Int):=by
     obtain ⟨v,hv⟩:=Int.eq_ofNat_of_zero_le (show 0≤choices[n] by omega);rw [hci,hv,Int.toNat_natCast];exact (Int.ofNat_tmod v cc.length).symm
    simp -dsimp [go_sem,hN,hnc,iRow,hp,hm,hclt,hj,nR,hjl,he2,hal,hw,bRow];exact ⟨fun e=>by rw [e] at hcn;simp at hcn,by omega,hc,(Wk.mk (by simp [hh]) (by simp [go_sem,nR,bRow]) (by simp [hu,qag hu,go_sem]) (by simp [go_sem]))⟩
   ·
    have hq0:q=0:=by
     rw [hci];split
     · rfl
     · rw [show choices[n].toNat=0 by omega,Nat.zero_mod]
    subst hq0;simp -dsimp [go_sem,hN,hnc,iRow,hp,hclt,hj,nR,hjl,he2,hal,hw,bRow];exact ⟨by omega,hc,(Wk.mk (by simp [hh]) (by simp [go_sem,nR,bRow]) (by simp [hu,qag hu,go_sem]) (by simp [go_sem]))⟩
  ·
   rw [dif_neg hnc] at hci;subst hci;simp -dsimp [go_sem,hN,hnc,iRow,hclt,hj,nR,hjl,he2,hal,hw,bRow];exact ⟨by omega,hc,(Wk.mk (by simp [hh]) (by simp [go_sem,nR,bRow]) (by simp [hu,qag hu,go_sem]) (by simp [go_sem]))⟩
 ·
  have e:n=l.length:=by omega
  subst e;simp -dsimp [go_sem,hN,hal];rw [hX]
theorem c_ref26_Round (procs:List Proc) (s:List Pr) (l:List Txn) (choices:List Int) (hB:BatchIn qb3 procs l) (hs:rngL s) (hll:l.length≤100000) (hL:s.length+64 * l.length≤60000000000) :
  APure Tryz.prog 20 [.slice (procs.map Proc.c),.slice (s.map Pr.c),.slice (l.map Txn.c),.slice (choices.map iRow)] (.tuple [.slice ((qb2 qb3 procs s l).1.map Pr.c),.slice ((qb2 qb3 procs s l).2.map Eff.c),.slice ((mvN qb3 procs s l choices l.length).2.2.map nR)]):=by
 refine qaj Tryz.func20 Tryz.ntmps20 rfl (by kernel_rfl) rfl rfl fun E h hN hh hu hb=>?_;simp -dsimp [go_sem,hN];refine qaa (c_ref21_Round procs s l hB hs hL) ?_;simp -dsimp [go_sem,hN];refine qaa (c_ref26_Feet l) ?_;simp -dsimp [go_sem,hN];refine qaa (c_ref26_Order procs s l choices hB hs hll) ?_;simp -dsimp [go_sem,hN]
end Go.Proofs.YtcjolkgjhcdhcaaGreatDoor
