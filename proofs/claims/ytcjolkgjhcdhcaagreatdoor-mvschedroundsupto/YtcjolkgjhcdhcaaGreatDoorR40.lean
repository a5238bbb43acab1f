/- Part 40 of a proof: W70, W70b, W70c, W72 -/
import Derived.Test.YtcjolkgjhcdhcaaGreatDoorR17
import Derived.Test.YtcjolkgjhcdhcaaGreatDoorR18
import Derived.Test.YtcjolkgjhcdhcaaGreatDoorR19
import Derived.Test.YtcjolkgjhcdhcaaGreatDoorR26
import Derived.Test.YtcjolkgjhcdhcaaGreatDoorR27
import Derived.Test.YtcjolkgjhcdhcaaGreatDoorR34
import Derived.Test.YtcjolkgjhcdhcaaGreatDoorR39
set_option linter.all false

set_option maxRecDepth 4000
set_option maxHeartbeats 2000000
namespace Go.Proofs.YtcjolkgjhcdhcaaGreatDoor
open Go Go.Abs Go.Cw
theorem c_IndexFunc_S (l:List qac) (f:FuncId) (caps:List AV) (q:qac→Bool) (h:qab) (hcn:qbc h caps=caps) (hp:∀ x:qac,ACalls Tryz.prog f ([S x]++caps) h fun r h'=>r=.ret (Bo (q x))∧h'=h) :
  ACalls Tryz.prog 79 [.slice (l.map qbd),.fn (.func f) [] caps] h fun r h'=>r=.ret (I (idxOf q l))∧h'=h:=by
 refine qav Tryz.func79 Tryz.ntmps79 rfl (by kernel_rfl) rfl fun E hN hh hu hb hb' hua=>?_;simp [go_sem] at hb;simp -dsimp [go_sem,hN];refine qaf l.length (fun n=>qbw q n (l.drop n)=idxOf q l) (fun n=>⟨[(0,.slice (l.map qbd)),(1,.fn (.func f) [] caps),(7,I l.length),(8,I n)],h⟩) (by simp [idxOf]) (Wk.mk (by simp [hh]) (by simp) (by simp [hu]) (by simp [go_sem];simpa [go_sem] using hua)) ?_;intro n hn hI;have hw:=qaq hn hb.1;simp -dsimp [go_sem,hN];refine cnd ?_ ?_<;>intro hc<;>simp at hc
 ·
  rw [qad hc,qbw] at hI;simp -dsimp [go_sem,hN,hc,hcn];refine qan (hp l[n]) ?_;rintro r h' ⟨rfl,rfl⟩;simp -dsimp [go_sem,hN];refine cnd ?_ ?_<;>intro hg<;>try simp at hg
  ·
   simp -dsimp [go_sem,hN];rw [if_pos hg] at hI;rw [hI];exact ⟨_,.refl _,h',by simp [go_sem],by simp [go_sem],by simp,by simp [hu,go_sem],rfl,rfl⟩
  ·
   simp -dsimp [go_sem,hN,hw];exact ⟨hc,by simpa [hg] using hI,Wk.mk (by simp [hh]) (by simp) (by simp [hu]) (by simp [go_sem];simpa [go_sem] using hua)⟩
 ·
  rw [List.drop_eq_nil_of_le (by omega),qbw] at hI;simp -dsimp [go_sem,hN,← hI];exact ⟨_,.refl _,h,by simp [go_sem],by simp [go_sem],by simp,by simp [hu,go_sem],rfl,rfl⟩
theorem c_ContainsFunc_S (l:List qac) (f:FuncId) (caps:List AV) (q:qac→Bool) (h:qab) (hcn:qbc h caps=caps) (hp:∀ x:qac,ACalls Tryz.prog f ([S x]++caps) h fun r h'=>r=.ret (Bo (q x))∧h'=h) :
  ACalls Tryz.prog 51 [.slice (l.map qbd),.fn (.func f) [] caps] h fun r h'=>r=.ret (Bo (l.any q))∧h'=h:=by
 refine qav Tryz.func51 Tryz.ntmps51 rfl (by kernel_rfl) rfl fun E hN hh hu hb hb' hua=>?_;simp -dsimp [go_sem,hN,hcn];refine qan (c_IndexFunc_S l f caps q _ hcn hp) ?_;rintro r h' ⟨rfl,rfl⟩;simp -dsimp [go_sem,hN,idxOf_nonneg,anyL_any];exact ⟨_,.refl _,h',by simp [go_sem],by simp [go_sem],by simp,by simp [hu,go_sem],rfl,rfl⟩
theorem c_IndexFunc_N (l:List Nat) (f:FuncId) (caps:List AV) (q:Nat→Bool) (h:qab) (hcn:qbc h caps=caps) (hp:∀ x∈l,ACalls Tryz.prog f ([I (x:Int)]++caps) h fun r h'=>r=.ret (Bo (q x))∧h'=h) :
  ACalls Tryz.prog 70 [.slice (l.map nR),.fn (.func f) [] caps] h fun r h'=>r=.ret (I (idxOf q l))∧h'=h:=by
 refine qav Tryz.func70 Tryz.ntmps70 rfl (by kernel_rfl) rfl fun E hN hh hu hb hb' hua=>?_;simp [go_sem] at hb;simp -dsimp [go_sem,hN];refine qaf l.length (fun n=>qbw q n (l.drop n)=idxOf q l) (fun n=>⟨[(0,.slice (l.map nR)),(1,.fn (.func f) [] caps),(7,I l.length),(8,I n)],h⟩) (by simp [idxOf]) (Wk.mk (by simp [hh]) (by simp) (by simp [hu]) (by simp [go_sem];simpa [go_sem] using hua)) ?_;intro n hn hI;have hw:=qaq hn hb.1;simp -dsimp [go_sem,hN];refine cnd ?_ ?_<;>intro hc<;>simp at hc
 ·
  rw [qad hc,qbw] at hI;simp -dsimp [go_sem,hN,hc,hcn,nR];refine qan (hp l[n] (List.getElem_mem hc)) ?_;rintro r h' ⟨rfl,rfl⟩;simp -dsimp [go_sem,hN];refine cnd ?_ ?_<;>intro hg<;>try simp at hg
  ·
   simp -dsimp [go_sem,hN];rw [if_pos hg] at hI;rw [hI];exact ⟨_,.refl _,h',by simp [go_sem],by simp [go_sem],by simp,by simp [hu,go_sem],rfl,rfl⟩
  ·
   simp -dsimp [go_sem,hN,hw];exact ⟨hc,by simpa [hg] using hI,Wk.mk (by simp [hh]) (by simp) (by simp [hu]) (by simp [go_sem];simpa [go_sem] using hua)⟩
 ·
  rw [List.drop_eq_nil_of_le (by omega),qbw] at hI;simp -dsimp [go_sem,hN,← hI];exact ⟨_,.refl _,h,by simp [go_sem],by simp [go_sem],by simp,by simp [hu,go_sem],rfl,rfl⟩
theorem c_ContainsFunc_N (l:List Nat) (f:FuncId) (caps:List AV) (q:Nat→Bool) (h:qab) (hcn:qbc h caps=caps) (hp:∀ x∈l,ACalls Tryz.prog f ([I (x:Int)]++caps) h fun r h'=>r=.ret (Bo (q x))∧h'=h) :
  ACalls Tryz.prog 39 [.slice (l.map nR),.fn (.func f) [] caps] h fun r h'=>r=.ret (Bo (l.any q))∧h'=h:=by
 refine qav Tryz.func39 Tryz.ntmps39 rfl (by kernel_rfl) rfl fun E hN hh hu hb hb' hua=>?_;simp -dsimp [go_sem,hN,hcn];refine qan (c_IndexFunc_N l f caps q _ hcn hp) ?_;rintro r h' ⟨rfl,rfl⟩;simp -dsimp [go_sem,hN,idxOf_nonneg,anyL_any];exact ⟨_,.refl _,h',by simp [go_sem],by simp [go_sem],by simp,by simp [hu,go_sem],rfl,rfl⟩
theorem c_mv_effective (f:Foot):APure Tryz.prog 32 [.agg f.c] (.agg (effF f).c):=by
 refine qaj Tryz.func32 Tryz.ntmps32 rfl (by kernel_rfl) rfl rfl fun E h hN hh hu hb=>?_;simp -dsimp [go_sem,hN,Foot.c];refine qaa (c_fp_Valid f) ?_;simp -dsimp [go_sem,hN];refine cnd ?_ ?_<;>intro h0<;>try simp at h0
 · simp -dsimp [go_sem,hN,effF,h0,Foot.c]
 · simp -dsimp [go_sem,hN,effF,h0,Foot.c]
theorem c_mv_depends1 (k:qac) (h:qab) (i:Nat) (f:Foot) (hi:h[i]?=some (.cells f.c)):ACalls Tryz.prog 52 [S k,.ptr i 0] h fun r h'=>r=.ret (Bo (qcr f.reads k))∧h'=h:=by
 refine qav Tryz.func52 Tryz.ntmps52 rfl (by kernel_rfl) rfl fun E hN hh hu hb hb' hua=>?_;have hi':i<h.length:=(List.getElem?_eq_some_iff.1 hi).1;have a1:∀ l,(h++l)[i]?=some (.cells f.c):=fun l=>by rw [List.getElem?_append_left hi'];exact hi
 simp -dsimp [go_sem,hN,hi,a1,hu,Foot.c];refine qaa (c_Contains_S f.reads k) ?_;simp -dsimp [go_sem,hN];exact ⟨_,.refl _,h,by simp [go_sem],by simp [go_sem],by simp,by simp [hu,go_sem],rfl,rfl⟩
theorem c_mv_depends (a b:Foot):APure Tryz.prog 31 [.agg a.c,.agg b.c] (Bo (depS a b)):=by
 refine qaj Tryz.func31 Tryz.ntmps31 rfl (by kernel_rfl) rfl rfl fun E h hN hh hu hb=>?_;simp [go_sem,Foot.c] at hb;simp -dsimp [go_sem,hN,Foot.c];refine cnd ?_ ?_<;>intro h0<;>try simp at h0
 · simp -dsimp [go_sem,hN,depS,h0]
 simp -dsimp [go_sem,hN];refine cnd ?_ ?_<;>intro h1<;>try simp at h1
 · simp -dsimp [go_sem,hN,depS,h0,h1]
 simp -dsimp [go_sem,hN];refine qan (c_ContainsFunc_S a.writes _ _ (fun k=>qcr b.reads k) _ (by simp [qbc,AV.norm]) (fun k=>c_mv_depends1 k _ _ b (by simp [Foot.c]))) ?_;rintro r h' ⟨rfl,rfl⟩;simp -dsimp [go_sem,hN,depS,h0,h1]
theorem c_mv_Deps (l:List Foot):APure Tryz.prog 12 [.slice (l.map Foot.c)] (.slice ((qbn l l.length).map lR)):=by
 refine qaj Tryz.func12 Tryz.ntmps12 rfl (by kernel_rfl) rfl rfl fun E h hN hh hu hb=>?_;simp [go_sem] at hb;simp -dsimp [go_sem,hN];refine qaf l.length (fun n=>True) (fun n=>⟨[(0,.slice (l.map Foot.c)),(3,.own h.length n),(8,I l.length),(9,I n)],h++[.arr 28 1 ((qbn l n).map lR)]⟩) trivial ((nil_wk E _ 3 28 1 (by simp [go_sem])).trans ?_) ?_
 ·
  simp [qbn];exact wkA
 intro n hn _;have hw:=qaq hn (show _≤68719476736 by omega);have hal:=depsAll_len l n;simp -dsimp [go_sem,hN];refine cnd ?_ ?_<;>intro hc<;>simp at hc
 ·
  simp -dsimp [go_sem,hN,hc];refine qaf n (fun m=>True) (fun m=>⟨[(0,.slice (l.map Foot.c)),(3,.own h.length n),(4,I n),(5,if m<n then .own (h.length+1) (depM l n m).length else .slice ((depM l n n).map nR)),(8,I l.length),(9,I n),(12,I n),(13,I m)],h++.arr 28 1 ((qbn l n).map lR)::if m<n then [.arr 3 1 ((depM l n m).map nR)] else []⟩) trivial ?_ ?_
  ·
   by_cases h0:0<n
   ·
    simp only [if_pos h0];refine (nil_wk E _ 5 3 1 (by simp [go_sem])).trans ?_;simp [depM];exact wkA
   ·
    obtain rfl:n=0:=by omega
    simp [depM];exact wkA
  intro m hm _;have hw2:=qaq hm (show _≤68719476736 by omega);rcases Nat.lt_or_ge m n with hd | hd
  ·
   have hml:m<l.length:=by omega
   have hdl:=depM_len l n m;have hdm:=depM_succ (fs:=l) hc hml;simp only [if_pos hd];simp -dsimp [go_sem,hN,hd];refine qah 9 mixed (by kernel_rfl) (by kernel_rfl) ?_;simp -dsimp [go_sem,hN,hc,hml];refine qay (c_mv_effective l[m]) (by simp) ?_;simp -dsimp [go_sem,hN,hc];refine qaa (c_mv_effective l[n]) ?_;simp -dsimp [go_sem,hN];refine qaa (c_mv_depends (effF l[m]) (effF l[n])) ?_;simp -dsimp [go_sem,hN];refine cnd (fun h1=>?_) (fun h1=>?_)
   ·
    rw [if_pos h1] at hdm;simp -dsimp [go_sem,hN,hw2]
    repeat refine ⟨by omega,?_⟩
    rcases Nat.lt_or_ge (m+1) n with h2 | h2
    ·
     simp only [if_pos h2,hdm];exact (Wk.mk (by simp [hh]) (by simp [go_sem,nR]) (by simp [hu,qag hu,go_sem]) (by simp [go_sem]))
    ·
     have e:n=m+1:=by omega
     have hdn:depM l n n=depM l n m++[m]:=by rw [← hdm,← e]
     simp only [if_neg (show ¬ m+1<n by omega),hdn];exact (norm1_wk E _ 5).trans (Wk.mk (by simp [hh]) (by simp [go_sem,nR]) (by simp [hu,qag hu,go_sem]) (by simp [go_sem,AV.norm,qbc,wkT,nR]))
   ·
    rw [if_neg (by simp [h1])] at hdm;simp -dsimp [go_sem,hN,hw2]
    repeat refine ⟨by omega,?_⟩
    rcases Nat.lt_or_ge (m+1) n with h2 | h2
    ·
     simp only [if_pos h2,hdm];exact (Wk.mk (by simp [hh]) (by simp [go_sem,nR]) (by simp [hu,qag hu,go_sem]) (by simp [go_sem]))
    ·
     have e:n=m+1:=by omega
     have hdn:depM l n n=depM l n m:=by rw [← hdm,← e]
     simp only [if_neg (show ¬ m+1<n by omega),hdn];exact (norm1_wk E _ 5).trans (Wk.mk (by simp [hh]) (by simp [go_sem,nR]) (by simp [hu,qag hu,go_sem]) (by simp [go_sem,AV.norm,qbc,wkT,nR]))
  ·
   obtain rfl:m=n:=by omega
   simp only [if_neg (Nat.lt_irrefl m)];simp -dsimp [go_sem,hN,hal,hw];refine ⟨by omega,hc,?_⟩;rw [depsAll_succ];exact (Wk.mk (by simp [hh]) (by simp [go_sem,lR]) (by simp [hu,qag hu,go_sem]) (by simp [go_sem]))
 ·
  simp -dsimp [go_sem,hN,hal];rw [show n=l.length by omega]
end Go.Proofs.YtcjolkgjhcdhcaaGreatDoor

set_option maxRecDepth 4000
set_option maxHeartbeats 2000000
namespace Go.Proofs.YtcjolkgjhcdhcaaGreatDoor
open Go Go.Abs Go.Cw
theorem c_mv_choice (choices:List Int) (step n:Nat) (hn:0<n):APure Tryz.prog 41 [.slice (choices.map iRow),I step,I n] (I (choiceS choices step n)):=by
 refine qaj Tryz.func41 Tryz.ntmps41 rfl (by kernel_rfl) rfl rfl fun E h hN hh hu hb=>?_;simp [go_sem] at hb;have hC:=choice_iff (choices:=choices) (step:=step) (n:=n);by_cases hs:step<choices.length
 ·
  rw [dif_pos hs] at hC;have hz:¬ (choices.length:Int)≤(step:Int):=by omega
  simp -dsimp [go_sem,hN,hs,hz,iRow];refine cnd ?_ ?_<;>intro h0<;>simp at h0
  ·
   rw [if_pos (by omega)] at hC;simp -dsimp [go_sem,hN,hC]
  ·
   rw [if_neg (by omega)] at hC;obtain ⟨c,hc⟩:=Int.eq_ofNat_of_zero_le (show 0≤choices[step] by omega);have hm:choices[step].tmod (n:Int)=((choices[step].toNat % n:Nat):Int):=by
    rw [hc,Int.toNat_natCast];exact (Int.ofNat_tmod c n).symm
   simp -dsimp [go_sem,hN,hs,iRow,hm,hC];omega
 ·
  rw [dif_neg hs] at hC;have hz:(choices.length:Int)≤(step:Int):=by omega
  simp -dsimp [go_sem,hN,hz,hC]
theorem vis_next {effs:List Eff} {done:List Bool} {s:List Pr} {n:Nat} (h1:n<effs.length) (h2:n<done.length):visS effs done s (n+1)=if done[n]=true then qdp (visS effs done s n) effs[n] else visS effs done s n:=by
 rw [visS,List.getD_eq_getElem?_getD,List.getElem?_eq_getElem h2,List.getElem?_eq_getElem h1];rfl
theorem c_mv_VisibleU (effs:List Eff) (done:List Bool) (i:Nat) (s:List Pr) (h:qab) (a b:Nat) (ha:h[a]?=some (.uarr 39 8 (effs.map Eff.c))) (hb0:h[b]?=some (.uarr 4 1 (done.map bRow))) (hi:i≤effs.length) (hi2:i≤done.length) (hl:effs.length≤68719476736) (hl2:done.length≤68719476736) (hL:∀ k (h:k<effs.length),done.getD k false=true→(visS effs done s k).length+effs[k].writes.length<68719476736) :
  ACalls Tryz.prog 16 [.own a effs.length,.own b done.length,I i,.slice (s.map Pr.c)] h fun r h'=>r=.ret (.slice ((visS effs done s i).map Pr.c))∧h'=h:=by
 refine qav Tryz.func16 Tryz.ntmps16 rfl (by kernel_rfl) rfl fun E hN hh hu hb hb' hua=>?_;have ha':a<h.length:=(List.getElem?_eq_some_iff.1 ha).1;have hb1:b<h.length:=(List.getElem?_eq_some_iff.1 hb0).1;simp -dsimp [go_sem,hN];refine qaa (c_Clone_P s) ?_;simp -dsimp [go_sem,hN];refine qaf i (fun n=>True) (fun n=>⟨[(0,.own a effs.length),(1,.own b done.length),(2,I i),(9,.slice ((visS effs done s n).map Pr.c)),(10,I n)],h⟩) trivial ?_ ?_
 ·
  simp [visS];exact (wkA (by simp [go_sem,ha',hb1]))
 intro n hn _;have hw:=qaq hn (show _≤68719476736 by omega);have hz1:¬ effs.length<i:=by omega
 have hz2:¬ done.length<i:=by omega
 have hz3:¬ (effs.length:Int)<(i:Int):=by omega
 have hz4:¬ (done.length:Int)<(i:Int):=by omega
 simp -dsimp [go_sem,hN,ha,hb0,hz1,hz2,hz3,hz4];refine cnd ?_ ?_<;>intro hc<;>simp at hc
 ·
  have h1:n<effs.length:=by omega
  have h2:n<done.length:=by omega
  have hv:=vis_next (s:=s) h1 h2;have hLn:=fun g=>hL n h1 g;rw [List.getD_eq_getElem?_getD,List.getElem?_eq_getElem h2,Option.getD_some] at hLn;obtain ⟨V,hV⟩:∃ V,visS effs done s n=V:=⟨_,rfl⟩
  rw [hV] at hv hLn;simp only [hV];rcases hd:done[n] with _ | _
  ·
   rw [hd,if_neg (by simp)] at hv;simp -dsimp [go_sem,hN,ha,hb0,h1,h2,hd,bRow,hw];rw [hv];exact ⟨by omega,(wkA (by simp [go_sem,ha',hb1]))⟩
  ·
   rw [hd,if_pos rfl] at hv;have hA:=c_state_Apply V effs[n].writes (hLn hd);simp -dsimp [go_sem,hN,ha,hb0,h1,h2,hd,bRow,Eff.c];refine cnd ?_ ?_<;>intro h3<;>simp at h3
   ·
    simp -dsimp [go_sem,hN,hw];rw [hv,show qdp V effs[n]=V by unfold qdp;rw [if_neg (fun g=>h3 g.1)]];exact ⟨by omega,(wkA (by simp [go_sem,ha',hb1]))⟩
   ·
    simp -dsimp [go_sem,hN,ha,h1,Eff.c];by_cases hok:qa0 V=true∧qcm effs[n].writes=true
    ·
     rw [hok.1,hok.2] at hA;simp only [Bool.and_self,if_true] at hA;refine qaa hA ?_;simp -dsimp [go_sem,hN,hw];rw [hv,show qdp V effs[n]=applyP V effs[n].writes by unfold qdp;rw [if_pos ⟨h3,hok⟩]];exact ⟨by omega,(wkA (by simp [go_sem,ha',hb1]))⟩
    ·
     rw [if_neg (by simpa using hok)] at hA;refine qaa hA ?_;simp -dsimp [go_sem,hN,hw];rw [hv,show qdp V effs[n]=V by unfold qdp;rw [if_neg (fun g=>hok g.2)]];exact ⟨by omega,(wkA (by simp [go_sem,ha',hb1]))⟩
 ·
  have e:n=i:=by omega
  subst e;simp -dsimp [go_sem,hN];exact ⟨_,.refl _,h,by simp [go_sem],by simp [go_sem],by simp,by simp [hu,go_sem],rfl,rfl⟩
theorem c_mv_Round11 (j:Nat) (h:qab) (pd k L:Nat) (done:List Bool) (hpd:h[pd]?=some (.cells [.own k L])) (hk:h[k]?=some (.uarr 4 1 (done.map bRow))) (hl:done.length=L) (hj:j<L) :
  ACalls Tryz.prog 40 [I j,.ptr pd 0] h fun r h'=>r=.ret (Bo (!done.getD j false))∧h'=h:=by
 refine qav Tryz.func40 Tryz.ntmps40 rfl (by kernel_rfl) rfl fun E hN hh hu hb hb' hua=>?_;have hp':pd<h.length:=(List.getElem?_eq_some_iff.1 hpd).1;have hk':k<h.length:=(List.getElem?_eq_some_iff.1 hk).1;have hg:done.getD j false=done[j]:=by rw [List.getD_eq_getElem?_getD,List.getElem?_eq_getElem (by omega)];rfl
 simp -dsimp [go_sem,hN,hpd,hk,hl,hj,bRow,hg];exact ⟨_,.refl _,h,by simp [go_sem],by simp [go_sem],by simp,by simp [hu,go_sem],rfl,rfl⟩
end Go.Proofs.YtcjolkgjhcdhcaaGreatDoor

set_option maxRecDepth 4000
set_option maxHeartbeats 2000000
namespace Go.Proofs.YtcjolkgjhcdhcaaGreatDoor
open Go Go.Abs Go.Cw
theorem c_mv_Round1 (j:Nat) (h:qab) (pd pq k:Nat) (done:List Bool) (fs:List Foot) (hpd:h[pd]?=some (.cells [.own k done.length])) (hk:h[k]?=some (.uarr 4 1 (done.map bRow))) (hpq:h[pq]?=some (.cells [.slice ((qbn fs fs.length).map lR)])) (hl:done.length=fs.length) (hj:j<fs.length) :
  ACalls Tryz.prog 38 [I j,.ptr pd 0,.ptr pq 0] h fun r h'=>r=.ret (Bo (readyS fs done j))∧h'=h:=by
 refine qav Tryz.func38 Tryz.ntmps38 rfl (by kernel_rfl) rfl fun E hN hh hu hb hb' hua=>?_;have hp':pd<h.length:=(List.getElem?_eq_some_iff.1 hpd).1;have hq':pq<h.length:=(List.getElem?_eq_some_iff.1 hpq).1;have hk':k<h.length:=(List.getElem?_eq_some_iff.1 hk).1;have hjd:j<done.length:=by omega
 have hg:done.getD j false=done[j]:=by rw [List.getD_eq_getElem?_getD,List.getElem?_eq_getElem hjd];rfl
 have hr:readyS fs done j=(!done[j]&&!((depM fs j j).any fun i=>!done.getD i false)):=by
  unfold readyS;rw [hg,← depM_eq hj,List.not_any_eq_all_not];simp
 have hda:j<(qbn fs fs.length).length:=by rw [depsAll_len];exact hj
 have hdj:(qbn fs fs.length)[j]=depM fs j j:=by simp [qbn]
 have hcf:=c_ContainsFunc_N (depM fs j j) 40 [.ptr pd 0] (fun i=>!done.getD i false) h (by simp [qbc,AV.norm]) (fun x hx=>c_mv_Round11 x h pd k done.length done hpd hk rfl (by have:=depM_lt hx;omega));rcases hd:done[j] with _ | _
 ·
  simp -dsimp [go_sem,hN,hpd,hk,hpq,hjd,hda,hdj,bRow,hd,lR];refine tgcall_true (by simp) (hcf.mono ?_);rintro r h' ⟨rfl,rfl⟩;simp -dsimp [go_sem,hN];rw [hr,hd];exact ⟨_,.refl _,h',by simp [go_sem],hwk.refl _,Nat.le_refl _,hu,by simp,rfl⟩
 ·
  simp -dsimp [go_sem,hN,hpd,hk,hpq,hjd,hda,hdj,bRow,hd,lR];refine qdh ?_;simp -dsimp [go_sem,hN];rw [hr,hd];exact ⟨_,.refl _,h,by simp [go_sem],hwk.refl _,Nat.le_refl _,hu,by simp,rfl⟩
variable {tT:TypeId} {tx:Nat×Nat} {g:Nat}
theorem c_mv_Round0 (procs:List Proc) (s:List Pr) (l:List Txn) (choices:List Int) (h:qab) (hg:h[g]?=some (tabO tT tx)) (hB:BatchIn qb3 procs l) (hs:rngL s) (hL:s.length+192 * l.length≤60000000000) :
  ACalls Tryz.prog 19 [.slice (procs.map Proc.c),.slice (s.map Pr.c),.slice (l.map Txn.c),.slice (choices.map iRow)] h fun r h'=>r=.ret (.tuple [.slice ((visS (mvN qb3 procs s l choices l.length).1 (mvN qb3 procs s l choices l.length).2.1 s l.length).map Pr.c),.own (h.length+2) l.length,.slice ((mvN qb3 procs s l choices l.length).2.2.map nR)])∧h'=h++[.none,.none,.uarr 39 8 ((mvN qb3 procs s l choices l.length).1.map Eff.c)]:=by
 refine qav Tryz.func19 Tryz.ntmps19 rfl (by kernel_rfl) rfl fun E hN hh hu hb hb' hua=>?_;have hgl:g<h.length:=(List.getElem?_eq_some_iff.1 hg).1;have hg':∀ l:qab,(h++l)[g]?=some (tabO tT tx):=fun l=>by rw [List.getElem?_append_left hgl];exact hg
 simp [go_sem] at hb;simp -dsimp [go_sem,hN];refine qaf l.length (fun n=>True) (fun n=>⟨[(0,.slice (procs.map Proc.c)),(1,.slice (s.map Pr.c)),(2,.slice (l.map Txn.c)),(3,.slice (choices.map iRow)),(11,.own h.length n),(23,.slice (l.map Txn.c)),(24,I l.length),(25,I n)],h++[.arr 58 3 ((feetR l).take n)]⟩) trivial ((nil_wk E _ 11 58 3 (by simp [go_sem])).trans ?_) ?_
 ·
  simp;exact wkA
 intro n hn _;have hw:=qaq hn (show _≤68719476736 by omega);have hal:=feetR_tlen hn;simp -dsimp [go_sem,hN];refine cnd ?_ ?_<;>intro hc<;>simp at hc
 ·
  simp -dsimp [go_sem,hN,hc,hw,hal,Txn.c];rw [feetR_take hc];exact ⟨by omega,Wk.mk (by simp [hh]) (by simp [go_sem,Foot.c]) (by simp [hu,qag hu,go_sem]) (by simp [go_sem])⟩
 ·
  have hn2:n=l.length:=by omega
  subst hn2;rw [feetR_all];simp -dsimp [go_sem,hN,qei];refine qaa (c_mv_Deps (feetL l)) ?_;simp -dsimp [go_sem,hN];refine awp_drawM 8 mixed (by kernel_rfl) ?_;simp -dsimp [go_sem,hN,qei];refine ⟨by omega,?_⟩;refine qaf l.length (fun n=>True) (fun n=>⟨[(0,.slice (procs.map Proc.c)),(1,.slice (s.map Pr.c)),(2,.slice (l.map Txn.c)),(3,.slice (choices.map iRow)),(14,P0 (h.length+1)),(15,.own (h.length+2) l.length),(16,P0 (h.length+4)),(17,.fn (.func 38) [] [P0 (h.length+4),P0 (h.length+1)]),(18,.own (h.length+5) n),(45,I l.length),(46,I n)],h++[.none,.cells [.slice ((qbn (feetL l) l.length).map lR)],.uarr 39 8 ((mvN qb3 procs s l choices n).1.map Eff.c),.uarr 4 1 ((mvN qb3 procs s l choices n).2.1.map bRow),.cells [.own (h.length+3) l.length],.arr 3 1 ((mvN qb3 procs s l choices n).2.2.map nR)]⟩) trivial ((nil_wk E _ 18 3 1 (by simp [go_sem])).trans ?_) ?_
  ·
   simp only [mvN,List.range_zero,List.foldl_nil,List.map_replicate];exact (Wk.mk (by simp [hh]) (by simp [go_sem,zeroE,Eff.c,bRow,qei,nilz,em]) (by simp [hu,qag hu,go_sem]) (by simp [go_sem]))
  intro n hn _;have hw:=qaq hn (show _≤68719476736 by omega);have hJ:=mv_all (choices:=choices) hB hs n hn;have hsc:=mvN_succ (fmt:=qb3) (procs:=procs) (s:=s) (l:=l) (choices:=choices) n;simp only [hsc];obtain ⟨X,hX⟩:∃ X,mvN qb3 procs s l choices n=X:=⟨_,rfl⟩
  rw [hX] at hJ;simp only [hX];obtain ⟨Es,D,O⟩:=X;have he1:=hJ.inv.le;have he2:=hJ.inv.ld;have he3:=hJ.len;dsimp only at he1 he2 he3 ⊢;have hal:(O.map nR).length=n:=by simpa using he3
  simp -dsimp [go_sem,hN];refine cnd ?_ ?_<;>intro hc<;>simp at hc
  ·
   have hcn:=cand_ne hJ hc;have hclt:=choice_lt (choices:=choices) (step:=n) hcn;dsimp only at hcn hclt;simp -dsimp [go_sem,hN];refine qaf l.length (fun m=>True) (fun m=>⟨[(0,.slice (procs.map Proc.c)),(1,.slice (s.map Pr.c)),(2,.slice (l.map Txn.c)),(3,.slice (choices.map iRow)),(14,P0 (h.length+1)),(15,.own (h.length+2) l.length),(16,P0 (h.length+4)),(17,.fn (.func 38) [] [P0 (h.length+4),P0 (h.length+1)]),(18,.own (h.length+5) n),(19,I n),(20,.own (h.length+6) (candM (feetL l) D m).length),(45,I l.length),(46,I n),(50,I l.length),(51,I m)],h++[.none,.cells [.slice ((qbn (feetL l) l.length).map lR)],.uarr 39 8 (Es.map Eff.c),.uarr 4 1 (D.map bRow),.cells [.own (h.length+3) l.length],.arr 3 1 (O.map nR),.arr 3 1 ((candM (feetL l) D m).map nR)]⟩) trivial ((nil_wk E _ 20 3 1 (by simp [go_sem])).trans ?_) ?_
   · exact (Wk.mk (by simp [hh]) (by simp [go_sem,candM]) (by simp [hu,qag hu,go_sem]) (by simp [go_sem,candM]))
   intro m hm _;have hwm:=qaq hm (show _≤68719476736 by omega);have hcl:=candM_len (feetL l) D m;simp -dsimp [go_sem,hN];refine cnd ?_ ?_<;>intro hd<;>simp at hd
   ·
    have hcs:=candM_succ (feetL l) D m;simp -dsimp [go_sem,hN];refine qan (c_mv_Round1 m _ (h.length+4) (h.length+1) (h.length+3) D (feetL l) (by simp [he2]) (by simp) (by simp [qei]) (by simp [he2,qei]) (by simpa [qei] using hd)) ?_;rintro r h' ⟨rfl,rfl⟩;simp -dsimp [go_sem,hN];refine cnd (fun h1=>?_) (fun h1=>?_)
    ·
     rw [if_pos h1] at hcs;simp -dsimp [go_sem,hN,hwm];rw [hcs]
     repeat refine ⟨by omega,?_⟩
     exact (Wk.mk (by simp [hh]) (by simp [go_sem,nR]) (by simp [hu,qag hu,go_sem]) (by simp [go_sem]))
    ·
     rw [if_neg (by simp [h1])] at hcs;simp -dsimp [go_sem,hN,hwm];rw [hcs]
     repeat refine ⟨by omega,?_⟩
     exact (Wk.mk (by simp [hh]) (by simp [go_sem,nR]) (by simp [hu,qag hu,go_sem]) (by simp [go_sem]))
   ·
    have hm2:m=l.length:=by omega
    subst hm2;have hce:candM (feetL l) D l.length=candS (l.map (·.ft)) D:=by
     have:=candM_eq (feetL l) D;rw [qei] at this;exact this
    have hcm:∀ x∈candS (l.map (·.ft)) D,x<l.length:=fun x hx=>by
     unfold candS at hx;have:=List.mem_range.1 (List.mem_filter.1 hx).1;simpa using this
    obtain ⟨c,hcd⟩:∃ c,candS (l.map (·.ft)) D=c:=⟨_,rfl⟩
    rw [hce,hcd] at hcl;rw [hcd] at hcn hclt hcm;obtain ⟨q,hq⟩:∃ q,choiceS choices n c.length=q:=⟨_,rfl⟩
    have hch:=c_mv_choice choices n c.length hcn;rw [hq] at hclt hch;obtain ⟨j,hj⟩:∃ j,c[q]=j:=⟨_,rfl⟩
    have hjl:j<l.length:=by rw [← hj];exact hcm _ (List.getElem_mem hclt)
    have hms:mvStep qb3 procs s l choices (Es,D,O) n=(Es.set j (oneS qb3 procs (visS Es D s j) l[j]).2,D.set j true,O++[j]):=by
     unfold mvStep;simp only [hcd,hq,List.getD_eq_getElem?_getD,List.getElem?_eq_getElem hclt,Option.getD_some,hj,List.getElem?_eq_getElem hjl]
    rw [hms];rw [hce,hcd];obtain ⟨hv1,hv2⟩:=vis_rng hB hs hJ.inv j (by omega);dsimp only at hv1 hv2;have hvis:=fun H a b ha hb=>c_mv_VisibleU Es D j s H a b ha hb (by omega) (by omega) (by omega) (by omega) (fun k hk hdk=>by
     have w1:=vis_wr hB hs hJ.inv (show k<l.length by omega) hdk hk;have w2:=(vis_rng hB hs hJ.inv k (by omega)).2;dsimp only at w1 w2;omega)
    obtain ⟨V,hV⟩:∃ V,visS Es D s j=V:=⟨_,rfl⟩
    rw [hV] at hv1 hv2;simp only [hV] at hvis ⊢;have hone:=fun H hH=>c_serial_One (g:=g) (tT:=tT) (tx:=tx) procs V l[j] H hH (runIn_one hB hv1 (List.getElem_mem hjl)) (by omega);simp -dsimp [go_sem,hN];refine qaa hch ?_;simp -dsimp [go_sem,hN,hclt,hj,nR];refine qah 16 mixed (by kernel_rfl) (by kernel_rfl) ?_;simp -dsimp [go_sem,hN];simp only [he1,he2] at hvis;refine tdcall_at (fun _=>fun h' hs=>hvis h' (h.length+2) (h.length+3) (hs _ _ rfl (by simp)) (hs _ _ rfl (by simp))) (by simp) ?_;simp -dsimp [go_sem,hN,hjl,Txn.c];refine tdcall_at (fun _=>at_tab (fun h hg=>hone h hg) (hg' _)) (by simp) ?_;obtain ⟨R,hR⟩:∃ R,oneS qb3 procs V l[j]=R:=⟨_,rfl⟩
    simp only [hR];simp -dsimp [go_sem,hN,hjl,he1,he2,hal,hw];exact ⟨by omega,hc,Wk.mk (by simp [hh]) (by simp [go_sem,nR,bRow]) (by simp [hu,qag hu,go_sem]) (by simp [go_sem])⟩
  ·
   have hn2:n=l.length:=by omega
   subst hn2;have hvis:=fun H a b ha hb=>c_mv_VisibleU Es D l.length s H a b ha hb (by omega) (by omega) (by omega) (by omega) (fun k hk hdk=>by
    have w1:=vis_wr hB hs hJ.inv (show k<l.length by omega) hdk hk;have w2:=(vis_rng hB hs hJ.inv k (by omega)).2;dsimp only at w1 w2;omega)
   simp only [he1,he2] at hvis;obtain ⟨V,hV⟩:∃ V,visS Es D s l.length=V:=⟨_,rfl⟩
   simp only [hV] at hvis ⊢;simp -dsimp [go_sem,hN];refine qan (hvis _ (h.length+2) (h.length+3) (by simp) (by simp)) ?_;rintro r h' ⟨rfl,rfl⟩;simp -dsimp [go_sem,hN,he3];exact ⟨_,.refl _,h++[.none,.none,.uarr 39 8 (Es.map Eff.c)],by simp [go_sem],by simp [go_sem],by simp,by simp [qag hu,go_sem],by rw [hX,hV],by rw [hX]⟩
theorem c_mv_Round (procs:List Proc) (s:List Pr) (l:List Txn) (choices:List Int) (h:qab) (hg:h[g]?=some (tabO tT tx)) (hB:BatchIn qb3 procs l) (hs:rngL s) (hL:s.length+192 * l.length≤60000000000) :
  ACalls Tryz.prog 19 [.slice (procs.map Proc.c),.slice (s.map Pr.c),.slice (l.map Txn.c),.slice (choices.map iRow)] h fun r h'=>r=.ret (.tuple [.slice ((visS (mvN qb3 procs s l choices l.length).1 (mvN qb3 procs s l choices l.length).2.1 s l.length).map Pr.c),.slice ((mvN qb3 procs s l choices l.length).1.map Eff.c),.slice ((mvN qb3 procs s l choices l.length).2.2.map nR)])∧h'=h:=by
 have hlen:=(mv_all (choices:=choices) hB hs l.length (Nat.le_refl _)).inv.le;have core:=c_mv_Round0 (g:=g) (tT:=tT) (tx:=tx) procs s l choices h hg hB hs hL;refine ⟨core.1,fun cx wx vx hsx hax=>?_⟩;have hu:=hsx.hUnder;refine (acalls_ret (fun E hE=>?_) core).2 cx wx vx hsx hax;refine (demote_wk E _ (i:=h.length+2) (t:=39) (sz:=8) (rows:=(mvN qb3 procs s l choices l.length).1.map Eff.c) (by simp)).trans ?_;simp;refine (norm_wk E _).trans ?_;exact Wk.mk (by simp [hE]) (by simpa [go_sem] using hwk.app0 _) (by simpa using hu) (by simp [go_sem,AV.norm,qbc,wkT,hlen])
end Go.Proofs.YtcjolkgjhcdhcaaGreatDoor

set_option maxRecDepth 4000
set_option maxHeartbeats 2000000
namespace Go.Proofs.YtcjolkgjhcdhcaaGreatDoor
open Go Go.Abs Go.Cw
theorem c_mv_Early (fs:List Foot) (order:List Int) (hl:fs.length≤1000):APure Tryz.prog 24 [.slice (fs.map Foot.c),.slice (order.map iRow)] (I (earlyP fs order)):=by
 refine qcz Tryz.func24 rfl (by kernel_rfl) (by simp [Tryz.ntmps24]) rfl ?_;intro E h hN hh hu hb;rw [Tryz.ntmps24] at hN;simp [go_sem] at hb;obtain ⟨r,hr⟩:∃ r,earlyP fs order=r:=⟨_,rfl⟩
 rw [hr];refine qcx (awp_ops ?_);simp [go_sem,hN];refine qcx (awp_opsT [_,_] _ ?_);simp [go_sem,hN];intro c a w sm k;refine wp_makeT sm k (el:=3) (x:=.tmp 13) (d1:=14) (n:=fs.length) (sz:=1) (zr:=[I 0]) rfl rfl (by omega) rfl (by simp [go_sem]) (by simp [go_sem]) (by simp [go_sem]) (by omega) (by simp [go_sem]) (by simp [go_sem]) (by simp [go_sem,nilz]) (by simp [go_sem]) (by simp [go_sem]) (by omega) fun c' a' w' s' k'=>?_;refine qdb _ [_,_,_] _ rfl ?_ c' a' w' s' k';simp [go_sem,hN];apply qa2;simp -dsimp [go_sem,hN];refine qaf fs.length (fun n=>True) (fun n=>⟨[(0,.slice (fs.map Foot.c)),(1,.slice (order.map iRow)),(4,I 0),(5,.own h.length fs.length),(16,I fs.length),(17,I n)],h++[.uarr 3 1 ((mN fs.length n).map iRow)]⟩) trivial ?_ ?_
 ·
  rw [mN_0,List.map_replicate];exact (Wk.mk (by simp [hh]) (by simp [go_sem,iRow]) (by simp [hu,qag hu,go_sem]) (by simp [go_sem]))
 intro n hn _;have hw:=qaq hn (show _≤68719476736 by omega);have hal:=mN_len hn;simp -dsimp [go_sem,hN];refine cnd ?_ ?_<;>intro hc<;>simp at hc
 ·
  have hset:=mN_set hc;simp -dsimp [go_sem,hN,hc,hal,hw,← hset,iRow];exact wkA
 ·
  have hn2:n=fs.length:=by omega
  subst hn2;rw [mN_end];unfold earlyP at hr;simp -dsimp [go_sem,hN];refine qas (α:=List Int) order.length (fun n m=>m.length=fs.length∧atF fs.length (order.drop n) n m=atF fs.length order 0 (List.replicate fs.length (-1))) (fun n m=>⟨[(0,.slice (fs.map Foot.c)),(1,.slice (order.map iRow)),(4,I 0),(5,.own h.length fs.length),(24,.slice (order.map iRow)),(25,I order.length),(26,I n)],h++[.uarr 3 1 (m.map iRow)]⟩) (List.replicate fs.length (-1)) ⟨by simp,by simp⟩ ?_ ?_
  · exact wkA
  rintro n m hn ⟨hm,hI⟩;have hw:=qaq hn (show _≤68719476736 by omega);simp -dsimp [go_sem,hN];refine cnd ?_ ?_<;>intro hc<;>simp at hc
  ·
   rw [qad hc,atF] at hI;obtain ⟨k,hk⟩:∃ k,order[n]=k:=⟨_,rfl⟩
   rw [hk] at hI;by_cases h1:k<0
   ·
    rw [if_pos (.inl h1)] at hI;rw [← hI] at hr;subst hr;simp -dsimp [go_sem,hN,hc,iRow,hk,h1]
   obtain ⟨j,rfl⟩:=Int.eq_ofNat_of_zero_le (show 0≤k by omega);rw [Int.toNat_natCast] at hI;by_cases h2:(fs.length:Int)≤(j:Int)
   ·
    rw [if_pos (.inr (.inl h2))] at hI;rw [← hI] at hr;subst hr;simp -dsimp [go_sem,hN,hc,iRow,hk,h1,h2]
   have hj:j<fs.length:=by omega
   have hjm:j<m.length:=by omega
   have hg:m.getD j (-1)=m[j]:=by rw [List.getD_eq_getElem?_getD,List.getElem?_eq_getElem hjm];rfl
   by_cases h3:0≤m[j]
   ·
    rw [if_pos (.inr (.inr (by rw [hg];exact h3)))] at hI;rw [← hI] at hr;subst hr;simp -dsimp [go_sem,hN,hc,iRow,hk,h1,h2,hj,hjm,hm,h3]
   rw [if_neg (by rw [hg];simp only [not_or];exact ⟨h1,h2,h3⟩)] at hI;simp -dsimp [go_sem,hN,hc,iRow,hk,h1,h2,hj,hjm,hm,h3,hw];exact ⟨m.set j (n:Int),⟨by simp [hm],hI⟩,Wk.mk (by simp [hh]) (by simp [go_sem,iRow]) (by simp [hu,qag hu,go_sem]) (by simp [go_sem])⟩
  ·
   rw [List.drop_eq_nil_of_le (by omega),atF] at hI;rw [← hI] at hr;by_cases h1:order.length=fs.length
   ·
    simp only [ne_eq,h1,not_true_eq_false,if_false] at hr;have hC:=fun j i (hj:j<fs.length) (hi:i<fs.length)=>show confN fs i j=conflS fs[i] fs[j] by
     unfold confN;rw [List.getElem?_eq_getElem hj,List.getElem?_eq_getElem hi]
    simp -dsimp [go_sem,hN,h1];refine qaf fs.length (fun n=>True) (fun j=>⟨[(0,.slice (fs.map Foot.c)),(5,.own h.length fs.length),(9,I (earlyUp m (confN fs) j)),(57,I fs.length),(58,I j)],h++[.uarr 3 1 (m.map iRow)]⟩) trivial ?_ ?_
    ·
     rw [earlyUp_0];exact wkA
    intro j hj _;have hw:=qaq hj (show _≤68719476736 by omega);have hes:=earlyUp_succ m (confN fs) j;have hel:=earlyUp_le m (confN fs) fs.length j hj;have hel2:j * fs.length≤1000 * 1000:=Nat.mul_le_mul (by omega) (by omega);simp only [hes];obtain ⟨b,hb'⟩:∃ b,earlyUp m (confN fs) j=b:=⟨_,rfl⟩
    rw [hb'] at hel;simp only [hb'];simp -dsimp [go_sem,hN];refine cnd ?_ ?_<;>intro hc<;>simp at hc
    ·
     simp -dsimp [go_sem,hN];refine qaf j (fun n=>True) (fun i=>⟨[(0,.slice (fs.map Foot.c)),(5,.own h.length fs.length),(9,I (b+cI m (confN fs) j i:Nat)),(10,I j),(57,I fs.length),(58,I j),(61,I j),(62,I i)],h++[.uarr 3 1 (m.map iRow)]⟩) trivial ?_ ?_
     ·
      rw [cI_0];exact wkA
     intro i hi _;have hw2:=qaq hi (show _≤68719476736 by omega);have hcs:=cI_succ m (confN fs) j i;have hcl:=cI_le m (confN fs) j i;simp only [hcs];obtain ⟨d,hd'⟩:∃ d,cI m (confN fs) j i=d:=⟨_,rfl⟩
     rw [hd'] at hcl;simp only [hd'];have hwb:IntKind.i64.wrap ((b:Int)+(d:Int)+1)=(b:Int)+(d:Int)+1:=wrapI (by omega) (by omega);simp -dsimp [go_sem,hN];refine cnd ?_ ?_<;>intro hd<;>simp at hd
     ·
      have hil:i<fs.length:=by omega
      have hjm:j<m.length:=by omega
      have him:i<m.length:=by omega
      rw [hC j i hc hil];have hg1:m.getD j (-1)=m[j]:=by rw [List.getD_eq_getElem?_getD,List.getElem?_eq_getElem hjm];rfl
      have hg2:m.getD i (-1)=m[i]:=by rw [List.getD_eq_getElem?_getD,List.getElem?_eq_getElem him];rfl
      rw [hg1,hg2];simp -dsimp [go_sem,hN,hc,hil,hjm,him,hm,iRow];refine qah 19 mixed (by kernel_rfl) (by kernel_rfl) ?_;simp -dsimp [go_sem,hN,hc,hil,hjm,him,hm,iRow,Foot.c];refine qay (c_mv_effective fs[i]) (by simp) ?_;simp -dsimp [go_sem,hN,hc,hil,Foot.c];refine qae (c_mv_effective fs[j]) (by simp) ?_;simp -dsimp [go_sem,hN,hc,hil,Foot.c];refine qae (c_fp_Conflicts (effF fs[i]) (effF fs[j])) (by simp) ?_;rw [conflS_eff];simp -dsimp [go_sem,hN];refine cnd (fun h1=>?_) (fun h1=>?_)
      ·
       rw [if_pos (by simpa using h1)];simp -dsimp [go_sem,hN,hwb,hw2];exact ⟨hd,Wk.mk (by simp [hh]) (by simp [go_sem]) (by simp [hu,qag hu,go_sem]) (by simp [go_sem,Int.add_assoc])⟩
      ·
       rw [if_neg (by simpa using h1)];simp -dsimp [go_sem,hN,hw2];exact ⟨hd,wkA⟩
     ·
      have e:i=j:=by omega
      subst e;simp -dsimp [go_sem,hN,hw];rw [hd'];exact ⟨hc,wkA⟩
    ·
     have hj2:j=fs.length:=by omega
     subst hj2;simp -dsimp [go_sem,hN];rw [← hb',hr]
   ·
    simp only [ne_eq,h1,not_false_eq_true,if_true] at hr;subst hr;have h1':¬ ((order.length:Int)=(fs.length:Int)):=by omega
    simp -dsimp [go_sem,hN,h1']
end Go.Proofs.YtcjolkgjhcdhcaaGreatDoor
