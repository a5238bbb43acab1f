/- Part 38 of a proof: W70, W70b, W70c -/
import Derived.Test.YtcjolkgjhcdhcaaGreatDoorQ17
import Derived.Test.YtcjolkgjhcdhcaaGreatDoorQ18
import Derived.Test.YtcjolkgjhcdhcaaGreatDoorQ19
import Derived.Test.YtcjolkgjhcdhcaaGreatDoorQ27
import Derived.Test.YtcjolkgjhcdhcaaGreatDoorQ31
import Derived.Test.YtcjolkgjhcdhcaaGreatDoorQ37
set_option linter.all false

set_option maxRecDepth 4000
set_option maxHeartbeats 2000000
namespace Go.Proofs.YtcjolkgjhcdhcaaGreatDoor
open Go Go.Abs Go.Cw
theorem c_IndexFunc_S (l:List qag) (f:FuncId) (caps:List AV) (q:qag→Bool) (h:qae) (hcn:qa6 h caps=caps) (hp:∀ x:qag,ACalls Tryz.prog f ([S x]++caps) h fun r h'=>r=.ret (Bo (q x))∧h'=h) :
  ACalls Tryz.prog 79 [.slice (l.map qa9),.fn (.func f) [] caps] h fun r h'=>r=.ret (I (idxOf q l))∧h'=h:=by
 refine qaf Tryz.func79 rfl (by kernel_rfl) (by simp [Tryz.ntmps79]) ?_
 intro E hN hh hu hb hb' hua
 rw [Tryz.ntmps79] at hN
 refine qab _ _ _ ?_
 simp [go_sem] at hb
 simp -dsimp [go_sem,hN]
 refine qah l.length (fun n=>qbj q n (l.drop n)=idxOf q l) (fun n=>⟨[(0,.slice (l.map qa9)),(1,.fn (.func f) [] caps),(7,I l.length),(8,I n)],h⟩) (by simp [idxOf]) (Wk.mk (by simp [hh]) (by simp) (by simp [hu]) (by simp [go_sem];simpa [go_sem] using hua)) ?_
 intro n hn hI
 have hw:=qax hn hb.1
 simp -dsimp [go_sem,hN]
 refine cnd ?_ ?_<;>intro hc<;>simp at hc
 ·
  rw [qaj hc,qbj] at hI
  simp -dsimp [go_sem,hN,hc,hcn]
  refine qap (hp l[n]) ?_
  rintro r h' ⟨rfl,rfl⟩
  simp -dsimp [go_sem,hN]
  refine cnd ?_ ?_<;>intro hg<;>try simp at hg
  ·
   simp -dsimp [go_sem,hN]
   rw [if_pos hg] at hI
   rw [hI]
   exact ⟨_,.refl _,h',by simp [go_sem],by simp [go_sem],by simp,by simp [hu,go_sem],rfl,rfl⟩
  ·
   simp -dsimp [go_sem,hN,hw]
   exact ⟨hc,by simpa [hg] using hI,Wk.mk (by simp [hh]) (by simp) (by simp [hu]) (by simp [go_sem];simpa [go_sem] using hua)⟩
 ·
  rw [List.drop_eq_nil_of_le (by omega),qbj] at hI
  simp -dsimp [go_sem,hN,← hI]
  exact ⟨_,.refl _,h,by simp [go_sem],by simp [go_sem],by simp,by simp [hu,go_sem],rfl,rfl⟩
theorem c_ContainsFunc_S (l:List qag) (f:FuncId) (caps:List AV) (q:qag→Bool) (h:qae) (hcn:qa6 h caps=caps) (hp:∀ x:qag,ACalls Tryz.prog f ([S x]++caps) h fun r h'=>r=.ret (Bo (q x))∧h'=h) :
  ACalls Tryz.prog 51 [.slice (l.map qa9),.fn (.func f) [] caps] h fun r h'=>r=.ret (Bo (l.any q))∧h'=h:=by
 refine qaf Tryz.func51 rfl (by kernel_rfl) (by simp [Tryz.ntmps51]) ?_
 intro E hN hh hu hb hb' hua
 rw [Tryz.ntmps51] at hN
 refine qab _ _ _ ?_
 simp -dsimp [go_sem,hN,hcn]
 refine qap (c_IndexFunc_S l f caps q _ hcn hp) ?_
 rintro r h' ⟨rfl,rfl⟩
 simp -dsimp [go_sem,hN,idxOf_nonneg,anyL_any]
 exact ⟨_,.refl _,h',by simp [go_sem],by simp [go_sem],by simp,by simp [hu,go_sem],rfl,rfl⟩
theorem c_IndexFunc_N (l:List Nat) (f:FuncId) (caps:List AV) (q:Nat→Bool) (h:qae) (hcn:qa6 h caps=caps) (hp:∀ x∈l,ACalls Tryz.prog f ([I (x:Int)]++caps) h fun r h'=>r=.ret (Bo (q x))∧h'=h) :
  ACalls Tryz.prog 70 [.slice (l.map nR),.fn (.func f) [] caps] h fun r h'=>r=.ret (I (idxOf q l))∧h'=h:=by
 refine qaf Tryz.func70 rfl (by kernel_rfl) (by simp [Tryz.ntmps70]) ?_
 intro E hN hh hu hb hb' hua
 rw [Tryz.ntmps70] at hN
 refine qab _ _ _ ?_
 simp [go_sem] at hb
 simp -dsimp [go_sem,hN]
 refine qah l.length (fun n=>qbj q n (l.drop n)=idxOf q l) (fun n=>⟨[(0,.slice (l.map nR)),(1,.fn (.func f) [] caps),(7,I l.length),(8,I n)],h⟩) (by simp [idxOf]) (Wk.mk (by simp [hh]) (by simp) (by simp [hu]) (by simp [go_sem];simpa [go_sem] using hua)) ?_
 intro n hn hI
 have hw:=qax hn hb.1
 simp -dsimp [go_sem,hN]
 refine cnd ?_ ?_<;>intro hc<;>simp at hc
 ·
  rw [qaj hc,qbj] at hI
  simp -dsimp [go_sem,hN,hc,hcn,nR]
  refine qap (hp l[n] (List.getElem_mem hc)) ?_
  rintro r h' ⟨rfl,rfl⟩
  simp -dsimp [go_sem,hN]
  refine cnd ?_ ?_<;>intro hg<;>try simp at hg
  ·
   simp -dsimp [go_sem,hN]
   rw [if_pos hg] at hI
   rw [hI]
   exact ⟨_,.refl _,h',by simp [go_sem],by simp [go_sem],by simp,by simp [hu,go_sem],rfl,rfl⟩
  ·
   simp -dsimp [go_sem,hN,hw]
   exact ⟨hc,by simpa [hg] using hI,Wk.mk (by simp [hh]) (by simp) (by simp [hu]) (by simp [go_sem];simpa [go_sem] using hua)⟩
 ·
  rw [List.drop_eq_nil_of_le (by omega),qbj] at hI
  simp -dsimp [go_sem,hN,← hI]
  exact ⟨_,.refl _,h,by simp [go_sem],by simp [go_sem],by simp,by simp [hu,go_sem],rfl,rfl⟩
theorem c_ContainsFunc_N (l:List Nat) (f:FuncId) (caps:List AV) (q:Nat→Bool) (h:qae) (hcn:qa6 h caps=caps) (hp:∀ x∈l,ACalls Tryz.prog f ([I (x:Int)]++caps) h fun r h'=>r=.ret (Bo (q x))∧h'=h) :
  ACalls Tryz.prog 39 [.slice (l.map nR),.fn (.func f) [] caps] h fun r h'=>r=.ret (Bo (l.any q))∧h'=h:=by
 refine qaf Tryz.func39 rfl (by kernel_rfl) (by simp [Tryz.ntmps39]) ?_
 intro E hN hh hu hb hb' hua
 rw [Tryz.ntmps39] at hN
 refine qab _ _ _ ?_
 simp -dsimp [go_sem,hN,hcn]
 refine qap (c_IndexFunc_N l f caps q _ hcn hp) ?_
 rintro r h' ⟨rfl,rfl⟩
 simp -dsimp [go_sem,hN,idxOf_nonneg,anyL_any]
 exact ⟨_,.refl _,h',by simp [go_sem],by simp [go_sem],by simp,by simp [hu,go_sem],rfl,rfl⟩
theorem c_mv_effective (f:Foot):APure Tryz.prog 32 [.agg f.c] (.agg (qc8 f).c):=by
 refine qad Tryz.func32 rfl (by kernel_rfl) (by simp [Tryz.ntmps32]) rfl ?_
 intro E h hN hh hu hb
 rw [Tryz.ntmps32] at hN
 refine qab _ _ _ ?_
 simp -dsimp [go_sem,hN,Foot.c]
 refine qac (c_fp_Valid f) ?_
 simp -dsimp [go_sem,hN]
 refine cnd ?_ ?_<;>intro h0<;>try simp at h0
 · simp -dsimp [go_sem,hN,qc8,h0,Foot.c]
 · simp -dsimp [go_sem,hN,qc8,h0,Foot.c]
theorem c_mv_depends1 (k:qag) (h:qae) (i:Nat) (f:Foot) (hi:h[i]?=some (.cells f.c)):ACalls Tryz.prog 52 [S k,.ptr i 0] h fun r h'=>r=.ret (Bo (hasK f.reads k))∧h'=h:=by
 refine qaf Tryz.func52 rfl (by kernel_rfl) (by simp [Tryz.ntmps52]) ?_
 intro E hN hh hu hb hb' hua
 rw [Tryz.ntmps52] at hN
 refine qab _ _ _ ?_
 have hi':i<h.length:=(List.getElem?_eq_some_iff.1 hi).1
 have a1:∀ l,(h++l)[i]?=some (.cells f.c):=fun l=>by rw [List.getElem?_append_left hi'];exact hi
 simp -dsimp [go_sem,hN,hi,a1,hu,Foot.c]
 refine qac (c_Contains_S f.reads k) ?_
 simp -dsimp [go_sem,hN]
 exact ⟨_,.refl _,h,by simp [go_sem],by simp [go_sem],by simp,by simp [hu,go_sem],rfl,rfl⟩
theorem c_mv_depends (a b:Foot):APure Tryz.prog 31 [.agg a.c,.agg b.c] (Bo (depS a b)):=by
 refine qad Tryz.func31 rfl (by kernel_rfl) (by simp [Tryz.ntmps31]) rfl ?_
 intro E h hN hh hu hb
 rw [Tryz.ntmps31] at hN
 refine qab _ _ _ ?_
 simp [go_sem,Foot.c] at hb
 simp -dsimp [go_sem,hN,Foot.c]
 refine cnd ?_ ?_<;>intro h0<;>try simp at h0
 · simp -dsimp [go_sem,hN,depS,h0]
 simp -dsimp [go_sem,hN]
 refine cnd ?_ ?_<;>intro h1<;>try simp at h1
 · simp -dsimp [go_sem,hN,depS,h0,h1]
 simp -dsimp [go_sem,hN]
 refine qap (c_ContainsFunc_S a.writes _ _ (fun k=>hasK b.reads k) _ (by simp [qa6,AV.norm]) (fun k=>c_mv_depends1 k _ _ b (by simp [Foot.c]))) ?_
 rintro r h' ⟨rfl,rfl⟩
 simp -dsimp [go_sem,hN,depS,h0,h1]
theorem c_mv_Deps (l:List Foot):APure Tryz.prog 12 [.slice (l.map Foot.c)] (.slice ((qba l l.length).map lR)):=by
 refine qad Tryz.func12 rfl (by kernel_rfl) (by simp [Tryz.ntmps12]) rfl ?_
 intro E h hN hh hu hb
 rw [Tryz.ntmps12] at hN
 refine qab _ _ _ ?_
 simp [go_sem] at hb
 simp -dsimp [go_sem,hN]
 refine qah l.length (fun n=>True) (fun n=>⟨[(0,.slice (l.map Foot.c)),(3,.own h.length n),(8,I l.length),(9,I n)],h++[.arr 28 1 ((qba l n).map lR)]⟩) trivial ((nil_wk E _ 3 28 1 (by simp [go_sem])).trans ?_) ?_
 ·
  simp [qba]
  exact (Wk.mk (by simp [hh]) (by simp [go_sem]) (by simp [hu,qaa hu,go_sem]) (by simp [go_sem]))
 intro n hn _
 have hw:=qax hn (show _≤68719476736 by omega)
 have hal:=depsAll_len l n
 simp -dsimp [go_sem,hN]
 refine cnd ?_ ?_<;>intro hc<;>simp at hc
 ·
  simp -dsimp [go_sem,hN,hc]
  refine qah n (fun m=>True) (fun m=>⟨[(0,.slice (l.map Foot.c)),(3,.own h.length n),(4,I n),(5,if m<n then .own (h.length+1) (depM l n m).length else .slice ((depM l n n).map nR)),(8,I l.length),(9,I n),(12,I n),(13,I m)],h++.arr 28 1 ((qba l n).map lR)::if m<n then [.arr 3 1 ((depM l n m).map nR)] else []⟩) trivial ?_ ?_
  ·
   by_cases h0:0<n
   ·
    simp only [if_pos h0]
    refine (nil_wk E _ 5 3 1 (by simp [go_sem])).trans ?_
    simp [depM]
    exact (Wk.mk (by simp [hh]) (by simp [go_sem]) (by simp [hu,qaa hu,go_sem]) (by simp [go_sem]))
   ·
    obtain rfl:n=0:=by omega
    simp [depM]
    exact (Wk.mk (by simp [hh]) (by simp [go_sem]) (by simp [hu,qaa hu,go_sem]) (by simp [go_sem]))
  intro m hm _
  have hw2:=qax hm (show _≤68719476736 by omega)
  rcases Nat.lt_or_ge m n with hd | hd
  ·
   have hml:m<l.length:=by omega
   have hdl:=depM_len l n m
   have hdm:=depM_succ (fs:=l) hc hml
   simp only [if_pos hd]
   simp -dsimp [go_sem,hN,hd]
   refine qan 9 mixed (by kernel_rfl) (by kernel_rfl) ?_
   simp -dsimp [go_sem,hN,hc,hml]
   refine qcr (c_mv_effective l[m]) (by simp) ?_
   simp -dsimp [go_sem,hN,hc]
   refine qac (c_mv_effective l[n]) ?_
   simp -dsimp [go_sem,hN]
   refine qac (c_mv_depends (qc8 l[m]) (qc8 l[n])) ?_
   simp -dsimp [go_sem,hN]
   refine cnd (fun h1=>?_) (fun h1=>?_)
   ·
    rw [if_pos h1] at hdm
    simp -dsimp [go_sem,hN,hw2]
    repeat refine ⟨by omega,?_⟩
    rcases Nat.lt_or_ge (m+1) n with h2 | h2
    ·
     simp only [if_pos h2,hdm]
     exact (Wk.mk (by simp [hh]) (by simp [go_sem,nR]) (by simp [hu,qaa hu,go_sem]) (by simp [go_sem]))
    ·
     have e:n=m+1:=by omega
     have hdn:depM l n n=depM l n m++[m]:=by rw [← hdm,← e]
     simp only [if_neg (show ¬ m+1<n by omega),hdn]
     exact (norm1_wk E _ 5).trans (Wk.mk (by simp [hh]) (by simp [go_sem,nR]) (by simp [hu,qaa hu,go_sem]) (by simp [go_sem,AV.norm,qa6,wkT,nR]))
   ·
    rw [if_neg (by simp [h1])] at hdm
    simp -dsimp [go_sem,hN,hw2]
    repeat refine ⟨by omega,?_⟩
    rcases Nat.lt_or_ge (m+1) n with h2 | h2
    ·
     simp only [if_pos h2,hdm]
     exact (Wk.mk (by simp [hh]) (by simp [go_sem,nR]) (by simp [hu,qaa hu,go_sem]) (by simp [go_sem]))
    ·
     have e:n=m+1:=by omega
     have hdn:depM l n n=depM l n m:=by rw [← hdm,← e]
     simp only [if_neg (show ¬ m+1<n by omega),hdn]
     exact (norm1_wk E _ 5).trans (Wk.mk (by simp [hh]) (by simp [go_sem,nR]) (by simp [hu,qaa hu,go_sem]) (by simp [go_sem,AV.norm,qa6,wkT,nR]))
  ·
   obtain rfl:m=n:=by omega
   simp only [if_neg (Nat.lt_irrefl m)]
   simp -dsimp [go_sem,hN,hal,hw]
   refine ⟨by omega,hc,?_⟩
   rw [depsAll_succ]
   exact (Wk.mk (by simp [hh]) (by simp [go_sem,lR]) (by simp [hu,qaa hu,go_sem]) (by simp [go_sem]))
 ·
  simp -dsimp [go_sem,hN,hal]
  rw [show n=l.length by omega]
end Go.Proofs.YtcjolkgjhcdhcaaGreatDoor

set_option maxRecDepth 4000
set_option maxHeartbeats 2000000
namespace Go.Proofs.YtcjolkgjhcdhcaaGreatDoor
open Go Go.Abs Go.Cw
theorem c_mv_choice (choices:List Int) (step n:Nat) (hn:0<n):APure Tryz.prog 41 [.slice (choices.map iRow),I step,I n] (I (choiceS choices step n)):=by
 refine qad Tryz.func41 rfl (by kernel_rfl) (by simp [Tryz.ntmps41]) rfl ?_
 intro E h hN hh hu hb
 rw [Tryz.ntmps41] at hN
 refine qab _ _ _ ?_
 simp [go_sem] at hb
 have hC:=choice_iff (choices:=choices) (step:=step) (n:=n)
 by_cases hs:step<choices.length
 ·
  rw [dif_pos hs] at hC
  have hz:¬ (choices.length:Int)≤(step:Int):=by omega
  simp -dsimp [go_sem,hN,hs,hz,iRow]
  refine cnd ?_ ?_<;>intro h0<;>simp at h0
  ·
   rw [if_pos (by omega)] at hC
   simp -dsimp [go_sem,hN,hC]
  ·
   rw [if_neg (by omega)] at hC
   obtain ⟨c,hc⟩:=Int.eq_ofNat_of_zero_le (show 0≤choices[step] by omega)
   have hm:choices[step].tmod (n:Int)=((choices[step].toNat % n:Nat):Int):=by
    rw [hc,Int.toNat_natCast]
    exact (Int.ofNat_tmod c n).symm
   simp -dsimp [go_sem,hN,hs,iRow,hm,hC]
   omega
 ·
  rw [dif_neg hs] at hC
  have hz:(choices.length:Int)≤(step:Int):=by omega
  simp -dsimp [go_sem,hN,hz,hC]
theorem vis_next {effs:List Eff} {done:List Bool} {s:List Pr} {n:Nat} (h1:n<effs.length) (h2:n<done.length):visS effs done s (n+1)=if done[n]=true then qbm (visS effs done s n) effs[n] else visS effs done s n:=by
 rw [visS,List.getD_eq_getElem?_getD,List.getElem?_eq_getElem h2,List.getElem?_eq_getElem h1]
 rfl
theorem c_mv_Visible (effs:List Eff) (done:List Bool) (i:Int) (s:List Pr) (hL:∀ k (h:k<effs.length),(visS effs done s k).length+effs[k].writes.length<68719476736) :
  APure Tryz.prog 16 [.slice (effs.map Eff.c),.slice (done.map bRow),I i,.slice (s.map Pr.c)] (.slice ((visS effs done s (min (min i effs.length) done.length).toNat).map Pr.c)):=by
 refine qad Tryz.func16 rfl (by kernel_rfl) (by simp [Tryz.ntmps16]) rfl ?_
 intro E h hN hh hu hb
 rw [Tryz.ntmps16] at hN
 refine qab _ _ _ ?_
 simp [go_sem] at hb
 obtain ⟨M,hM⟩:∃ M,(min (min i effs.length) done.length).toNat=M:=⟨_,rfl⟩
 rw [hM]
 simp -dsimp [go_sem,hN]
 refine qac (c_Clone_P s) ?_
 simp -dsimp [go_sem,hN]
 refine qah M (fun n=>True) (fun n=>⟨[(0,.slice (effs.map Eff.c)),(1,.slice (done.map bRow)),(2,I i),(9,.slice ((visS effs done s n).map Pr.c)),(10,I n)],h⟩) trivial ?_ ?_
 ·
  simp [visS]
  exact (Wk.mk (by simp [hh]) (by simp [go_sem]) (by simp [hu,qaa hu,go_sem]) (by simp [go_sem]))
 intro n hn _
 have hw:=qax hn (show _≤68719476736 by omega)
 have hm:(if (done.length:Int)<if (effs.length:Int)<i then (effs.length:Int) else i then (done.length:Int) else if (effs.length:Int)<i then (effs.length:Int) else i)=min (min i effs.length) done.length:=by split<;>split<;>omega
 simp -dsimp [go_sem,hN,hm]
 refine cnd ?_ ?_<;>intro hc<;>simp at hc
 ·
  have hnM:n<M:=by omega
  have h1:n<effs.length:=by omega
  have h2:n<done.length:=by omega
  have hv:=vis_next (s:=s) h1 h2
  have hLn:=hL n h1
  obtain ⟨V,hV⟩:∃ V,visS effs done s n=V:=⟨_,rfl⟩
  rw [hV] at hv hLn
  simp only [hV]
  rcases hd:done[n] with _ | _
  ·
   rw [hd,if_neg (by simp)] at hv
   simp -dsimp [go_sem,hN,h1,h2,hd,bRow,hw]
   rw [hv]
   exact ⟨hnM,(Wk.mk (by simp [hh]) (by simp [go_sem]) (by simp [hu,qaa hu,go_sem]) (by simp [go_sem]))⟩
  ·
   rw [hd,if_pos rfl] at hv
   have hA:=c_state_Apply V effs[n].writes hLn
   simp -dsimp [go_sem,hN,h1,h2,hd,bRow,Eff.c]
   refine cnd ?_ ?_<;>intro h3<;>simp at h3
   ·
    simp -dsimp [go_sem,hN,hw]
    rw [hv,show qbm V effs[n]=V by unfold qbm;rw [if_neg (fun g=>h3 g.1)]]
    exact ⟨hnM,(Wk.mk (by simp [hh]) (by simp [go_sem]) (by simp [hu,qaa hu,go_sem]) (by simp [go_sem]))⟩
   ·
    simp -dsimp [go_sem,hN,h1,Eff.c]
    by_cases hok:qay V=true∧qbn effs[n].writes=true
    ·
     rw [hok.1,hok.2] at hA
     simp only [Bool.and_self,if_true] at hA
     refine qac hA ?_
     simp -dsimp [go_sem,hN,hw]
     rw [hv,show qbm V effs[n]=qc9 V effs[n].writes by unfold qbm;rw [if_pos ⟨h3,hok⟩]]
     exact ⟨hnM,(Wk.mk (by simp [hh]) (by simp [go_sem]) (by simp [hu,qaa hu,go_sem]) (by simp [go_sem]))⟩
    ·
     rw [if_neg (by simpa using hok)] at hA
     refine qac hA ?_
     simp -dsimp [go_sem,hN,hw]
     rw [hv,show qbm V effs[n]=V by unfold qbm;rw [if_neg (fun g=>hok g.2)]]
     exact ⟨hnM,(Wk.mk (by simp [hh]) (by simp [go_sem]) (by simp [hu,qaa hu,go_sem]) (by simp [go_sem]))⟩
 ·
  have e:n=M:=by omega
  subst e
  simp -dsimp [go_sem,hN]
theorem c_mv_VisibleU (effs:List Eff) (done:List Bool) (i:Nat) (s:List Pr) (h:qae) (a b:Nat) (ha:h[a]?=some (.uarr 39 8 (effs.map Eff.c))) (hb0:h[b]?=some (.uarr 4 1 (done.map bRow))) (hi:i≤effs.length) (hi2:i≤done.length) (hl:effs.length≤68719476736) (hl2:done.length≤68719476736) (hL:∀ k (h:k<effs.length),done.getD k false=true→(visS effs done s k).length+effs[k].writes.length<68719476736) :
  ACalls Tryz.prog 16 [.own a effs.length,.own b done.length,I i,.slice (s.map Pr.c)] h fun r h'=>r=.ret (.slice ((visS effs done s i).map Pr.c))∧h'=h:=by
 refine qaf Tryz.func16 rfl (by kernel_rfl) (by simp [Tryz.ntmps16]) ?_
 intro E hN hh hu hb hb' hua
 rw [Tryz.ntmps16] at hN
 refine qab _ _ _ ?_
 have ha':a<h.length:=(List.getElem?_eq_some_iff.1 ha).1
 have hb1:b<h.length:=(List.getElem?_eq_some_iff.1 hb0).1
 simp -dsimp [go_sem,hN]
 refine qac (c_Clone_P s) ?_
 simp -dsimp [go_sem,hN]
 refine qah i (fun n=>True) (fun n=>⟨[(0,.own a effs.length),(1,.own b done.length),(2,I i),(9,.slice ((visS effs done s n).map Pr.c)),(10,I n)],h⟩) trivial ?_ ?_
 ·
  simp [visS]
  exact (Wk.mk (by simp [hh]) (by simp [go_sem]) (by simp [hu,qaa hu,go_sem]) (by simp [go_sem,ha',hb1]))
 intro n hn _
 have hw:=qax hn (show _≤68719476736 by omega)
 have hz1:¬ effs.length<i:=by omega
 have hz2:¬ done.length<i:=by omega
 have hz3:¬ (effs.length:Int)<(i:Int):=by omega
 have hz4:¬ (done.length:Int)<(i:Int):=by omega
 simp -dsimp [go_sem,hN,ha,hb0,hz1,hz2,hz3,hz4]
 refine cnd ?_ ?_<;>intro hc<;>simp at hc
 ·
  have h1:n<effs.length:=by omega
  have h2:n<done.length:=by omega
  have hv:=vis_next (s:=s) h1 h2
  have hLn:=fun g=>hL n h1 g
  rw [List.getD_eq_getElem?_getD,List.getElem?_eq_getElem h2,Option.getD_some] at hLn
  obtain ⟨V,hV⟩:∃ V,visS effs done s n=V:=⟨_,rfl⟩
  rw [hV] at hv hLn
  simp only [hV]
  rcases hd:done[n] with _ | _
  ·
   rw [hd,if_neg (by simp)] at hv
   simp -dsimp [go_sem,hN,ha,hb0,h1,h2,hd,bRow,hw]
   rw [hv]
   exact ⟨by omega,(Wk.mk (by simp [hh]) (by simp [go_sem]) (by simp [hu,qaa hu,go_sem]) (by simp [go_sem,ha',hb1]))⟩
  ·
   rw [hd,if_pos rfl] at hv
   have hA:=c_state_Apply V effs[n].writes (hLn hd)
   simp -dsimp [go_sem,hN,ha,hb0,h1,h2,hd,bRow,Eff.c]
   refine cnd ?_ ?_<;>intro h3<;>simp at h3
   ·
    simp -dsimp [go_sem,hN,hw]
    rw [hv,show qbm V effs[n]=V by unfold qbm;rw [if_neg (fun g=>h3 g.1)]]
    exact ⟨by omega,(Wk.mk (by simp [hh]) (by simp [go_sem]) (by simp [hu,qaa hu,go_sem]) (by simp [go_sem,ha',hb1]))⟩
   ·
    simp -dsimp [go_sem,hN,ha,h1,Eff.c]
    by_cases hok:qay V=true∧qbn effs[n].writes=true
    ·
     rw [hok.1,hok.2] at hA
     simp only [Bool.and_self,if_true] at hA
     refine qac hA ?_
     simp -dsimp [go_sem,hN,hw]
     rw [hv,show qbm V effs[n]=qc9 V effs[n].writes by unfold qbm;rw [if_pos ⟨h3,hok⟩]]
     exact ⟨by omega,(Wk.mk (by simp [hh]) (by simp [go_sem]) (by simp [hu,qaa hu,go_sem]) (by simp [go_sem,ha',hb1]))⟩
    ·
     rw [if_neg (by simpa using hok)] at hA
     refine qac hA ?_
     simp -dsimp [go_sem,hN,hw]
     rw [hv,show qbm V effs[n]=V by unfold qbm;rw [if_neg (fun g=>hok g.2)]]
     exact ⟨by omega,(Wk.mk (by simp [hh]) (by simp [go_sem]) (by simp [hu,qaa hu,go_sem]) (by simp [go_sem,ha',hb1]))⟩
 ·
  have e:n=i:=by omega
  subst e
  simp -dsimp [go_sem,hN]
  exact ⟨_,.refl _,h,by simp [go_sem],by simp [go_sem],by simp,by simp [hu,go_sem],rfl,rfl⟩
theorem c_mv_Round11 (j:Nat) (h:qae) (pd k L:Nat) (done:List Bool) (hpd:h[pd]?=some (.cells [.own k L])) (hk:h[k]?=some (.uarr 4 1 (done.map bRow))) (hl:done.length=L) (hj:j<L) :
  ACalls Tryz.prog 40 [I j,.ptr pd 0] h fun r h'=>r=.ret (Bo (!done.getD j false))∧h'=h:=by
 refine qaf Tryz.func40 rfl (by kernel_rfl) (by simp [Tryz.ntmps40]) ?_
 intro E hN hh hu hb hb' hua
 rw [Tryz.ntmps40] at hN
 refine qab _ _ _ ?_
 have hp':pd<h.length:=(List.getElem?_eq_some_iff.1 hpd).1
 have hk':k<h.length:=(List.getElem?_eq_some_iff.1 hk).1
 have hg:done.getD j false=done[j]:=by rw [List.getD_eq_getElem?_getD,List.getElem?_eq_getElem (by omega)];rfl
 simp -dsimp [go_sem,hN,hpd,hk,hl,hj,bRow,hg]
 exact ⟨_,.refl _,h,by simp [go_sem],by simp [go_sem],by simp,by simp [hu,go_sem],rfl,rfl⟩
end Go.Proofs.YtcjolkgjhcdhcaaGreatDoor

set_option maxRecDepth 4000
set_option maxHeartbeats 2000000
namespace Go.Proofs.YtcjolkgjhcdhcaaGreatDoor
open Go Go.Abs Go.Cw
theorem c_mv_Round1 (j:Nat) (h:qae) (pd pq k:Nat) (done:List Bool) (fs:List Foot) (hpd:h[pd]?=some (.cells [.own k done.length])) (hk:h[k]?=some (.uarr 4 1 (done.map bRow))) (hpq:h[pq]?=some (.cells [.slice ((qba fs fs.length).map lR)])) (hl:done.length=fs.length) (hj:j<fs.length) :
  ACalls Tryz.prog 38 [I j,.ptr pd 0,.ptr pq 0] h fun r h'=>r=.ret (Bo (readyS fs done j))∧h'=h:=by
 refine qaf Tryz.func38 rfl (by kernel_rfl) (by simp [Tryz.ntmps38]) ?_
 intro E hN hh hu hb hb' hua
 rw [Tryz.ntmps38] at hN
 refine qab _ _ _ ?_
 have hp':pd<h.length:=(List.getElem?_eq_some_iff.1 hpd).1
 have hq':pq<h.length:=(List.getElem?_eq_some_iff.1 hpq).1
 have hk':k<h.length:=(List.getElem?_eq_some_iff.1 hk).1
 have hjd:j<done.length:=by omega
 have hg:done.getD j false=done[j]:=by rw [List.getD_eq_getElem?_getD,List.getElem?_eq_getElem hjd];rfl
 have hr:readyS fs done j=(!done[j]&&!((depM fs j j).any fun i=>!done.getD i false)):=by
  unfold readyS
  rw [hg,← depM_eq hj,List.not_any_eq_all_not]
  simp
 have hda:j<(qba fs fs.length).length:=by rw [depsAll_len];exact hj
 have hdj:(qba fs fs.length)[j]=depM fs j j:=by simp [qba]
 have hcf:=c_ContainsFunc_N (depM fs j j) 40 [.ptr pd 0] (fun i=>!done.getD i false) h (by simp [qa6,AV.norm]) (fun x hx=>c_mv_Round11 x h pd k done.length done hpd hk rfl (by have:=depM_lt hx;omega))
 rcases hd:done[j] with _ | _
 ·
  simp -dsimp [go_sem,hN,hpd,hk,hpq,hjd,hda,hdj,bRow,hd,lR]
  refine qc1 (by simp) (hcf.mono ?_)
  rintro r h' ⟨rfl,rfl⟩
  simp -dsimp [go_sem,hN]
  rw [hr,hd]
  exact ⟨_,.refl _,h',by simp [go_sem],hwk.refl _,Nat.le_refl _,hu,by simp,rfl⟩
 ·
  simp -dsimp [go_sem,hN,hpd,hk,hpq,hjd,hda,hdj,bRow,hd,lR]
  refine qck ?_
  simp -dsimp [go_sem,hN]
  rw [hr,hd]
  exact ⟨_,.refl _,h,by simp [go_sem],hwk.refl _,Nat.le_refl _,hu,by simp,rfl⟩
variable {tT:TypeId} {tx:Nat×Nat} {g:Nat}
theorem c_mv_Round0 (procs:List Proc) (s:List Pr) (l:List Txn) (choices:List Int) (h:qae) (hg:h[g]?=some (tabO tT tx)) (hB:BatchIn qb3 procs l) (hs:rngL s) (hL:s.length+192 * l.length≤60000000000) :
  ACalls Tryz.prog 19 [.slice (procs.map Proc.c),.slice (s.map Pr.c),.slice (l.map Txn.c),.slice (choices.map iRow)] h fun r h'=>r=.ret (.tuple [.slice ((visS (mvN qb3 procs s l choices l.length).1 (mvN qb3 procs s l choices l.length).2.1 s l.length).map Pr.c),.own (h.length+2) l.length,.slice ((mvN qb3 procs s l choices l.length).2.2.map nR)])∧h'=h++[.none,.none,.uarr 39 8 ((mvN qb3 procs s l choices l.length).1.map Eff.c)]:=by
 refine qaf Tryz.func19 rfl (by kernel_rfl) (by simp [Tryz.ntmps19]) ?_
 intro E hN hh hu hb hb' hua
 rw [Tryz.ntmps19] at hN
 refine qab _ _ _ ?_
 have hgl:g<h.length:=(List.getElem?_eq_some_iff.1 hg).1
 have hg':∀ l:qae,(h++l)[g]?=some (tabO tT tx):=fun l=>by rw [List.getElem?_append_left hgl];exact hg
 simp [go_sem] at hb
 simp -dsimp [go_sem,hN]
 refine qah l.length (fun n=>True) (fun n=>⟨[(0,.slice (procs.map Proc.c)),(1,.slice (s.map Pr.c)),(2,.slice (l.map Txn.c)),(3,.slice (choices.map iRow)),(11,.own h.length n),(23,.slice (l.map Txn.c)),(24,I l.length),(25,I n)],h++[.arr 58 3 ((feetR l).take n)]⟩) trivial ((nil_wk E _ 11 58 3 (by simp [go_sem])).trans ?_) ?_
 ·
  simp
  exact (Wk.mk (by simp [hh]) (by simp [go_sem]) (by simp [hu,qaa hu,go_sem]) (by simp [go_sem]))
 intro n hn _
 have hw:=qax hn (show _≤68719476736 by omega)
 have hal:=feetR_tlen hn
 simp -dsimp [go_sem,hN]
 refine cnd ?_ ?_<;>intro hc<;>simp at hc
 ·
  simp -dsimp [go_sem,hN,hc,hw,hal,Txn.c]
  rw [feetR_take hc]
  exact ⟨by omega,Wk.mk (by simp [hh]) (by simp [go_sem,Foot.c]) (by simp [hu,qaa hu,go_sem]) (by simp [go_sem])⟩
 ·
  have hn2:n=l.length:=by omega
  subst hn2
  rw [feetR_all]
  simp -dsimp [go_sem,hN,qdg]
  refine qac (c_mv_Deps (feetL l)) ?_
  simp -dsimp [go_sem,hN]
  refine awp_drawM 8 mixed (by kernel_rfl) ?_
  simp -dsimp [go_sem,hN,qdg]
  refine ⟨by omega,?_⟩
  refine qah l.length (fun n=>True) (fun n=>⟨[(0,.slice (procs.map Proc.c)),(1,.slice (s.map Pr.c)),(2,.slice (l.map Txn.c)),(3,.slice (choices.map iRow)),(14,P0 (h.length+1)),(15,.own (h.length+2) l.length),(16,P0 (h.length+4)),(17,.fn (.func 38) [] [P0 (h.length+4),P0 (h.length+1)]),(18,.own (h.length+5) n),(45,I l.length),(46,I n)],h++[.none,.cells [.slice ((qba (feetL l) l.length).map lR)],.uarr 39 8 ((mvN qb3 procs s l choices n).1.map Eff.c),.uarr 4 1 ((mvN qb3 procs s l choices n).2.1.map bRow),.cells [.own (h.length+3) l.length],.arr 3 1 ((mvN qb3 procs s l choices n).2.2.map nR)]⟩) trivial ((nil_wk E _ 18 3 1 (by simp [go_sem])).trans ?_) ?_
  ·
   simp only [mvN,List.range_zero,List.foldl_nil,List.map_replicate]
   exact (Wk.mk (by simp [hh]) (by simp [go_sem,zeroE,Eff.c,bRow,qdg,nilz,em]) (by simp [hu,qaa hu,go_sem]) (by simp [go_sem]))
  intro n hn _
  have hw:=qax hn (show _≤68719476736 by omega)
  have hJ:=mv_all (choices:=choices) hB hs n hn
  have hsc:=mvN_succ (fmt:=qb3) (procs:=procs) (s:=s) (l:=l) (choices:=choices) n
  simp only [hsc]
  obtain ⟨X,hX⟩:∃ X,mvN qb3 procs s l choices n=X:=⟨_,rfl⟩
  rw [hX] at hJ
  simp only [hX]
  obtain ⟨Es,D,O⟩:=X
  have he1:=hJ.inv.le
  have he2:=hJ.inv.ld
  have he3:=hJ.len
  dsimp only at he1 he2 he3 ⊢
  have hal:(O.map nR).length=n:=by simpa using he3
  simp -dsimp [go_sem,hN]
  refine cnd ?_ ?_<;>intro hc<;>simp at hc
  ·
   have hcn:=cand_ne hJ hc
   have hclt:=choice_lt (choices:=choices) (step:=n) hcn
   dsimp only at hcn hclt
   simp -dsimp [go_sem,hN]
   refine qah l.length (fun m=>True) (fun m=>⟨[(0,.slice (procs.map Proc.c)),(1,.slice (s.map Pr.c)),(2,.slice (l.map Txn.c)),(3,.slice (choices.map iRow)),(14,P0 (h.length+1)),(15,.own (h.length+2) l.length),(16,P0 (h.length+4)),(17,.fn (.func 38) [] [P0 (h.length+4),P0 (h.length+1)]),(18,.own (h.length+5) n),(19,I n),(20,.own (h.length+6) (candM (feetL l) D m).length),(45,I l.length),(46,I n),(50,I l.length),(51,I m)],h++[.none,.cells [.slice ((qba (feetL l) l.length).map lR)],.uarr 39 8 (Es.map Eff.c),.uarr 4 1 (D.map bRow),.cells [.own (h.length+3) l.length],.arr 3 1 (O.map nR),.arr 3 1 ((candM (feetL l) D m).map nR)]⟩) trivial ((nil_wk E _ 20 3 1 (by simp [go_sem])).trans ?_) ?_
   · exact (Wk.mk (by simp [hh]) (by simp [go_sem,candM]) (by simp [hu,qaa hu,go_sem]) (by simp [go_sem,candM]))
   intro m hm _
   have hwm:=qax hm (show _≤68719476736 by omega)
   have hcl:=candM_len (feetL l) D m
   simp -dsimp [go_sem,hN]
   refine cnd ?_ ?_<;>intro hd<;>simp at hd
   ·
    have hcs:=candM_succ (feetL l) D m
    simp -dsimp [go_sem,hN]
    refine qap (c_mv_Round1 m _ (h.length+4) (h.length+1) (h.length+3) D (feetL l) (by simp [he2]) (by simp) (by simp [qdg]) (by simp [he2,qdg]) (by simpa [qdg] using hd)) ?_
    rintro r h' ⟨rfl,rfl⟩
    simp -dsimp [go_sem,hN]
    refine cnd (fun h1=>?_) (fun h1=>?_)
    ·
     rw [if_pos h1] at hcs
     simp -dsimp [go_sem,hN,hwm]
     rw [hcs]
     repeat refine ⟨by omega,?_⟩
     exact (Wk.mk (by simp [hh]) (by simp [go_sem,nR]) (by simp [hu,qaa hu,go_sem]) (by simp [go_sem]))
    ·
     rw [if_neg (by simp [h1])] at hcs
     simp -dsimp [go_sem,hN,hwm]
     rw [hcs]
     repeat refine ⟨by omega,?_⟩
     exact (Wk.mk (by simp [hh]) (by simp [go_sem,nR]) (by simp [hu,qaa hu,go_sem]) (by simp [go_sem]))
   ·
    have hm2:m=l.length:=by omega
    subst hm2
    have hce:candM (feetL l) D l.length=candS (l.map (·.ft)) D:=by
     have:=candM_eq (feetL l) D
     rw [qdg] at this
     exact this
    have hcm:∀ x∈candS (l.map (·.ft)) D,x<l.length:=fun x hx=>by
     unfold candS at hx
     have:=List.mem_range.1 (List.mem_filter.1 hx).1
     simpa using this
    obtain ⟨c,hcd⟩:∃ c,candS (l.map (·.ft)) D=c:=⟨_,rfl⟩
    rw [hce,hcd] at hcl
    rw [hcd] at hcn hclt hcm
    obtain ⟨q,hq⟩:∃ q,choiceS choices n c.length=q:=⟨_,rfl⟩
    have hch:=c_mv_choice choices n c.length hcn
    rw [hq] at hclt hch
    obtain ⟨j,hj⟩:∃ j,c[q]=j:=⟨_,rfl⟩
    have hjl:j<l.length:=by rw [← hj];exact hcm _ (List.getElem_mem hclt)
    have hms:mvStep qb3 procs s l choices (Es,D,O) n=(Es.set j (oneS qb3 procs (visS Es D s j) l[j]).2,D.set j true,O++[j]):=by
     unfold mvStep
     simp only [hcd,hq,List.getD_eq_getElem?_getD,List.getElem?_eq_getElem hclt,Option.getD_some,hj,List.getElem?_eq_getElem hjl]
    rw [hms]
    rw [hce,hcd]
    obtain ⟨hv1,hv2⟩:=vis_rng hB hs hJ.inv j (by omega)
    dsimp only at hv1 hv2
    have hvis:=fun H a b ha hb=>c_mv_VisibleU Es D j s H a b ha hb (by omega) (by omega) (by omega) (by omega) (fun k hk hdk=>by
     have w1:=vis_wr hB hs hJ.inv (show k<l.length by omega) hdk hk
     have w2:=(vis_rng hB hs hJ.inv k (by omega)).2
     dsimp only at w1 w2
     omega)
    obtain ⟨V,hV⟩:∃ V,visS Es D s j=V:=⟨_,rfl⟩
    rw [hV] at hv1 hv2
    simp only [hV] at hvis ⊢
    have hone:=fun H hH=>c_serial_One (g:=g) (tT:=tT) (tx:=tx) procs V l[j] H hH (runIn_one hB hv1 (List.getElem_mem hjl)) (by omega)
    simp -dsimp [go_sem,hN]
    refine qac hch ?_
    simp -dsimp [go_sem,hN,hclt,hj,nR]
    refine qan 16 mixed (by kernel_rfl) (by kernel_rfl) ?_
    simp -dsimp [go_sem,hN]
    simp only [he1,he2] at hvis
    refine tdcall_at (fun _=>fun h' hs=>hvis h' (h.length+2) (h.length+3) (hs _ _ rfl (by simp)) (hs _ _ rfl (by simp))) (by simp) ?_
    simp -dsimp [go_sem,hN,hjl,Txn.c]
    refine tdcall_at (fun _=>at_tab (fun h hg=>hone h hg) (hg' _)) (by simp) ?_
    obtain ⟨R,hR⟩:∃ R,oneS qb3 procs V l[j]=R:=⟨_,rfl⟩
    simp only [hR]
    simp -dsimp [go_sem,hN,hjl,he1,he2,hal,hw]
    exact ⟨by omega,hc,Wk.mk (by simp [hh]) (by simp [go_sem,nR,bRow]) (by simp [hu,qaa hu,go_sem]) (by simp [go_sem])⟩
  ·
   have hn2:n=l.length:=by omega
   subst hn2
   have hvis:=fun H a b ha hb=>c_mv_VisibleU Es D l.length s H a b ha hb (by omega) (by omega) (by omega) (by omega) (fun k hk hdk=>by
    have w1:=vis_wr hB hs hJ.inv (show k<l.length by omega) hdk hk
    have w2:=(vis_rng hB hs hJ.inv k (by omega)).2
    dsimp only at w1 w2
    omega)
   simp only [he1,he2] at hvis
   obtain ⟨V,hV⟩:∃ V,visS Es D s l.length=V:=⟨_,rfl⟩
   simp only [hV] at hvis ⊢
   simp -dsimp [go_sem,hN]
   refine qap (hvis _ (h.length+2) (h.length+3) (by simp) (by simp)) ?_
   rintro r h' ⟨rfl,rfl⟩
   simp -dsimp [go_sem,hN,he3]
   exact ⟨_,.refl _,h++[.none,.none,.uarr 39 8 (Es.map Eff.c)],by simp [go_sem],by simp [go_sem],by simp,by simp [qaa hu,go_sem],by rw [hX,hV],by rw [hX]⟩
theorem c_mv_Round (procs:List Proc) (s:List Pr) (l:List Txn) (choices:List Int) (h:qae) (hg:h[g]?=some (tabO tT tx)) (hB:BatchIn qb3 procs l) (hs:rngL s) (hL:s.length+192 * l.length≤60000000000) :
  ACalls Tryz.prog 19 [.slice (procs.map Proc.c),.slice (s.map Pr.c),.slice (l.map Txn.c),.slice (choices.map iRow)] h fun r h'=>r=.ret (.tuple [.slice ((visS (mvN qb3 procs s l choices l.length).1 (mvN qb3 procs s l choices l.length).2.1 s l.length).map Pr.c),.slice ((mvN qb3 procs s l choices l.length).1.map Eff.c),.slice ((mvN qb3 procs s l choices l.length).2.2.map nR)])∧h'=h:=by
 have hlen:=(mv_all (choices:=choices) hB hs l.length (Nat.le_refl _)).inv.le
 have core:=c_mv_Round0 (g:=g) (tT:=tT) (tx:=tx) procs s l choices h hg hB hs hL
 refine ⟨core.1,fun cx wx vx hsx hax=>?_⟩
 have hu:=hsx.hUnder
 refine (acalls_ret (fun E hE=>?_) core).2 cx wx vx hsx hax
 refine (demote_wk E _ (i:=h.length+2) (t:=39) (sz:=8) (rows:=(mvN qb3 procs s l choices l.length).1.map Eff.c) (by simp)).trans ?_
 simp
 refine (norm_wk E _).trans ?_
 exact Wk.mk (by simp [hE]) (by simpa [go_sem] using hwk.app0 _) (by simpa using hu) (by simp [go_sem,AV.norm,qa6,wkT,hlen])
end Go.Proofs.YtcjolkgjhcdhcaaGreatDoor
