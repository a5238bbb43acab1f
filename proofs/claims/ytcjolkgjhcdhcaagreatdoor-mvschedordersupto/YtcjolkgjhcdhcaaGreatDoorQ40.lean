/- Part 40 of a proof: W73, W74, W75, W54 -/
import Derived.Test.YtcjolkgjhcdhcaaGreatDoorQ17
import Derived.Test.YtcjolkgjhcdhcaaGreatDoorQ19
import Derived.Test.YtcjolkgjhcdhcaaGreatDoorQ27
import Derived.Test.YtcjolkgjhcdhcaaGreatDoorQ37
import Derived.Test.YtcjolkgjhcdhcaaGreatDoorQ39
set_option linter.all false

set_option maxRecDepth 4000
set_option maxHeartbeats 2000000
namespace Go.Proofs.YtcjolkgjhcdhcaaGreatDoor
open Go Go.Abs Go.Cw
theorem c_ref26_Deps (l:List Foot):APure Tryz.prog 13 [.slice (l.map Foot.c)] (.slice ((qba l l.length).map lR)):=by
 refine qad Tryz.func13 rfl (by kernel_rfl) (by simp [Tryz.ntmps13]) rfl ?_
 intro E h hN hh hu hb
 rw [Tryz.ntmps13] at hN
 refine qab _ _ _ ?_
 simp [go_sem] at hb
 simp -dsimp [go_sem,hN]
 refine qah l.length (fun n=>True) (fun n=>⟨[(0,.slice (l.map Foot.c)),(3,.own h.length n),(4,I n)],h++[.arr 28 1 ((qba l n).map lR)]⟩) trivial ((nil_wk E _ 3 28 1 (by simp [go_sem])).trans ?_) ?_
 ·
  simp [qba]
  exact (Wk.mk (by simp [hh]) (by simp [go_sem]) (by simp [hu,qaa hu,go_sem]) (by simp [go_sem]))
 intro n hn _
 have hw:=qax hn (show _≤68719476736 by omega)
 have hal:=depsAll_len l n
 simp -dsimp [go_sem,hN]
 refine cnd ?_ ?_<;>intro hc<;>simp at hc
 ·
  simp -dsimp [go_sem,hN,hc]
  refine qah n (fun m=>True) (fun m=>⟨[(0,.slice (l.map Foot.c)),(3,.own h.length n),(4,I n),(5,if m<n then .own (h.length+1) (depM l n m).length else .slice ((depM l n n).map nR)),(6,I m)],h++.arr 28 1 ((qba l n).map lR)::if m<n then [.arr 3 1 ((depM l n m).map nR)] else []⟩) trivial ?_ ?_
  ·
   by_cases h0:0<n
   ·
    simp only [if_pos h0]
    refine (nil_wk E _ 5 3 1 (by simp [go_sem])).trans ?_
    simp [depM]
    exact (Wk.mk (by simp [hh]) (by simp [go_sem]) (by simp [hu,qaa hu,go_sem]) (by simp [go_sem]))
   ·
    obtain rfl:n=0:=by omega
    simp [depM]
    exact (Wk.mk (by simp [hh]) (by simp [go_sem]) (by simp [hu,qaa hu,go_sem]) (by simp [go_sem]))
  intro m hm _
  have hw2:=qax hm (show _≤68719476736 by omega)
  rcases Nat.lt_or_ge m n with hd | hd
  ·
   have hml:m<l.length:=by omega
   have hdl:=depM_len l n m
   have hdm:=depM_succ (fs:=l) hc hml
   simp only [if_pos hd]
   simp -dsimp [go_sem,hN,hd]
   refine qan 8 mixed (by kernel_rfl) (by kernel_rfl) ?_
   simp -dsimp [go_sem,hN,hc,hml]
   refine qac (c_ref26_Depends l[m] l[n]) ?_
   simp -dsimp [go_sem,hN]
   refine cnd (fun h1=>?_) (fun h1=>?_)
   ·
    rw [if_pos h1] at hdm
    simp -dsimp [go_sem,hN,hw2]
    repeat refine ⟨by omega,?_⟩
    rcases Nat.lt_or_ge (m+1) n with h2 | h2
    ·
     simp only [if_pos h2,hdm]
     exact (Wk.mk (by simp [hh]) (by simp [go_sem,nR]) (by simp [hu,qaa hu,go_sem]) (by simp [go_sem]))
    ·
     have e:n=m+1:=by omega
     have hdn:depM l n n=depM l n m++[m]:=by rw [← hdm,← e]
     simp only [if_neg (show ¬ m+1<n by omega),hdn]
     exact (norm1_wk E _ 5).trans (Wk.mk (by simp [hh]) (by simp [go_sem,nR]) (by simp [hu,qaa hu,go_sem]) (by simp [go_sem,AV.norm,qa6,wkT,nR]))
   ·
    rw [if_neg (by simp [h1])] at hdm
    simp -dsimp [go_sem,hN,hw2]
    repeat refine ⟨by omega,?_⟩
    rcases Nat.lt_or_ge (m+1) n with h2 | h2
    ·
     simp only [if_pos h2,hdm]
     exact (Wk.mk (by simp [hh]) (by simp [go_sem,nR]) (by simp [hu,qaa hu,go_sem]) (by simp [go_sem]))
    ·
     have e:n=m+1:=by omega
     have hdn:depM l n n=depM l n m:=by rw [← hdm,← e]
     simp only [if_neg (show ¬ m+1<n by omega),hdn]
     exact (norm1_wk E _ 5).trans (Wk.mk (by simp [hh]) (by simp [go_sem,nR]) (by simp [hu,qaa hu,go_sem]) (by simp [go_sem,AV.norm,qa6,wkT,nR]))
  ·
   obtain rfl:m=n:=by omega
   simp only [if_neg (Nat.lt_irrefl m)]
   simp -dsimp [go_sem,hN,hal,hw]
   refine ⟨by omega,hc,?_⟩
   rw [depsAll_succ]
   exact (Wk.mk (by simp [hh]) (by simp [go_sem,lR]) (by simp [hu,qaa hu,go_sem]) (by simp [go_sem]))
 ·
  simp -dsimp [go_sem,hN,hal]
  rw [show n=l.length by omega]
theorem qc7 (order:List Int) (N:Nat) (hl:N≤100000):APure Tryz.prog 22 [.slice (order.map iRow),I N] (Bo (permR order N)):=by
 refine qad Tryz.func22 rfl (by kernel_rfl) (by simp [Tryz.ntmps22]) rfl ?_
 intro E h hN hh hu hb
 rw [Tryz.ntmps22] at hN
 simp [go_sem] at hb
 obtain ⟨r,hr⟩:∃ r,permR order N=r:=⟨_,rfl⟩
 rw [hr]
 unfold permR at hr
 refine qbs (awp_ops ?_)
 simp [go_sem,hN]
 refine qbs (qab _ _ _ ?_)
 simp -dsimp [go_sem,hN]
 refine cnd ?_ ?_<;>intro h0<;>simp at h0
 ·
  have h0':¬ order.length=N:=by omega
  rw [decide_eq_false h0',Bool.false_and] at hr
  subst hr
  simp -dsimp [go_sem,hN]
 have h0':order.length=N:=by omega
 rw [decide_eq_true h0',Bool.true_and] at hr
 simp -dsimp [go_sem,hN]
 refine qbs (awp_opsT [_] _ ?_)
 simp [go_sem,hN]
 intro c a w sm k
 refine wp_makeT sm k (el:=4) (x:=.tmp 11) (d1:=12) (n:=N) (sz:=1) (zr:=[Bo false]) rfl rfl (by omega) rfl (by simp [go_sem]) (by simp [go_sem]) (by simp [go_sem]) (by omega) (by simp [go_sem]) (by simp [go_sem]) (by simp [go_sem,nilz]) (by simp [go_sem]) (by simp [go_sem]) (by omega) fun c' a' w' s' k'=>?_
 refine qco _ [_,_] _ rfl ?_ c' a' w' s' k'
 simp [go_sem,hN]
 apply qab
 simp -dsimp [go_sem,hN]
 refine qa7 (α:=List Bool) N (fun n m=>m.length=N∧permF N (order.drop n) m=r) (fun n m=>⟨[(0,.slice (order.map iRow)),(1,I N),(5,.own h.length N),(6,I n)],h++[.uarr 4 1 (m.map bRow)]⟩) (List.replicate N false) ⟨by simp,by simpa using hr⟩ ?_ ?_
 · exact (Wk.mk (by simp [hh]) (by simp [go_sem,bRow]) (by simp [hu,qaa hu,go_sem]) (by simp [go_sem]))
 rintro n m hn ⟨hm,hI⟩
 have hw:=qax hn (show _≤68719476736 by omega)
 simp -dsimp [go_sem,hN]
 refine cnd ?_ ?_<;>intro hc<;>simp at hc
 ·
  have hc':n<order.length:=by omega
  rw [qaj hc',permF] at hI
  obtain ⟨k,hk⟩:∃ k,order[n]=k:=⟨_,rfl⟩
  rw [hk] at hI
  by_cases h1:k<0
  ·
   rw [if_pos (.inl h1)] at hI
   subst hI
   simp -dsimp [go_sem,hN,hc',iRow,hk,h1]
  obtain ⟨j,rfl⟩:=Int.eq_ofNat_of_zero_le (show 0≤k by omega)
  rw [Int.toNat_natCast] at hI
  by_cases h2:(N:Int)≤(j:Int)
  ·
   rw [if_pos (.inr (.inl h2))] at hI
   subst hI
   simp -dsimp [go_sem,hN,hc',iRow,hk,h1,h2]
  have hj:j<N:=by omega
  have hjm:j<m.length:=by omega
  have hg:m.getD j false=m[j]:=by rw [List.getD_eq_getElem?_getD,List.getElem?_eq_getElem hjm];rfl
  rcases h3:m[j] with _ | _
  ·
   rw [if_neg (by rw [hg,h3];simp only [not_or];exact ⟨h1,h2,by simp⟩)] at hI
   simp -dsimp [go_sem,hN,hc',iRow,bRow,hk,h1,h2,hj,hjm,hm,h3,hw]
   exact ⟨hc,m.set j true,⟨by simp [hm],hI⟩,Wk.mk (by simp [hh]) (by simp [go_sem,bRow]) (by simp [hu,qaa hu,go_sem]) (by simp [go_sem])⟩
  ·
   rw [if_pos (.inr (.inr (by rw [hg,h3])))] at hI
   subst hI
   simp -dsimp [go_sem,hN,hc',iRow,bRow,hk,h1,h2,hj,hjm,hm,h3]
 ·
  rw [List.drop_eq_nil_of_le (by omega),permF] at hI
  subst hI
  simp -dsimp [go_sem,hN]
theorem c_ref26_Early (fs:List Foot) (order:List Int) (hl:fs.length≤1000):APure Tryz.prog 25 [.slice (fs.map Foot.c),.slice (order.map iRow)] (I (earlyR fs order)):=by
 refine qad Tryz.func25 rfl (by kernel_rfl) (by simp [Tryz.ntmps25]) rfl ?_
 intro E h hN hh hu hb
 rw [Tryz.ntmps25] at hN
 refine qab _ _ _ ?_
 simp [go_sem] at hb
 obtain ⟨r,hr⟩:∃ r,earlyR fs order=r:=⟨_,rfl⟩
 rw [hr]
 unfold earlyR at hr
 simp -dsimp [go_sem,hN]
 refine qac (qc7 order fs.length (by omega)) ?_
 simp -dsimp [go_sem,hN]
 refine cnd ?_ ?_<;>intro h0<;>simp at h0
 ·
  rw [if_neg (by simp [h0])] at hr
  subst hr
  simp -dsimp [go_sem,hN]
 rw [if_pos h0] at hr
 obtain ⟨_,_,ho,hpos⟩:=perm_ord h0
 have hlen:order.length=fs.length:=by simpa using ho.len
 have hlt:∀ a (h:a<order.length),(order[a]).toNat<fs.length∧0≤order[a]:=fun a h=>⟨ho.lt _ (List.mem_map.2 ⟨_,List.getElem_mem h,rfl⟩),hpos _ (List.getElem_mem h)⟩
 simp -dsimp [go_sem,hN]
 refine qah order.length (fun n=>True) (fun a=>⟨[(0,.slice (fs.map Foot.c)),(1,.slice (order.map iRow)),(5,I (earlyLo (order.map Int.toNat) (qc6 fs) fs.length a)),(6,I a)],h⟩) trivial ?_ ?_
 ·
  rw [earlyLo_0]
  exact (Wk.mk (by simp [hh]) (by simp [go_sem]) (by simp [hu,qaa hu,go_sem]) (by simp [go_sem]))
 intro a ha _
 have hw:=qax ha (show _≤68719476736 by omega)
 have hes:=earlyLo_succ (C:=qc6 fs) (n:=fs.length) (a:=a) hpos
 have hel:=earlyLo_le order (qc6 fs) fs.length hpos a (by omega)
 have hel2:a * fs.length≤1000 * 1000:=Nat.mul_le_mul (by omega) (by omega)
 simp only [hes]
 obtain ⟨b,hb'⟩:∃ b,earlyLo (order.map Int.toNat) (qc6 fs) fs.length a=b:=⟨_,rfl⟩
 rw [hb'] at hel
 simp only [hb']
 simp -dsimp [go_sem,hN]
 refine cnd ?_ ?_<;>intro hc<;>simp at hc
 ·
  simp -dsimp [go_sem,hN,hw]
  refine qah (fs.length - (a+1)) (fun n=>True) (fun k=>⟨[(0,.slice (fs.map Foot.c)),(1,.slice (order.map iRow)),(5,I (b+cL order (qc6 fs) a k:Nat)),(6,I a),(7,I (a+1+k:Nat))],h⟩) trivial ?_ ?_
  ·
   rw [cL_0]
   exact (Wk.mk (by simp [hh]) (by simp [go_sem]) (by simp [hu,qaa hu,go_sem]) (by simp [go_sem]))
  intro k hk _
  have hcs:=cL_succ order (qc6 fs) a k
  have hcl:=cL_le order (qc6 fs) a k
  simp only [hcs]
  obtain ⟨d,hd'⟩:∃ d,cL order (qc6 fs) a k=d:=⟨_,rfl⟩
  rw [hd'] at hcl
  simp only [hd']
  have hwb:IntKind.i64.wrap ((b:Int)+(d:Int)+1)=(b:Int)+(d:Int)+1:=wrapI (by omega) (by omega)
  have hwk:IntKind.i64.wrap ((a:Int)+1+(k:Int)+1)=(a:Int)+1+(k:Int)+1:=wrapI (by omega) (by omega)
  obtain ⟨m,hm⟩:∃ m,a+1+k=m:=⟨_,rfl⟩
  rw [hm]
  have hwm:IntKind.i64.wrap ((m:Int)+1)=(m:Int)+1:=wrapI (by omega) (by omega)
  simp -dsimp [go_sem,hN]
  refine cnd ?_ ?_<;>intro hd<;>simp at hd
  ·
   have g1:order.getD m 0=order[m]:=by rw [List.getD_eq_getElem?_getD,List.getElem?_eq_getElem hd];rfl
   have g2:order.getD a 0=order[a]:=by rw [List.getD_eq_getElem?_getD,List.getElem?_eq_getElem hc];rfl
   rw [g1,g2]
   obtain ⟨l1,p1⟩:=hlt m hd
   obtain ⟨l2,p2⟩:=hlt a hc
   obtain ⟨x,hx⟩:=Int.eq_ofNat_of_zero_le p1
   obtain ⟨y,hy⟩:=Int.eq_ofNat_of_zero_le p2
   rw [hx,Int.toNat_natCast] at l1
   rw [hy,Int.toNat_natCast] at l2
   rw [hx,hy,Int.toNat_natCast,Int.toNat_natCast]
   have hC:qc6 fs x y=qcx fs[x] fs[y]:=by
    unfold qc6
    rw [List.getElem?_eq_getElem l1,List.getElem?_eq_getElem l2]
   rw [hC]
   simp -dsimp [go_sem,hN,hc,hd,iRow,hx,hy,l1,l2]
   refine qan 24 mixed (by kernel_rfl) (by kernel_rfl) ?_
   simp -dsimp [go_sem,hN,hc,hd,iRow,hx,hy,l1,l2]
   refine qai (qcq fs[x] fs[y]) (by simp) ?_
   simp -dsimp [go_sem,hN]
   refine cnd (fun h1=>?_) (fun h1=>?_)
   ·
    rw [if_pos (by simpa using h1)]
    simp -dsimp [go_sem,hN,hwb,hwm]
    refine ⟨by omega,?_⟩
    exact Wk.mk (by simp [hh]) (by simp [go_sem,Int.add_assoc,← hm]) (by simp [hu,qaa hu,go_sem]) (by simp [go_sem,Int.add_assoc,← hm])
   ·
    rw [if_neg (by simpa using h1)]
    simp -dsimp [go_sem,hN,hwm]
    refine ⟨by omega,?_⟩
    exact Wk.mk (by simp [hh]) (by simp [go_sem,Int.add_assoc,← hm]) (by simp [hu,qaa hu,go_sem]) (by simp [go_sem,Int.add_assoc,← hm])
  ·
   have e:k=fs.length - (a+1):=by omega
   simp -dsimp [go_sem,hN,hw]
   rw [← e,hd']
   exact ⟨hc,(Wk.mk (by simp [hh]) (by simp [go_sem]) (by simp [hu,qaa hu,go_sem]) (by simp [go_sem]))⟩
 ·
  have e:a=fs.length:=by omega
  simp -dsimp [go_sem,hN]
  rw [← hb',e,hr]
end Go.Proofs.YtcjolkgjhcdhcaaGreatDoor

set_option maxRecDepth 4000
set_option maxHeartbeats 2000000
namespace Go.Proofs.YtcjolkgjhcdhcaaGreatDoor
open Go Go.Abs Go.Cw
theorem c_ref26_Visible (effs:List Eff) (done:List Bool) (i:Int) (s:List Pr) (hL:∀ k (h:k<effs.length),(visS effs done s k).length+effs[k].writes.length<68719476736) :
  APure Tryz.prog 17 [.slice (effs.map Eff.c),.slice (done.map bRow),I i,.slice (s.map Pr.c)] (.slice ((visS effs done s (min (min i effs.length) done.length).toNat).map Pr.c)):=by
 refine qad Tryz.func17 rfl (by kernel_rfl) (by simp [Tryz.ntmps17]) rfl ?_
 intro E h hN hh hu hb
 rw [Tryz.ntmps17] at hN
 refine qab _ _ _ ?_
 simp [go_sem] at hb
 obtain ⟨M,hM⟩:∃ M,(min (min i effs.length) done.length).toNat=M:=⟨_,rfl⟩
 rw [hM]
 simp -dsimp [go_sem,hN]
 refine qah M (fun n=>True) (fun n=>⟨[(0,.slice (effs.map Eff.c)),(1,.slice (done.map bRow)),(2,I i),(3,.slice ((visS effs done s n).map Pr.c)),(9,I n)],h⟩) trivial ?_ ?_
 ·
  simp [visS]
  exact (Wk.mk (by simp [hh]) (by simp [go_sem]) (by simp [hu,qaa hu,go_sem]) (by simp [go_sem]))
 intro n hn _
 have hw:=qax hn (show _≤68719476736 by omega)
 simp -dsimp [go_sem,hN]
 refine cnd ?_ ?_<;>intro hc<;>simp at hc
 ·
  have hnM:n<M:=by omega
  have h1:n<effs.length:=by omega
  have h2:n<done.length:=by omega
  have hv:=vis_next (s:=s) h1 h2
  have hLn:=hL n h1
  obtain ⟨V,hV⟩:∃ V,visS effs done s n=V:=⟨_,rfl⟩
  rw [hV] at hv hLn
  simp only [hV]
  rcases hd:done[n] with _ | _
  ·
   rw [hd,if_neg (by simp)] at hv
   simp -dsimp [go_sem,hN,h1,h2,hd,bRow,hw]
   rw [hv]
   exact ⟨hnM,(Wk.mk (by simp [hh]) (by simp [go_sem]) (by simp [hu,qaa hu,go_sem]) (by simp [go_sem]))⟩
  ·
   rw [hd,if_pos rfl] at hv
   have hA:=c_ref06_Apply V effs[n].writes hLn
   by_cases h3:effs[n].status=1
   ·
    simp -dsimp [go_sem,hN,h1,h2,hd,h3,bRow,Eff.c]
    by_cases hok:qay V=true∧qbn effs[n].writes=true
    ·
     rw [hok.1,hok.2] at hA
     simp only [Bool.and_self,if_true] at hA
     refine qac hA ?_
     simp -dsimp [go_sem,hN,hw]
     rw [hv,show qbm V effs[n]=qc9 V effs[n].writes by unfold qbm;rw [if_pos ⟨h3,hok⟩]]
     exact ⟨hnM,(Wk.mk (by simp [hh]) (by simp [go_sem]) (by simp [hu,qaa hu,go_sem]) (by simp [go_sem]))⟩
    ·
     rw [if_neg (by simpa using hok)] at hA
     refine qac hA ?_
     simp -dsimp [go_sem,hN,hw]
     rw [hv,show qbm V effs[n]=V by unfold qbm;rw [if_neg (fun g=>hok g.2)]]
     exact ⟨hnM,(Wk.mk (by simp [hh]) (by simp [go_sem]) (by simp [hu,qaa hu,go_sem]) (by simp [go_sem]))⟩
   ·
    simp -dsimp [go_sem,hN,h1,h2,hd,h3,bRow,Eff.c,hw]
    rw [hv,show qbm V effs[n]=V by unfold qbm;rw [if_neg (fun g=>h3 g.1)]]
    exact ⟨hnM,(Wk.mk (by simp [hh]) (by simp [go_sem]) (by simp [hu,qaa hu,go_sem]) (by simp [go_sem]))⟩
 ·
  have e:n=M:=by omega
  subst e
  simp -dsimp [go_sem,hN]
end Go.Proofs.YtcjolkgjhcdhcaaGreatDoor

set_option maxRecDepth 4000
set_option maxHeartbeats 2000000
namespace Go.Proofs.YtcjolkgjhcdhcaaGreatDoor
open Go Go.Abs Go.Cw
def fewF (f:Foot) (n:Int):Bool:=decide ((f.reads.length:Int)≤n)&&decide ((f.writes.length:Int)≤n)&&(f.reads.all fun k=>decide (k.size≤100))&&(f.writes.all fun k=>decide (k.size≤100))
theorem c_ref19_Few (f:Foot) (n:Int):APure Tryz.prog 28 [.agg f.c,I n] (Bo (fewF f n)):=by
 refine qad Tryz.func28 rfl (by kernel_rfl) (by simp [Tryz.ntmps28]) rfl ?_
 intro E h hN hh hu hb
 rw [Tryz.ntmps28] at hN
 refine qab _ _ _ ?_
 simp [go_sem,Foot.c] at hb
 obtain ⟨r,hr⟩:∃ r,fewF f n=r:=⟨_,rfl⟩
 rw [hr]
 unfold fewF at hr
 by_cases h1:(f.reads.length:Int)≤n
 ·
  by_cases h2:(f.writes.length:Int)≤n
  ·
   rw [decide_eq_true h1,decide_eq_true h2,Bool.true_and,Bool.true_and] at hr
   have h1':¬ n<(f.reads.length:Int):=by omega
   have h2':¬ n<(f.writes.length:Int):=by omega
   simp -dsimp [go_sem,hN,Foot.c,h1',h2']
   refine qah f.reads.length (fun m=>((f.reads.drop m).all fun k=>decide (k.size≤100))=(f.reads.all fun k=>decide (k.size≤100))) (fun m=>⟨[(2,P0 h.length),(5,I m)],h++[.cells f.c]⟩) (by simp) ?_ ?_
   · exact Wk.mk (by simp [hh]) (by simp [go_sem,Foot.c]) (by simp [hu,qaa hu,go_sem]) (by simp [go_sem])
   intro m hm hI
   have hw:=qax hm (show _≤68719476736 by omega)
   simp -dsimp [go_sem,hN,Foot.c]
   refine cnd ?_ ?_<;>intro hc<;>simp at hc
   ·
    rw [qaj hc,List.all_cons] at hI
    by_cases hk:f.reads[m].size≤100
    ·
     have hk':¬ (100:Int)<(f.reads[m].size:Int):=by omega
     rw [decide_eq_true hk,Bool.true_and] at hI
     simp -dsimp [go_sem,hN,hc,hk',hw,Foot.c]
     exact ⟨hI,Wk.mk (by simp [hh]) (by simp [go_sem,Foot.c]) (by simp [hu,qaa hu,go_sem]) (by simp [go_sem])⟩
    ·
     have hk':(100:Int)<(f.reads[m].size:Int):=by omega
     rw [decide_eq_false hk,Bool.false_and] at hI
     rw [← hI,Bool.false_and] at hr
     subst hr
     simp -dsimp [go_sem,hN,hc,hk',hw,Foot.c]
   ·
    rw [List.drop_eq_nil_of_le (by omega),List.all_nil] at hI
    rw [← hI,Bool.true_and] at hr
    simp -dsimp [go_sem,hN]
    refine qah f.writes.length (fun m=>((f.writes.drop m).all fun k=>decide (k.size≤100))=r) (fun m=>⟨[(2,P0 h.length),(6,I m)],h++[.cells f.c]⟩) (by simpa using hr) ?_ ?_
    · exact Wk.mk (by simp [hh]) (by simp [go_sem,Foot.c]) (by simp [hu,qaa hu,go_sem]) (by simp [go_sem])
    intro m hm hI
    have hw:=qax hm (show _≤68719476736 by omega)
    simp -dsimp [go_sem,hN,Foot.c]
    refine cnd ?_ ?_<;>intro hc<;>simp at hc
    ·
     rw [qaj hc,List.all_cons] at hI
     by_cases hk:f.writes[m].size≤100
     ·
      have hk':¬ (100:Int)<(f.writes[m].size:Int):=by omega
      rw [decide_eq_true hk,Bool.true_and] at hI
      simp -dsimp [go_sem,hN,hc,hk',hw,Foot.c]
      exact ⟨hI,Wk.mk (by simp [hh]) (by simp [go_sem,Foot.c]) (by simp [hu,qaa hu,go_sem]) (by simp [go_sem])⟩
     ·
      have hk':(100:Int)<(f.writes[m].size:Int):=by omega
      rw [decide_eq_false hk,Bool.false_and] at hI
      subst hI
      simp -dsimp [go_sem,hN,hc,hk',hw,Foot.c]
    ·
     rw [List.drop_eq_nil_of_le (by omega),List.all_nil] at hI
     subst hI
     simp -dsimp [go_sem,hN]
  ·
   rw [decide_eq_false h2] at hr
   simp only [Bool.and_false,Bool.false_and] at hr
   subst hr
   have h1':¬ n<(f.reads.length:Int):=by omega
   have h2':n<(f.writes.length:Int):=by omega
   simp -dsimp [go_sem,hN,Foot.c,h1',h2']
 ·
  rw [decide_eq_false h1] at hr
  simp only [Bool.false_and] at hr
  subst hr
  have h1':n<(f.reads.length:Int):=by omega
  simp -dsimp [go_sem,hN,Foot.c,h1']
theorem c_ref08_countExpr (e:Ex) (d:Int) (h:qae):ACalls Tryz.prog 88 [.agg e.x,I d] h fun r h'=>(∃ n:Int,r=.ret (I n))∧h'=h:=by
 refine qaf Tryz.func88 rfl (by kernel_rfl) (by simp [Tryz.ntmps88]) ?_
 intro E hN hh hu hb hb' hua
 rw [Tryz.ntmps88] at hN
 refine qab _ _ _ ?_
 simp [go_sem] at hb
 simp -dsimp [go_sem,hN]
 refine qa7 (α:=Int) e.args.length (fun n v=>True) (fun n v=>⟨[(1,I d),(2,.ptr h.length 0),(5,I v),(6,I n)],h++[.cells e.x]⟩) (IntKind.i64.wrap (1+IntKind.i64.wrap ((e.s.size:Int) / 64))) trivial ?_ ?_
 · exact Wk.mk (by simp [hh]) (by simp [go_sem]) (by simp [hu,qaa hu,go_sem]) (by simp [go_sem])
 rintro n v hn -
 have hw:=qax hn (show _≤68719476736 by omega)
 by_cases hc:n<e.args.length
 ·
  have hlt:SizeOf.sizeOf e.args[n]<SizeOf.sizeOf e:=Ex.arg_lt (List.getElem_mem hc)
  simp -dsimp [go_sem,hN,hc]
  refine cnd ?_ ?_<;>intro hd<;>simp at hd
  ·
   simp -dsimp [go_sem,hN,hc]
   refine qap (c_ref08_countExpr e.args[n] _ _) ?_
   rintro r h' ⟨⟨k,rfl⟩,rfl⟩
   simp -dsimp [go_sem,hN,hw]
   exact ⟨hc,IntKind.i64.wrap (v+k),Wk.mk (by simp [hh]) (by simp [go_sem]) (by simp [hu,qaa hu,go_sem]) (by simp [go_sem])⟩
  ·
   simp -dsimp [go_sem,hN]
   exact ⟨_,.refl _,h,by simp [go_sem],by simp [go_sem],by simp,hu,⟨_,rfl⟩,rfl⟩
 ·
  simp -dsimp [go_sem,hN,hc]
  exact ⟨_,.refl _,h,by simp [go_sem],by simp [go_sem],by simp,hu,⟨_,rfl⟩,rfl⟩
termination_by SizeOf.sizeOf e
theorem St.body_sz (s:St):SizeOf.sizeOf s.body<SizeOf.sizeOf s:=by
 cases s
 simp [St.body]
 omega
theorem St.els_sz (s:St):SizeOf.sizeOf s.els<SizeOf.sizeOf s:=by
 cases s
 simp [St.els]
 omega
theorem c_ref08_countBody (l:List St) (d:Int) (h:qae):ACalls Tryz.prog 69 [.slice (l.map St.c),I d] h fun r h'=>(∃ n:Int,r=.ret (I n))∧h'=h:=by
 refine qaf Tryz.func69 rfl (by kernel_rfl) (by simp [Tryz.ntmps69]) ?_
 intro E hN hh hu hb hb' hua
 rw [Tryz.ntmps69] at hN
 refine qab _ _ _ ?_
 simp [go_sem] at hb
 simp -dsimp [go_sem,hN]
 refine qa7 (α:=Int) l.length (fun n v=>True) (fun n v=>⟨[(0,.slice (l.map St.c)),(1,I d),(5,I v),(6,I n)],h⟩) 0 trivial ?_ ?_
 · exact Wk.mk (by simp [hh]) (by simp [go_sem]) (by simp [hu,qaa hu,go_sem]) (by simpa [go_sem] using hua)
 rintro n v hn -
 have hw:=qax hn (show _≤68719476736 by omega)
 by_cases hc:n<l.length
 ·
  have hlt:SizeOf.sizeOf l[n]<SizeOf.sizeOf l:=List.sizeOf_lt_of_mem (List.getElem_mem hc)
  have hlb:=St.body_sz l[n]
  have hle:=St.els_sz l[n]
  have e1:=fun d H=>c_ref08_countExpr l[n].a d H
  have e2:=fun d H=>c_ref08_countExpr l[n].b d H
  have e3:=fun d H=>c_ref08_countBody l[n].body d H
  have e4:=fun d H=>c_ref08_countBody l[n].els d H
  simp -dsimp [go_sem,hN,hc]
  refine cnd ?_ ?_<;>intro hd<;>simp at hd
  ·
   simp -dsimp [go_sem,hN,hc]
   refine qap (e1 _ _) ?_
   rintro r h' ⟨⟨k1,rfl⟩,rfl⟩
   simp -dsimp [go_sem,hN,hc]
   refine qap (e2 _ _) ?_
   rintro r h' ⟨⟨k2,rfl⟩,rfl⟩
   simp -dsimp [go_sem,hN,hc]
   refine qap (e3 _ _) ?_
   rintro r h' ⟨⟨k3,rfl⟩,rfl⟩
   simp -dsimp [go_sem,hN,hc]
   refine qap (e4 _ _) ?_
   rintro r h' ⟨⟨k4,rfl⟩,rfl⟩
   simp -dsimp [go_sem,hN,hc,hw]
   exact ⟨IntKind.i64.wrap (IntKind.i64.wrap (IntKind.i64.wrap (IntKind.i64.wrap (IntKind.i64.wrap (IntKind.i64.wrap (v+1)+IntKind.i64.wrap ((l[n].name.size:Int) / 64))+k1)+k2)+k3)+k4),Wk.mk (by simp [hh]) (by simp [go_sem]) (by simp [hu,qaa hu,go_sem]) (by simpa [go_sem] using hua)⟩
  ·
   simp -dsimp [go_sem,hN]
   exact ⟨_,.refl _,h,by simp [go_sem],by simp [go_sem],by simp,hu,⟨_,rfl⟩,rfl⟩
 ·
  simp -dsimp [go_sem,hN,hc]
  exact ⟨_,.refl _,h,by simp [go_sem],by simp [go_sem],by simp,hu,⟨_,rfl⟩,rfl⟩
termination_by SizeOf.sizeOf l
decreasing_by all_goals omega
theorem c_ref08_Small (p:Proc) (d:Int) (h:qae):ACalls Tryz.prog 37 [.agg p.c,I d] h fun r h'=>(∃ b:Bool,r=.ret (Bo b))∧h'=h:=by
 refine qaf Tryz.func37 rfl (by kernel_rfl) (by simp [Tryz.ntmps37]) ?_
 intro E hN hh hu hb hb' hua
 rw [Tryz.ntmps37] at hN
 refine qab _ _ _ ?_
 simp [go_sem,Proc.c] at hb
 simp -dsimp [go_sem,hN,Proc.c]
 by_cases h1:(40:Int)<(p.params.length:Int)
 ·
  simp -dsimp [go_sem,hN,h1]
  exact ⟨_,.refl _,h,by simp [go_sem],by simp [go_sem],by simp,hu,.inl rfl,rfl⟩
 by_cases h2:(200:Int)<(p.name.size:Int)
 ·
  simp -dsimp [go_sem,hN,h1,h2]
  exact ⟨_,.refl _,h,by simp [go_sem],by simp [go_sem],by simp,hu,.inl rfl,rfl⟩
 simp -dsimp [go_sem,hN,h1,h2]
 refine qah p.params.length (fun n=>True) (fun n=>⟨[(1,I d),(2,P0 h.length),(5,I n)],h++[.cells p.c]⟩) trivial ?_ ?_
 · exact Wk.mk (by simp [hh]) (by simp [go_sem,Proc.c]) (by simp [hu,qaa hu,go_sem]) (by simp [go_sem])
 intro n hn _
 have hw:=qax hn (show _≤68719476736 by omega)
 simp -dsimp [go_sem,hN,Proc.c]
 refine cnd ?_ ?_<;>intro hc<;>simp at hc
 ·
  by_cases h3:(200:Int)<(p.params[n].name.size:Int)
  ·
   simp -dsimp [go_sem,hN,hc,h3,Param.c]
   exact ⟨_,.refl _,h,by simp [go_sem],by simp [go_sem],by simp,hu,.inl rfl,rfl⟩
  ·
   simp -dsimp [go_sem,hN,hc,h3,hw,Param.c]
   exact Wk.mk (by simp [hh]) (by simp [go_sem,Proc.c]) (by simp [hu,qaa hu,go_sem]) (by simp [go_sem])
 ·
  simp -dsimp [go_sem,hN,Proc.c]
  refine qap (c_ref08_countBody p.body d _) ?_
  rintro r h' ⟨⟨k,rfl⟩,rfl⟩
  simp -dsimp [go_sem,hN]
  exact ⟨_,.refl _,h,by simp [go_sem],by simp [go_sem],by simp,hu,by by_cases hk:k≤d<;>simp [hk],rfl⟩
theorem c_law26_few (l:List Foot) (h:qae):ACalls Tryz.prog 10 [.slice (l.map Foot.c)] h fun r h'=>(∃ b:Bool,r=.ret (Bo b)∧(b=true→l.length≤30))∧h'=h:=by
 refine qaf Tryz.func10 rfl (by kernel_rfl) (by simp [Tryz.ntmps10]) ?_
 intro E hN hh hu hb hb' hua
 rw [Tryz.ntmps10] at hN
 refine qab _ _ _ ?_
 simp [go_sem] at hb
 by_cases h1:(30:Int)<(l.length:Int)
 ·
  simp -dsimp [go_sem,hN,h1]
  exact ⟨_,.refl _,h,by simp [go_sem],by simp [go_sem],by simp,hu,.inl rfl,rfl⟩
 simp -dsimp [go_sem,hN,h1]
 refine qah l.length (fun n=>True) (fun n=>⟨[(0,.slice (l.map Foot.c)),(3,I n)],h⟩) trivial ?_ ?_
 · exact Wk.mk (by simp [hh]) (by simp [go_sem]) (by simp [hu,qaa hu,go_sem]) (by simpa [go_sem] using hua)
 intro n hn _
 have hw:=qax hn (show _≤68719476736 by omega)
 simp -dsimp [go_sem,hN]
 refine cnd ?_ ?_<;>intro hc<;>simp at hc
 ·
  simp -dsimp [go_sem,hN,hc]
  refine qac (c_ref19_Few l[n] 40) ?_
  simp -dsimp [go_sem,hN]
  refine cnd ?_ ?_<;>intro hd<;>simp at hd
  ·
   simp -dsimp [go_sem,hN]
   exact ⟨_,.refl _,h,by simp [go_sem],by simp [go_sem],by simp,hu,.inl rfl,rfl⟩
  ·
   simp -dsimp [go_sem,hN,hw]
   exact ⟨hc,Wk.mk (by simp [hh]) (by simp [go_sem]) (by simp [hu,qaa hu,go_sem]) (by simpa [go_sem] using hua)⟩
 ·
  simp -dsimp [go_sem,hN]
  exact ⟨_,.refl _,h,by simp [go_sem],by simp [go_sem],by simp,hu,.inr ⟨rfl,by omega⟩,rfl⟩
theorem c_law26_small (procs:List Proc) (s:List Pr) (l:List Txn) (h:qae):ACalls Tryz.prog 18 [.agg [.slice (procs.map Proc.c),.slice (s.map Pr.c),.slice (l.map Txn.c)]] h fun r h'=>(∃ b:Bool,r=.ret (Bo b)∧(b=true→procs.length≤16∧s.length≤60∧l.length≤12))∧h'=h:=by
 refine qaf Tryz.func18 rfl (by kernel_rfl) (by simp [Tryz.ntmps18]) ?_
 intro E hN hh hu hb hb' hua
 rw [Tryz.ntmps18] at hN
 refine qab _ _ _ ?_
 simp [go_sem] at hb
 by_cases h1:(16:Int)<(procs.length:Int)
 ·
  simp -dsimp [go_sem,hN,h1]
  exact ⟨_,.refl _,h,by simp [go_sem],by simp [go_sem],by simp,hu,.inl rfl,rfl⟩
 by_cases h2:(60:Int)<(s.length:Int)
 ·
  simp -dsimp [go_sem,hN,h1,h2]
  exact ⟨_,.refl _,h,by simp [go_sem],by simp [go_sem],by simp,hu,.inl rfl,rfl⟩
 by_cases h3:(12:Int)<(l.length:Int)
 ·
  simp -dsimp [go_sem,hN,h1,h2,h3]
  exact ⟨_,.refl _,h,by simp [go_sem],by simp [go_sem],by simp,hu,.inl rfl,rfl⟩
 simp -dsimp [go_sem,hN,h1,h2,h3]
 refine qah procs.length (fun n=>True) (fun n=>⟨[(1,P0 h.length),(3,I n)],h++[.cells [.slice (procs.map Proc.c),.slice (s.map Pr.c),.slice (l.map Txn.c)]]⟩) trivial ?_ ?_
 · exact Wk.mk (by simp [hh]) (by simp [go_sem]) (by simp [hu,qaa hu,go_sem]) (by simp [go_sem])
 intro n hn _
 have hw:=qax hn (show _≤68719476736 by omega)
 simp -dsimp [go_sem,hN]
 refine cnd ?_ ?_<;>intro hc<;>simp at hc
 ·
  have e1:=fun H=>c_ref08_Small procs[n] 600 H
  simp -dsimp [go_sem,hN,hc,Proc.c]
  refine qap (e1 _) ?_
  rintro r h' ⟨⟨b,rfl⟩,hh'⟩
  subst hh'
  simp -dsimp [go_sem,hN]
  refine cnd (fun hd=>?_) (fun hd=>?_)
  ·
   simp -dsimp [go_sem,hN]
   exact ⟨_,.refl _,h,by simp [go_sem],by simp [go_sem],by simp,hu,.inl rfl,rfl⟩
  ·
   simp -dsimp [go_sem,hN,hw]
   exact ⟨hc,Wk.mk (by simp [hh]) (by simp [go_sem]) (by simp [hu,qaa hu,go_sem]) (by simp [go_sem])⟩
 ·
  simp -dsimp [go_sem,hN]
  refine qah l.length (fun n=>True) (fun n=>⟨[(1,P0 h.length),(4,I n)],h++[.cells [.slice (procs.map Proc.c),.slice (s.map Pr.c),.slice (l.map Txn.c)]]⟩) trivial ?_ ?_
  · exact Wk.mk (by simp [hh]) (by simp [go_sem]) (by simp [hu,qaa hu,go_sem]) (by simp [go_sem])
  intro n hn _
  have hw:=qax hn (show _≤68719476736 by omega)
  simp -dsimp [go_sem,hN]
  refine cnd ?_ ?_<;>intro hc<;>simp at hc
  ·
   by_cases h4:(40:Int)<(l[n].args.length:Int)
   ·
    simp -dsimp [go_sem,hN,hc,h4,Txn.c]
    refine qai (c_ref19_Few l[n].ft 70) (by simp) ?_
    simp -dsimp [go_sem,hN]
    exact ⟨_,.refl _,h,by simp [go_sem],by simp [go_sem],by simp,hu,.inl rfl,rfl⟩
   ·
    have h4':¬ 40<l[n].args.length:=by omega
    simp -dsimp [go_sem,hN,hc,h4,h4',Txn.c]
    refine qai (c_ref19_Few l[n].ft 70) (by simp) ?_
    simp -dsimp [go_sem,hN]
    refine cnd (fun hd=>?_) (fun hd=>?_)
    ·
     simp -dsimp [go_sem,hN]
     exact ⟨_,.refl _,h,by simp [go_sem],by simp [go_sem],by simp,hu,.inl rfl,rfl⟩
    ·
     simp -dsimp [go_sem,hN,hw]
     exact ⟨hc,Wk.mk (by simp [hh]) (by simp [go_sem]) (by simp [hu,qaa hu,go_sem]) (by simp [go_sem])⟩
  ·
   simp -dsimp [go_sem,hN]
   exact ⟨_,.refl _,h,by simp [go_sem],by simp [go_sem],by simp,hu,.inr ⟨rfl,by omega,by omega,by omega⟩,rfl⟩
end Go.Proofs.YtcjolkgjhcdhcaaGreatDoor

set_option maxRecDepth 4000
set_option maxHeartbeats 2000000
namespace Go.Proofs.YtcjolkgjhcdhcaaGreatDoor
open Go Go.Abs Go.Cw
variable {tT:TypeId} {tx:Nat×Nat} {g:Nat}
theorem c_serial_with (procs:List Proc) (h:qae) :
  ACalls Tryz.prog 49 [.slice (procs.map Proc.c)] h fun r h'=>r=.ret (.agg [.fn (.func 78) [] [.ptr h.length 0]])∧h'=h++[.cells [.slice (procs.map Proc.c)]]:=by
 refine qaf Tryz.func49 rfl (by kernel_rfl) (by simp [Tryz.ntmps49]) ?_
 intro E hN hh hu hb hb' hua
 rw [Tryz.ntmps49] at hN
 refine qab _ _ _ ?_
 simp -dsimp [go_sem,hN]
 exact ⟨_,.refl _,h++[.cells [.slice (procs.map Proc.c)]],by simp [go_sem],hwk.app (l:=[_,_]) (l':=[_]) ⟨ObjWk.refl _,trivial⟩ h,by simp,by simp [qaa hu,go_sem],rfl,rfl⟩
theorem c_serial_with1 (procs:List Proc) (s:List Pr) (t:Txn) (h:qae) (b:Nat) (hb0:h[b]?=some (.cells [.slice (procs.map Proc.c)])) (hg:h[g]?=some (tabO tT tx)) (hI:∀ p,findP procs t=some p→RunIn qb3 p t.args s) (hL:s.length≤60000000000) :
  ACalls Tryz.prog 78 [.slice (s.map Pr.c),.agg t.c,.ptr b 0] h fun r h'=>r=.ret (.tuple [.slice ((oneS qb3 procs s t).1.map Pr.c),.agg (oneS qb3 procs s t).2.c])∧h'=h:=by
 refine qaf Tryz.func78 rfl (by kernel_rfl) (by simp [Tryz.ntmps78]) ?_
 intro E hN hh hu hb hb' hua
 rw [Tryz.ntmps78] at hN
 refine qab _ _ _ ?_
 have hgl:g<h.length:=(List.getElem?_eq_some_iff.1 hg).1
 have hg':∀ l:qae,(h++l)[g]?=some (tabO tT tx):=fun l=>by rw [List.getElem?_append_left hgl];exact hg
 have hbl:b<h.length:=(List.getElem?_eq_some_iff.1 hb0).1
 have hb1:∀ l:qae,(h++l)[b]?=some (.cells [.slice (procs.map Proc.c)]):=fun l=>by rw [List.getElem?_append_left hbl];exact hb0
 have hone:=fun H hH=>c_serial_One (g:=g) (tT:=tT) (tx:=tx) procs s t H hH hI hL
 obtain ⟨O,hO⟩:∃ O,oneS qb3 procs s t=O:=⟨_,rfl⟩
 simp only [hO] at hone ⊢
 simp -dsimp [go_sem,hN,hb1,Txn.c]
 refine qap (hone _ (hg' _)) ?_
 rintro r h' ⟨rfl,rfl⟩
 simp -dsimp [go_sem,hN,Eff.c]
 exact ⟨_,.refl _,h,by simp [go_sem],hwk.app0 _,Nat.le_refl _,hu,rfl,rfl⟩
theorem c_engine_round (procs:List Proc) (s:List Pr) (l:List Txn) (h:qae) (b:Nat) (hb0:h[b]?=some (.cells [.slice (procs.map Proc.c)])) (hg:h[g]?=some (tabO tT tx)) (hB:BatchIn qb3 procs l) (hs:rngL s) (hL:s.length+64 * l.length≤60000000000) :
  ACalls Tryz.prog 50 [.agg [.fn (.func 78) [] [.ptr b 0]],.slice (s.map Pr.c),.slice (l.map Txn.c)] h fun r h'=>r=.ret (.tuple [.slice ((qbe qb3 procs s l).1.map Pr.c),.slice ((qbe qb3 procs s l).2.map Eff.c)])∧h'=h:=by
 refine qaf Tryz.func50 rfl (by kernel_rfl) (by simp [Tryz.ntmps50]) ?_
 intro E hN hh hu hb hb' hua
 rw [Tryz.ntmps50] at hN
 refine qab _ _ _ ?_
 have hgl:g<h.length:=(List.getElem?_eq_some_iff.1 hg).1
 have hg':∀ l:qae,(h++l)[g]?=some (tabO tT tx):=fun l=>by rw [List.getElem?_append_left hgl];exact hg
 have hbl:b<h.length:=(List.getElem?_eq_some_iff.1 hb0).1
 have hb1:∀ l:qae,(h++l)[b]?=some (.cells [.slice (procs.map Proc.c)]):=fun l=>by rw [List.getElem?_append_left hbl];exact hb0
 simp [go_sem] at hb
 simp -dsimp [go_sem,hN]
 refine qah l.length (fun n=>True) (fun n=>⟨[(1,.slice ((qbe qb3 procs s (l.take n)).1.map Pr.c)),(3,P0 h.length),(8,.own (h.length+1) n),(12,.slice (l.map Txn.c)),(13,I l.length),(14,I n)],h++[.cells [.fn (.func 78) [] [.ptr b 0]],.arr 39 8 ((qbe qb3 procs s (l.take n)).2.map Eff.c)]⟩) trivial ((nil_wk E _ 8 39 8 (by simp [go_sem])).trans ?_) ?_
 ·
  simp [qbe]
  exact (Wk.mk (by simp [hh]) (by simp [go_sem]) (by simp [hu,qaa hu,go_sem];omega) (by simp [go_sem]))
 intro n hn _
 have hw:=qax hn (show _≤68719476736 by omega)
 obtain ⟨hrs,hrl,hrc⟩:=round_stepState (fmt:=qb3) (procs:=procs) hs hB n hn
 simp -dsimp [go_sem,hN]
 refine cnd ?_ ?_<;>intro hc<;>simp at hc
 ·
  have hnx:=round_next (fmt:=qb3) (procs:=procs) (s:=s) hc
  have hone:=fun H hH hH2=>c_serial_with1 (g:=g) (tT:=tT) (tx:=tx) procs (qbe qb3 procs s (l.take n)).1 l[n] H b hH hH2 (runIn_one hB hrs (List.getElem_mem hc)) (by omega)
  obtain ⟨X,hX⟩:∃ X,qbe qb3 procs s (l.take n)=X:=⟨_,rfl⟩
  rw [hX] at hnx hrs hrl hrc
  simp only [hX] at hone ⊢
  obtain ⟨O,hO⟩:∃ O,oneS qb3 procs X.1 l[n]=O:=⟨_,rfl⟩
  rw [hO] at hnx
  simp only [hO] at hone
  simp -dsimp [go_sem,hN,hc,Txn.c]
  refine qap (hone _ (hb1 _) (hg' _)) ?_
  rintro r h' ⟨rfl,rfl⟩
  simp -dsimp [go_sem,hN,hw,hrc,Eff.c]
  refine ⟨by omega,hc,?_⟩
  rw [hnx]
  exact (Wk.mk (by simp [hh]) (by simp [go_sem,Eff.c]) (by simp [hu,qaa hu,go_sem];omega) (by simp [go_sem]))
 ·
  simp -dsimp [go_sem,hN]
  rw [if_pos hrc,List.take_of_length_le (by omega)]
  exact ⟨_,.refl _,h,by simp [go_sem],hwk.app0 _,Nat.le_refl _,hu,rfl,rfl⟩
theorem c_serial_Round (procs:List Proc) (s:List Pr) (l:List Txn) (h:qae) (hg:h[g]?=some (tabO tT tx)) (hB:BatchIn qb3 procs l) (hs:rngL s) (hL:s.length+64 * l.length≤60000000000) :
  ACalls Tryz.prog 27 [.slice (procs.map Proc.c),.slice (s.map Pr.c),.slice (l.map Txn.c)] h fun r h'=>r=.ret (.tuple [.slice ((qbe qb3 procs s l).1.map Pr.c),.slice ((qbe qb3 procs s l).2.map Eff.c)])∧h'=h:=by
 refine qaf Tryz.func27 rfl (by kernel_rfl) (by simp [Tryz.ntmps27]) ?_
 intro E hN hh hu hb hb' hua
 rw [Tryz.ntmps27] at hN
 refine qab _ _ _ ?_
 have hgl:g<h.length:=(List.getElem?_eq_some_iff.1 hg).1
 have hg':∀ l:qae,(h++l)[g]?=some (tabO tT tx):=fun l=>by rw [List.getElem?_append_left hgl];exact hg
 obtain ⟨X,hX⟩:∃ X,qbe qb3 procs s l=X:=⟨_,rfl⟩
 have hr:=fun H b h1 h2=>c_engine_round (g:=g) (tT:=tT) (tx:=tx) procs s l H b h1 h2 hB hs hL
 simp only [hX] at hr ⊢
 simp -dsimp [go_sem,hN]
 refine qap (c_serial_with procs h) ?_
 rintro r h' ⟨rfl,rfl⟩
 simp -dsimp [go_sem,hN]
 refine qap (hr _ h.length (by simp) (hg' _)) ?_
 rintro r h' ⟨rfl,rfl⟩
 simp -dsimp [go_sem,hN]
 refine qac (c_Clone_P X.1) ?_
 simp -dsimp [go_sem,hN]
 exact ⟨_,.refl _,h,by simp [go_sem],hwk.app0 _,Nat.le_refl _,hu,rfl,rfl⟩
end Go.Proofs.YtcjolkgjhcdhcaaGreatDoor
