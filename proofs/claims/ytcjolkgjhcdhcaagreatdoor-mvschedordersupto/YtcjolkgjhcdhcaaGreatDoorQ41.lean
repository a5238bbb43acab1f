/- Part 41 of a proof: W77, W78, W79, W80, W76 -/
import Derived.Test.YtcjolkgjhcdhcaaGreatDoorQ37
import Derived.Test.YtcjolkgjhcdhcaaGreatDoorQ38
import Derived.Test.YtcjolkgjhcdhcaaGreatDoorQ39
import Derived.Test.YtcjolkgjhcdhcaaGreatDoorQ40
set_option linter.all false

set_option maxRecDepth 4000
set_option maxHeartbeats 2000000
namespace Go.Proofs.YtcjolkgjhcdhcaaGreatDoor
open Go Go.Abs Go.Cw
theorem c_same_reflM (l:List Pr):APure Tryz.prog 15 [.slice (l.map Pr.c),.slice (l.map Pr.c)] (Bo true):=by
 have:=c_ref06_Same l l
 rwa [sameL_refl (f:=eqP) (fun x=>by simp [eqP,eqVal])] at this
theorem c_effs_reflM (l:List Eff):APure Tryz.prog 21 [.slice (l.map Eff.c),.slice (l.map Eff.c)] (Bo true):=by
 have:=c_law26_same l l
 rwa [sameL_refl (f:=sameE) sameE_refl] at this
section
variable {tT:TypeId} {tx:Nat×Nat} {g:Nat}
theorem c_law26_MvschedDeps (l:List Foot) (h:qae) (hg:h[g]?=some (tabO tT tx)) (hwk0:∀ H:qae,H[g]?=some (tabO tT tx)→ACalls Tryz.prog 11 [] H fun r h'=>r=.ret (Bo true)∧h'=H) :
  ACalls Tryz.prog 3 [.slice (l.map Foot.c)] h fun r h'=>r=.ret (Bo true)∧h'=h:=by
 refine qaf Tryz.func3 rfl (by kernel_rfl) (by simp [Tryz.ntmps3]) ?_
 intro E hN hh hu hb hb' hua
 rw [Tryz.ntmps3] at hN
 refine qab _ _ _ ?_
 simp [go_sem] at hb
 simp -dsimp [go_sem,hN]
 refine qap (c_law26_few l _) ?_
 rintro r h' ⟨⟨b,rfl,hb2⟩,he⟩
 rw [he]
 simp -dsimp [go_sem,hN]
 refine cnd ?_ ?_<;>intro h0<;>simp at h0
 ·
  simp -dsimp [go_sem,hN]
  refine qap (hwk0 _ hg) ?_
  rintro r h' ⟨rfl,he⟩
  rw [he]
  simp -dsimp [go_sem,hN]
  exact ⟨_,.refl _,h,by simp [go_sem],by simp [go_sem],by simp,by simp [hu,go_sem],rfl,rfl⟩
 have hl:=hb2 h0
 simp -dsimp [go_sem,hN]
 refine qac (c_mv_Deps l) ?_
 simp -dsimp [go_sem,hN]
 refine qac (c_ref26_Deps l) ?_
 have hdl:=depsAll_len l l.length
 obtain ⟨M,hM⟩:∃ M,qba l l.length=M:=⟨_,rfl⟩
 rw [hM] at hdl ⊢
 simp -dsimp [go_sem,hN]
 refine qah M.length (fun n=>True) (fun n=>⟨[(3,.slice (M.map lR)),(4,.slice (M.map lR)),(5,I n)],h⟩) trivial (Wk.mk (by simp [hh]) (by simp [go_sem]) (by simp [hu,qaa hu,go_sem]) (by simp [go_sem])) ?_
 intro n hn _
 have hw:=qax hn (show _≤68719476736 by omega)
 simp -dsimp [go_sem,hN]
 refine cnd ?_ ?_<;>intro hc<;>simp at hc
 ·
  simp -dsimp [go_sem,hN,hc]
  refine qan 8 mixed (by kernel_rfl) (by kernel_rfl) ?_
  simp -dsimp [go_sem,hN,hc,lR]
  refine qac (c_ref23_Ints M[n] M[n]) ?_
  simp -dsimp [go_sem,hN,hc,hw]
  exact (Wk.mk (by simp [hh]) (by simp [go_sem]) (by simp [hu,qaa hu,go_sem]) (by simp [go_sem]))
 ·
  simp -dsimp [go_sem,hN]
  refine qap (hwk0 _ hg) ?_
  rintro r h' ⟨rfl,he⟩
  rw [he]
  simp -dsimp [go_sem,hN]
  exact ⟨_,.refl _,h,by simp [go_sem],by simp [go_sem],by simp,by simp [hu,go_sem],rfl,rfl⟩
theorem c_law26_MvschedEarly (fs:List Foot) (order:List Int) (h:qae) (hg:h[g]?=some (tabO tT tx)) (hwk0:∀ H:qae,H[g]?=some (tabO tT tx)→ACalls Tryz.prog 11 [] H fun r h'=>r=.ret (Bo true)∧h'=H) :
  ACalls Tryz.prog 7 [.slice (fs.map Foot.c),.slice (order.map iRow)] h fun r h'=>r=.ret (Bo true)∧h'=h:=by
 refine qaf Tryz.func7 rfl (by kernel_rfl) (by simp [Tryz.ntmps7]) ?_
 intro E hN hh hu hb hb' hua
 rw [Tryz.ntmps7] at hN
 refine qab _ _ _ ?_
 simp [go_sem] at hb
 simp -dsimp [go_sem,hN]
 refine qap (c_law26_few fs _) ?_
 rintro r h' ⟨⟨b,rfl,hb2⟩,he⟩
 rw [he]
 simp -dsimp [go_sem,hN]
 refine cnd (fun h0=>?_) (fun h0=>?_)
 ·
  simp -dsimp [go_sem,hN]
  refine qap (hwk0 _ hg) ?_
  rintro r h' ⟨rfl,he⟩
  rw [he]
  simp -dsimp [go_sem,hN]
  exact ⟨_,.refl _,h,by simp [go_sem],by simp [go_sem],by simp,by simp [hu,go_sem],rfl,rfl⟩
 have hb1:b=true:=by
  cases b
  · simp at h0
  · rfl
 have hl:=hb2 hb1
 have hes:=early_same fs order
 obtain ⟨k,hk⟩:∃ k,earlyR fs order=k:=⟨_,rfl⟩
 have e1:=c_mv_Early fs order (by omega)
 have e2:=c_ref26_Early fs order (by omega)
 rw [hes,hk] at e1
 rw [hk] at e2
 simp -dsimp [go_sem,hN]
 refine qac e1 ?_
 simp -dsimp [go_sem,hN]
 refine qac e2 ?_
 simp -dsimp [go_sem,hN]
 refine qc1 (by simp) ((hwk0 _ hg).mono ?_)
 rintro r h' ⟨rfl,he⟩
 rw [he]
 simp -dsimp [go_sem,hN]
 exact ⟨_,.refl _,h,by simp [go_sem],by simp [go_sem],by simp,by simp [hu,go_sem],rfl,rfl⟩
theorem c_law26_MvschedSerial (procs:List Proc) (s:List Pr) (l:List Txn) (choices:List Int) (h:qae) (hg:h[g]?=some (tabO tT tx)) (hB:BatchIn qb3 procs l) (hs:rngL s) (hwk0:∀ H:qae,H[g]?=some (tabO tT tx)→ACalls Tryz.prog 11 [] H fun r h'=>r=.ret (Bo true)∧h'=H) :
  ACalls Tryz.prog 9 [.agg [.slice (procs.map Proc.c),.slice (s.map Pr.c),.slice (l.map Txn.c)],.slice (choices.map iRow)] h fun r h'=>r=.ret (Bo true)∧h'=h:=by
 refine qaf Tryz.func9 rfl (by kernel_rfl) (by simp [Tryz.ntmps9]) ?_
 intro E hN hh hu hb hb' hua
 rw [Tryz.ntmps9] at hN
 refine qab _ _ _ ?_
 have hgl:g<h.length:=(List.getElem?_eq_some_iff.1 hg).1
 have hg':∀ l:qae,(h++l)[g]?=some (tabO tT tx):=fun l=>by rw [List.getElem?_append_left hgl];exact hg
 simp [go_sem] at hb
 simp -dsimp [go_sem,hN]
 refine qap (c_law26_small procs s l _) ?_
 rintro r h' ⟨⟨b,rfl,hb2⟩,he⟩
 rw [he]
 simp -dsimp [go_sem,hN]
 refine cnd ?_ ?_<;>intro h0<;>simp at h0
 ·
  simp -dsimp [go_sem,hN]
  refine qap (hwk0 _ (hg' _)) ?_
  rintro r h' ⟨rfl,he⟩
  rw [he]
  simp -dsimp [go_sem,hN]
  exact ⟨_,.refl _,h,by simp [go_sem],by simp [go_sem],by simp,by simp [hu,go_sem],rfl,rfl⟩
 obtain ⟨hl1,hl2,hl3⟩:=hb2 h0
 obtain ⟨m1,m2⟩:=mv_serial (choices:=choices) hB hs
 have r1:=fun H hH=>c_mv_Round (g:=g) (tT:=tT) (tx:=tx) procs s l choices H hH hB hs (by omega)
 have r2:=fun H hH=>c_serial_Round (g:=g) (tT:=tT) (tx:=tx) procs s l H hH hB hs (by omega)
 rw [m1] at m2
 simp only [m1,m2] at r1
 have hcnt:(qbe qb3 procs s l).2.length=l.length:=roundS_len l
 obtain ⟨A,hA⟩:∃ A,qbe qb3 procs s l=A:=⟨_,rfl⟩
 rw [hA] at hcnt
 obtain ⟨O,hO⟩:∃ O,(mvN qb3 procs s l choices l.length).2.2=O:=⟨_,rfl⟩
 simp only [hA,hO] at r1 r2
 simp -dsimp [go_sem,hN]
 refine qap (r1 _ (hg' _)) ?_
 rintro r h' ⟨rfl,he⟩
 rw [he]
 simp -dsimp [go_sem,hN]
 refine qap (r2 _ (hg' _)) ?_
 rintro r h' ⟨rfl,he⟩
 rw [he]
 simp -dsimp [go_sem,hN]
 refine qac (c_same_reflM A.1) ?_
 simp -dsimp [go_sem,hN]
 refine qai (c_effs_reflM A.2) (by simp) ?_
 simp -dsimp [go_sem,hN,hcnt]
 refine qc1 (by simp) ((hwk0 _ (hg' _)).mono ?_)
 rintro r h' ⟨rfl,he⟩
 rw [he]
 simp -dsimp [go_sem,hN]
 exact ⟨_,.refl _,h,by simp [go_sem],by simp [go_sem],by simp,by simp [hu,go_sem],rfl,rfl⟩
end
end Go.Proofs.YtcjolkgjhcdhcaaGreatDoor

set_option maxRecDepth 4000
set_option maxHeartbeats 2000000
namespace Go.Proofs.YtcjolkgjhcdhcaaGreatDoor
open Go Go.Abs Go.Cw
theorem vis_lenW {effs:List Eff} {done:List Bool} {s:List Pr} (hw:∀ k (h:k<effs.length),effs[k].writes.length≤40):∀ k,(visS effs done s k).length≤s.length+40 * k
 | 0=>by simp [visS]
 | k+1=>by
  have ih:=vis_lenW (done:=done) (s:=s) hw k
  rw [visS]
  split
  ·
   rcases he:effs[k]? with _ | e
   ·
    simp only []
    omega
   ·
    simp only []
    have h1:=applyE_len (visS effs done s k) e
    obtain ⟨hk,hke⟩:=List.getElem?_eq_some_iff.1 he
    have h2:=hw k hk
    rw [hke] at h2
    omega
  · omega
section
variable {tT:TypeId} {tx:Nat×Nat} {g:Nat}
theorem c_law26_MvschedVisible (effs:List Eff) (done:List Bool) (i:Int) (s:List Pr) (h:qae) (hg:h[g]?=some (tabO tT tx)) (hwk0:∀ H:qae,H[g]?=some (tabO tT tx)→ACalls Tryz.prog 11 [] H fun r h'=>r=.ret (Bo true)∧h'=H) :
  ACalls Tryz.prog 4 [.agg [.slice (effs.map Eff.c),.slice (done.map bRow),I i,.slice (s.map Pr.c)]] h fun r h'=>r=.ret (Bo true)∧h'=h:=by
 refine qaf Tryz.func4 rfl (by kernel_rfl) (by simp [Tryz.ntmps4]) ?_
 intro E hN hh hu hb hb' hua
 rw [Tryz.ntmps4] at hN
 refine qab _ _ _ ?_
 have hgl:g<h.length:=(List.getElem?_eq_some_iff.1 hg).1
 have hg':∀ l:qae,(h++l)[g]?=some (tabO tT tx):=fun l=>by rw [List.getElem?_append_left hgl];exact hg
 simp [go_sem] at hb
 by_cases h1:(30:Int)<(effs.length:Int)
 ·
  simp -dsimp [go_sem,hN,h1]
  refine qap (hwk0 _ (hg' _)) ?_
  rintro r h' ⟨rfl,he⟩
  rw [he]
  simp -dsimp [go_sem,hN]
  exact ⟨_,.refl _,h,by simp [go_sem],by simp [go_sem],by simp,by simp [hu,go_sem],rfl,rfl⟩
 by_cases h2:(40:Int)<(done.length:Int)
 ·
  simp -dsimp [go_sem,hN,h1,h2]
  refine qap (hwk0 _ (hg' _)) ?_
  rintro r h' ⟨rfl,he⟩
  rw [he]
  simp -dsimp [go_sem,hN]
  exact ⟨_,.refl _,h,by simp [go_sem],by simp [go_sem],by simp,by simp [hu,go_sem],rfl,rfl⟩
 by_cases h3:(60:Int)<(s.length:Int)
 ·
  simp -dsimp [go_sem,hN,h1,h2,h3]
  refine qap (hwk0 _ (hg' _)) ?_
  rintro r h' ⟨rfl,he⟩
  rw [he]
  simp -dsimp [go_sem,hN]
  exact ⟨_,.refl _,h,by simp [go_sem],by simp [go_sem],by simp,by simp [hu,go_sem],rfl,rfl⟩
 simp -dsimp [go_sem,hN,h1,h2,h3]
 refine qah effs.length (fun n=>∀ k (h:k<effs.length),k<n→effs[k].writes.length≤40) (fun n=>⟨[(1,P0 h.length),(3,I n)],h++[.cells [.slice (effs.map Eff.c),.slice (done.map bRow),I i,.slice (s.map Pr.c)]]⟩) (fun k h0 hk=>by omega) ?_ ?_
 · exact Wk.mk (by simp [hh]) (by simp [go_sem]) (by simp [hu,qaa hu,go_sem]) (by simp [go_sem])
 intro n hn hI
 have hw:=qax hn (show _≤68719476736 by omega)
 simp -dsimp [go_sem,hN]
 refine cnd ?_ ?_<;>intro hc<;>simp at hc
 ·
  by_cases h4:(40:Int)<(effs[n].writes.length:Int)
  ·
   have h4':40<effs[n].writes.length:=by omega
   simp -dsimp [go_sem,hN,hc,h4,h4',Eff.c]
   refine qap (hwk0 _ (hg' _)) ?_
   rintro r h' ⟨rfl,he⟩
   rw [he]
   simp -dsimp [go_sem,hN]
   exact ⟨_,.refl _,h,by simp [go_sem],by simp [go_sem],by simp,by simp [hu,go_sem],rfl,rfl⟩
  ·
   have h4':¬ 40<effs[n].writes.length:=by omega
   have hI2:∀ k (h:k<effs.length),k<n+1→effs[k].writes.length≤40:=fun k h0 hk=>by
    by_cases e:k=n
    · subst e;omega
    · exact hI k h0 (by omega)
   simp -dsimp [go_sem,hN,hc,h4,h4',hw,Eff.c]
   exact ⟨hI2,Wk.mk (by simp [hh]) (by simp [go_sem]) (by simp [hu,qaa hu,go_sem]) (by simp [go_sem])⟩
 ·
  have hI3:∀ k (h:k<effs.length),effs[k].writes.length≤40:=fun k h0=>hI k h0 (by omega)
  have hv:=vis_lenW (done:=done) (s:=s) hI3
  have hL:∀ k (h:k<effs.length),(visS effs done s k).length+effs[k].writes.length<68719476736:=fun k h0=>by
   have a1:=hv k
   have a2:=hI3 k h0
   omega
  have e1:=c_mv_Visible effs done i s hL
  have e2:=c_ref26_Visible effs done i s hL
  obtain ⟨V,hV⟩:∃ V,visS effs done s (min (min i effs.length) done.length).toNat=V:=⟨_,rfl⟩
  rw [hV] at e1 e2
  simp -dsimp [go_sem,hN]
  refine qan 17 mixed (by kernel_rfl) (by kernel_rfl) ?_
  simp -dsimp [go_sem,hN]
  refine qcr e1 (by simp) ?_
  simp -dsimp [go_sem,hN]
  refine qac e2 ?_
  simp -dsimp [go_sem,hN]
  refine qac (c_same_reflM V) ?_
  simp -dsimp [go_sem,hN]
  refine qc1 (by simp) ((hwk0 _ (hg' _)).mono ?_)
  rintro r h' ⟨rfl,he⟩
  rw [he]
  simp -dsimp [go_sem,hN]
  exact ⟨_,.refl _,h,by simp [go_sem],by simp [go_sem],by simp,by simp [hu,go_sem],rfl,rfl⟩
end
end Go.Proofs.YtcjolkgjhcdhcaaGreatDoor

set_option maxRecDepth 4000
set_option maxHeartbeats 2000000
namespace Go.Proofs.YtcjolkgjhcdhcaaGreatDoor
open Go Go.Abs Go.Cw
def lgP (fs:List Foot) (o:List Int) (a b:Nat):Bool:=decide (o.getD a 0<o.getD b 0)||!qc6 fs (o.getD a 0).toNat (o.getD b 0).toNat
def lgI (fs:List Foot) (o:List Int) (a k:Nat):Bool:=(List.range k).all fun i=>lgP fs o a (a+1+i)
def lgA (fs:List Foot) (o:List Int) (n:Nat):Bool:=(List.range n).all fun a=>lgI fs o a (o.length - (a+1))
theorem lgI_succ (fs:List Foot) (o:List Int) (a k:Nat):lgI fs o a (k+1)=(lgI fs o a k&&lgP fs o a (a+1+k)):=by simp [lgI,List.range_succ]
theorem lgA_succ (fs:List Foot) (o:List Int) (n:Nat):lgA fs o (n+1)=(lgA fs o n&&lgI fs o n (o.length - (n+1))):=by simp [lgA,List.range_succ]
theorem lgA_iff {fs:List Foot} {o:List Int} (hp:permR o fs.length=true):lgA fs o o.length=decide (earlyP fs o=0):=by
 have h:=legal_iff hp
 have h2:lgA fs o o.length=true↔∀ a b,a<b→b<o.length→(o.getD a 0<o.getD b 0∨qc6 fs (o.getD a 0).toNat (o.getD b 0).toNat=false):=by
  unfold lgA lgI lgP
  simp only [List.all_eq_true,List.mem_range,Bool.or_eq_true,decide_eq_true_eq,Bool.not_eq_true']
  constructor
  ·
   intro g a b hab hb
   have:=g a (by omega) (b - (a+1)) (by omega)
   rwa [show a+1+(b - (a+1))=b by omega] at this
  ·
   intro g a ha i hi
   exact g a (a+1+i) (by omega) (by omega)
 rw [← h] at h2
 rcases hl:lgA fs o o.length with _ | _
 ·
  rw [hl] at h2
  simp at h2
  simp [h2]
 ·
  rw [hl] at h2
  simp at h2
  simp [h2]
theorem depM_dep {fs:List Foot} {j m i:Nat} (h:i∈depM fs j m) (hi:i<fs.length) (hj:j<fs.length):qcx fs[i] fs[j]=true:=by
 unfold depM at h
 have h2:=(List.mem_filter.1 h).2
 rw [List.getElem?_eq_getElem hi,List.getElem?_eq_getElem hj] at h2
 exact dep_confl h2
section
variable {tT:TypeId} {tx:Nat×Nat} {g:Nat}
theorem c_law26_MvschedConflicts (fs:List Foot) (order:List Int) (h:qae) (hg:h[g]?=some (tabO tT tx)) (hwk0:∀ H:qae,H[g]?=some (tabO tT tx)→ACalls Tryz.prog 11 [] H fun r h'=>r=.ret (Bo true)∧h'=H) :
  ACalls Tryz.prog 8 [.slice (fs.map Foot.c),.slice (order.map iRow)] h fun r h'=>r=.ret (Bo true)∧h'=h:=by
 refine qaf Tryz.func8 rfl (by kernel_rfl) (by simp [Tryz.ntmps8]) ?_
 intro E hN hh hu hb hb' hua
 rw [Tryz.ntmps8] at hN
 refine qab _ _ _ ?_
 simp [go_sem] at hb
 simp -dsimp [go_sem,hN]
 refine qap (c_law26_few fs _) ?_
 rintro r h' ⟨⟨b,rfl,hb2⟩,he⟩
 rw [he]
 rcases b with _ | _
 ·
  simp -dsimp [go_sem,hN]
  refine qck ?_
  simp -dsimp [go_sem,hN]
  refine qap (hwk0 _ hg) ?_
  rintro r h' ⟨rfl,he⟩
  rw [he]
  simp -dsimp [go_sem,hN]
  exact ⟨_,.refl _,h,by simp [go_sem],by simp [go_sem],by simp,by simp [hu,go_sem],rfl,rfl⟩
 have hl:=hb2 rfl
 simp -dsimp [go_sem,hN]
 refine qai (qc7 order fs.length (by omega)) (by simp) ?_
 simp -dsimp [go_sem,hN]
 refine cnd ?_ ?_<;>intro h0<;>simp at h0
 ·
  simp -dsimp [go_sem,hN]
  refine qap (hwk0 _ hg) ?_
  rintro r h' ⟨rfl,he⟩
  rw [he]
  simp -dsimp [go_sem,hN]
  exact ⟨_,.refl _,h,by simp [go_sem],by simp [go_sem],by simp,by simp [hu,go_sem],rfl,rfl⟩
 obtain ⟨_,_,ho,hpos⟩:=perm_ord h0
 have hlen:order.length=fs.length:=by simpa using ho.len
 have hlt:∀ a (h:a<order.length),(order[a]).toNat<fs.length∧0≤order[a]:=fun a h=>⟨ho.lt _ (List.mem_map.2 ⟨_,List.getElem_mem h,rfl⟩),hpos _ (List.getElem_mem h)⟩
 have hdl:=depsAll_len fs fs.length
 simp -dsimp [go_sem,hN]
 refine qac (c_mv_Deps fs) ?_
 simp -dsimp [go_sem,hN,hdl]
 refine qah order.length (fun n=>True) (fun a=>⟨[(0,.slice (fs.map Foot.c)),(1,.slice (order.map iRow)),(5,.slice ((qba fs fs.length).map lR)),(6,Bo (lgA fs order a)),(7,I a)],h⟩) trivial ?_ ?_
 ·
  rw [show lgA fs order 0=true from rfl]
  exact Wk.mk (by simp [hh]) (by simp [go_sem]) (by simp [hu,qaa hu,go_sem]) (by simp [go_sem])
 intro a ha _
 have hw:=qax ha (show _≤68719476736 by omega)
 simp only [lgA_succ]
 obtain ⟨X,hX⟩:∃ X,lgA fs order a=X:=⟨_,rfl⟩
 simp only [hX]
 simp -dsimp [go_sem,hN]
 refine cnd ?_ ?_<;>intro hc<;>simp at hc
 ·
  simp -dsimp [go_sem,hN,hw]
  refine qah (order.length - (a+1)) (fun n=>True) (fun k=>⟨[(0,.slice (fs.map Foot.c)),(1,.slice (order.map iRow)),(5,.slice ((qba fs fs.length).map lR)),(6,Bo (X&&lgI fs order a k)),(7,I a),(8,I (a+1+k:Nat))],h⟩) trivial ?_ ?_
  ·
   rw [show lgI fs order a 0=true from rfl,Bool.and_true]
   exact Wk.mk (by simp [hh]) (by simp [go_sem]) (by simp [hu,qaa hu,go_sem]) (by simp [go_sem])
  intro k hk _
  simp only [lgI_succ]
  obtain ⟨Y,hY⟩:∃ Y,lgI fs order a k=Y:=⟨_,rfl⟩
  simp only [hY]
  obtain ⟨m,hm⟩:∃ m,a+1+k=m:=⟨_,rfl⟩
  rw [hm]
  have hwm:IntKind.i64.wrap ((m:Int)+1)=(m:Int)+1:=wrapI (by omega) (by omega)
  simp -dsimp [go_sem,hN]
  refine cnd ?_ ?_<;>intro hd<;>simp at hd
  ·
   have g1:order.getD m 0=order[m]:=by rw [List.getD_eq_getElem?_getD,List.getElem?_eq_getElem hd];rfl
   have g2:order.getD a 0=order[a]:=by rw [List.getD_eq_getElem?_getD,List.getElem?_eq_getElem hc];rfl
   have hlg:lgP fs order a m=lgP fs order a m:=rfl
   conv at hlg =>
    rhs
    unfold lgP
    rw [g1,g2]
   obtain ⟨l1,p1⟩:=hlt m hd
   obtain ⟨l2,p2⟩:=hlt a hc
   obtain ⟨x,hx⟩:=Int.eq_ofNat_of_zero_le p1
   obtain ⟨y,hy⟩:=Int.eq_ofNat_of_zero_le p2
   rw [hx,Int.toNat_natCast] at l1
   rw [hy,Int.toNat_natCast] at l2
   have hC:qc6 fs y x=qcx fs[y] fs[x]:=by
    unfold qc6
    rw [List.getElem?_eq_getElem l1,List.getElem?_eq_getElem l2]
   rw [hx,hy,Int.toNat_natCast,Int.toNat_natCast,hC] at hlg
   rw [hlg]
   rcases hXY:(X&&Y) with _ | _
   ·
    simp -dsimp [go_sem,hN,hc,hd,iRow,hx,hy,l1,l2,hXY]
    refine qan 26 mixed (by kernel_rfl) (by kernel_rfl) ?_
    simp -dsimp [go_sem,hN,hc,hd,iRow,hx,hy,l1,l2,hXY]
    refine qai (qcq fs[y] fs[x]) (by simp) ?_
    simp -dsimp [go_sem,hN,hwm]
    exact ⟨by omega,Wk.mk (by simp [hh]) (by simp [go_sem,← Bool.and_assoc,hXY]) (by simp [hu,qaa hu,go_sem]) (by simp [go_sem,← Bool.and_assoc,hXY,← hm,Int.add_assoc])⟩
   ·
    simp -dsimp [go_sem,hN,hc,hd,iRow,hx,hy,l1,l2,hXY]
    refine qan 26 mixed (by kernel_rfl) (by kernel_rfl) ?_
    simp -dsimp [go_sem,hN,hc,hd,iRow,hx,hy,l1,l2,hXY]
    refine qai (qcq fs[y] fs[x]) (by simp) ?_
    simp -dsimp [go_sem,hN,hwm]
    exact ⟨by omega,Wk.mk (by simp [hh]) (by simp [go_sem,← Bool.and_assoc,hXY]) (by simp [hu,qaa hu,go_sem]) (by simp [go_sem,← Bool.and_assoc,hXY,← hm,Int.add_assoc])⟩
  ·
   have e:k=order.length - (a+1):=by omega
   simp -dsimp [go_sem,hN,hw]
   rw [← e,hY]
   exact ⟨hc,(Wk.mk (by simp [hh]) (by simp [go_sem]) (by simp [hu,qaa hu,go_sem]) (by simp [go_sem]))⟩
 ·
  have e:a=order.length:=by omega
  rw [e,lgA_iff h0] at hX
  obtain ⟨M,hM⟩:∃ M,qba fs fs.length=M:=⟨_,rfl⟩
  have hMl:M.length=fs.length:=by rw [← hM];exact hdl
  have hMg:∀ n (h:n<M.length),M[n]=depM fs n n:=fun n h=>by
   subst hM
   simp [qba]
  rw [hM]
  simp -dsimp [go_sem,hN]
  refine qah M.length (fun n=>True) (fun n=>⟨[(0,.slice (fs.map Foot.c)),(1,.slice (order.map iRow)),(5,.slice (M.map lR)),(6,Bo X),(9,I n)],h⟩) trivial (Wk.mk (by simp [hh]) (by simp [go_sem]) (by simp [hu,qaa hu,go_sem]) (by simp [go_sem])) ?_
  intro n hn _
  have hw2:=qax hn (show _≤68719476736 by omega)
  simp -dsimp [go_sem,hN]
  refine cnd ?_ ?_<;>intro hd<;>simp at hd
  ·
   have hnf:n<fs.length:=by omega
   have hMn:=hMg n hd
   have hml:=depM_len fs n n
   simp -dsimp [go_sem,hN,hd]
   refine qah (M[n]).length (fun m=>True) (fun m=>⟨[(0,.slice (fs.map Foot.c)),(1,.slice (order.map iRow)),(5,.slice (M.map lR)),(6,Bo X),(9,I n),(10,I m)],h⟩) trivial (Wk.mk (by simp [hh]) (by simp [go_sem]) (by simp [hu,qaa hu,go_sem]) (by simp [go_sem])) ?_
   intro m hm _
   have hw3:=qax hm (show _≤68719476736 by rw [hMn];omega)
   simp -dsimp [go_sem,hN,hd,lR]
   refine cnd ?_ ?_<;>intro he<;>simp at he
   ·
    obtain ⟨q,hq⟩:∃ q,M[n][m]=q:=⟨_,rfl⟩
    have hqm:q∈depM fs n n:=by rw [← hMn,← hq];exact List.getElem_mem he
    have hqn:=depM_lt hqm
    have hqf:q<fs.length:=by omega
    have hcf:=depM_dep hqm hqf hnf
    have hz:¬ n≤q:=by omega
    have hz2:¬ (q:Int)<0:=by omega
    simp -dsimp [go_sem,hN,hd,he,lR,nR,hq]
    refine qan 16 mixed (by kernel_rfl) (by kernel_rfl) ?_
    simp -dsimp [go_sem,hN,hd,he,lR,nR,hq,hz,hz2,hqf,hnf]
    refine qai (qcq fs[q] fs[n]) (by simp) ?_
    rw [hcf]
    simp -dsimp [go_sem,hN,hw3]
    exact ⟨he,(Wk.mk (by simp [hh]) (by simp [go_sem]) (by simp [hu,qaa hu,go_sem]) (by simp [go_sem]))⟩
   ·
    simp -dsimp [go_sem,hN,hw2]
    exact ⟨hd,(Wk.mk (by simp [hh]) (by simp [go_sem]) (by simp [hu,qaa hu,go_sem]) (by simp [go_sem]))⟩
  ·
   have hE:=c_mv_Early fs order (by omega)
   simp -dsimp [go_sem,hN]
   refine qac hE ?_
   simp -dsimp [go_sem,hN,hX]
   refine qc1 (by simp) ((hwk0 _ hg).mono ?_)
   rintro r h' ⟨rfl,he⟩
   rw [he]
   simp -dsimp [go_sem,hN]
   exact ⟨_,.refl _,h,by simp [go_sem],by simp [go_sem],by simp,by simp [hu,go_sem],rfl,rfl⟩
end
end Go.Proofs.YtcjolkgjhcdhcaaGreatDoor

set_option maxRecDepth 4000
set_option maxHeartbeats 2000000
namespace Go.Proofs.YtcjolkgjhcdhcaaGreatDoor
open Go Go.Abs Go.Cw
theorem nR_iRow (O:List Nat):O.map nR=(O.map Int.ofNat).map iRow:=by
 rw [List.map_map]
 rfl
theorem perm_mv {procs:List Proc} {s:List Pr} {l:List Txn} {choices:List Int} (hB:BatchIn qb3 procs l) (hs:rngL s):permR ((mvN qb3 procs s l choices l.length).2.2.map Int.ofNat) l.length=true:=by
 have hJ:=mv_all (choices:=choices) hB hs l.length (Nat.le_refl _)
 refine (perm_iff _ _).2 ⟨by simpa using hJ.len,fun k hk=>?_,?_⟩
 ·
  obtain ⟨j,hj,rfl⟩:=List.mem_map.1 hk
  have:=hJ.lt j hj
  exact ⟨Int.natCast_nonneg j,by show (j:Int)<_;omega⟩
 ·
  rw [List.nil_append,List.map_map]
  have:(Int.toNat∘Int.ofNat)=(id:Nat→Nat):=by funext x;rfl
  rw [this,List.map_id]
  exact hJ.nod
section
variable {tT:TypeId} {tx:Nat×Nat} {g:Nat}
theorem c_law26_MvschedOrders (procs:List Proc) (s:List Pr) (l:List Txn) (choices:List Int) (h:qae) (hg:h[g]?=some (tabO tT tx)) (hB:BatchIn qb3 procs l) (hs:rngL s) (hwk0:∀ H:qae,H[g]?=some (tabO tT tx)→ACalls Tryz.prog 11 [] H fun r h'=>r=.ret (Bo true)∧h'=H) :
  ACalls Tryz.prog 6 [.agg [.slice (procs.map Proc.c),.slice (s.map Pr.c),.slice (l.map Txn.c)],.slice (choices.map iRow)] h fun r h'=>r=.ret (Bo true)∧h'=h:=by
 refine qaf Tryz.func6 rfl (by kernel_rfl) (by simp [Tryz.ntmps6]) ?_
 intro E hN hh hu hb hb' hua
 rw [Tryz.ntmps6] at hN
 have hgl:g<h.length:=(List.getElem?_eq_some_iff.1 hg).1
 have hg':∀ l:qae,(h++l)[g]?=some (tabO tT tx):=fun l=>by rw [List.getElem?_append_left hgl];exact hg
 simp [go_sem] at hb
 refine qbs (qab _ _ _ ?_)
 simp -dsimp [go_sem,hN]
 refine qbs (qab _ _ _ ?_)
 simp -dsimp [go_sem,hN]
 refine qap (c_law26_small procs s l _) ?_
 rintro r h' ⟨⟨b,rfl,hb2⟩,he⟩
 rw [he]
 simp -dsimp [go_sem,hN]
 refine cnd ?_ ?_<;>intro h0<;>simp at h0
 ·
  simp -dsimp [go_sem,hN]
  refine qap (hwk0 _ (hg' _)) ?_
  rintro r h' ⟨rfl,he⟩
  rw [he]
  simp -dsimp [go_sem,hN]
  exact ⟨_,.refl _,h,by simp [go_sem],by simp [go_sem],by simp,by simp [hu,go_sem],rfl,rfl⟩
 obtain ⟨hl1,hl2,hl3⟩:=hb2 h0
 have hJ:=mv_all (choices:=choices) hB hs l.length (Nat.le_refl _)
 have r1:=fun H hH=>c_mv_Round (g:=g) (tT:=tT) (tx:=tx) procs s l choices H hH hB hs (by omega)
 have hpm:=perm_mv (choices:=choices) hB hs
 obtain ⟨⟨Es,D0,O⟩,hX⟩:∃ X,mvN qb3 procs s l choices l.length=X:=⟨_,rfl⟩
 rw [hX] at hJ hpm
 simp only [hX] at r1
 obtain ⟨V,hV⟩:∃ V,visS Es D0 s l.length=V:=⟨_,rfl⟩
 simp only [hV] at r1
 have hOl:=hJ.len
 dsimp only at hOl hpm
 have hperm:=qc7 (O.map Int.ofNat) l.length (by omega)
 rw [hpm,← nR_iRow] at hperm
 have hfl:=qdg l
 have hdl:=depsAll_len (feetL l) l.length
 have hdeps:=c_mv_Deps (feetL l)
 rw [hfl] at hdeps
 obtain ⟨M,hM⟩:∃ M,qba (feetL l) l.length=M:=⟨_,rfl⟩
 rw [hM] at hdl hdeps
 have hMg:∀ n (h:n<M.length),M[n]=depM (feetL l) n n:=fun n h=>by
  subst hM
  simp [qba]
 simp -dsimp [go_sem,hN]
 refine qbs (qab _ _ _ ?_)
 simp -dsimp [go_sem,hN]
 refine qap (r1 _ (hg' _)) ?_
 rintro r h' ⟨rfl,he⟩
 rw [he]
 simp -dsimp [go_sem,hN]
 refine qbs (qab _ _ _ ?_)
 simp -dsimp [go_sem,hN]
 refine qac hperm ?_
 simp -dsimp [go_sem,hN]
 refine qbs (qab _ _ _ ?_)
 simp -dsimp [go_sem,hN]
 refine qac (c_ref26_Feet l) ?_
 simp -dsimp [go_sem,hN]
 refine qac hdeps ?_
 simp -dsimp [go_sem,hN]
 refine qbs (awp_opsT [_,_,_] _ ?_)
 simp [go_sem,hN]
 intro c a w sm k
 refine wp_makeT sm k (el:=4) (x:=.tmp 41) (d1:=42) (n:=l.length) (sz:=1) (zr:=[Bo false]) rfl rfl (by omega) rfl (by simp [go_sem]) (by simp [go_sem]) (by simp [go_sem]) (by omega) (by simp [go_sem]) (by simp [go_sem]) (by simp [go_sem,nilz]) (by simp [go_sem]) (by simp [go_sem]) (by omega) fun c' a' w' s' k'=>?_
 refine qco _ [_,_,_,_] _ rfl ?_ c' a' w' s' k'
 simp [go_sem,hN]
 apply qab
 simp -dsimp [go_sem,hN]
 refine qa7 (α:=List Bool) O.length (fun n D=>D.length=l.length∧∀ q∈O.take n,D.getD q false=true) (fun n D=>⟨[(2,P0 h.length),(7,.slice (O.map nR)),(8,.slice (M.map lR)),(9,.own (h.length+1) l.length),(10,I n)],h++[.cells [.slice (procs.map Proc.c),.slice (s.map Pr.c),.slice (l.map Txn.c)],.uarr 4 1 (D.map bRow)]⟩) (List.replicate l.length false) ⟨by simp,by simp⟩ ?_ ?_
 · exact Wk.mk (by simp [hh]) (by simp [go_sem,nR,bRow]) (by simp [hu,qaa hu,go_sem]) (by simp [go_sem])
 rintro n D hn ⟨hD,hI⟩
 have hw:=qax hn (show _≤68719476736 by omega)
 simp -dsimp [go_sem,hN]
 refine cnd ?_ ?_<;>intro hc<;>simp at hc
 ·
  obtain ⟨j,hj⟩:∃ j,O[n]=j:=⟨_,rfl⟩
  have hjl:j<l.length:=by rw [← hj];exact hJ.lt _ (List.getElem_mem hc)
  have hjM:j<M.length:=by omega
  have hMj:=hMg j hjM
  have hml:=depM_len (feetL l) j j
  have hdep:=hJ.dep n hc
  rw [show O[n]=j from hj] at hdep
  simp -dsimp [go_sem,hN,hc,hj,nR]
  refine qah (M[j]).length (fun m=>True) (fun m=>⟨[(2,P0 h.length),(7,.slice (O.map nR)),(8,.slice (M.map lR)),(9,.own (h.length+1) l.length),(10,I n),(11,I m)],h++[.cells [.slice (procs.map Proc.c),.slice (s.map Pr.c),.slice (l.map Txn.c)],.uarr 4 1 (D.map bRow)]⟩) trivial ?_ ?_
  · exact Wk.mk (by simp [hh]) (by simp [go_sem,nR,bRow]) (by simp [hu,qaa hu,go_sem]) (by simp [go_sem])
  intro m hm _
  have hw3:=qax hm (show _≤68719476736 by rw [hMj];omega)
  simp -dsimp [go_sem,hN,hc,hj,hjM,nR,lR]
  refine cnd ?_ ?_<;>intro he<;>simp at he
  ·
   obtain ⟨q,hq⟩:∃ q,M[j][m]=q:=⟨_,rfl⟩
   have hqm:q∈depM (feetL l) j j:=by rw [← hMj,← hq];exact List.getElem_mem he
   have hqj:=depM_lt hqm
   rw [depM_eq (by omega)] at hqm
   have hqD:=hI q (hdep q hqm)
   have hql:q<D.length:=by omega
   have hqd:D[q]=true:=by
    rw [List.getD_eq_getElem?_getD,List.getElem?_eq_getElem hql] at hqD
    exact hqD
   have hql2:q<l.length:=by omega
   have hz:¬ j≤q:=by omega
   have hz2:¬ (q:Int)<0:=by omega
   simp -dsimp [go_sem,hN,hc,hj,hjM,nR,lR,he,hq]
   simp -dsimp [go_sem,hN,hc,hj,hjM,nR,lR,he,hq,hz,hz2,hD,hql,hql2,hqd,bRow,hw3]
   exact Wk.mk (by simp [hh]) (by simp [go_sem,nR,bRow]) (by simp [hu,qaa hu,go_sem]) (by simp [go_sem])
  ·
   simp -dsimp [go_sem,hN,hc,hj,nR,hjl,hD,bRow,hw]
   refine ⟨D.set j true,⟨by simp [hD],fun q hq=>?_⟩,Wk.mk (by simp [hh]) (by simp [go_sem,nR,bRow]) (by simp [hu,qaa hu,go_sem]) (by simp [go_sem])⟩
   rw [← List.getD_eq_getElem?_getD,getD_set _ _ _ _ _ (by omega)]
   split
   · rfl
   ·
    rename_i hne
    rw [List.take_succ_eq_append_getElem hc,hj] at hq
    rcases List.mem_append.1 hq with hq | hq
    · exact hI q hq
    · exact (hne (List.mem_singleton.1 hq).symm).elim
 ·
  simp -dsimp [go_sem,hN,hdl]
  refine qc1 (by simp) ((hwk0 _ (hg' _)).mono ?_)
  rintro r h' ⟨rfl,he⟩
  rw [he]
  simp -dsimp [go_sem,hN]
  exact ⟨_,.refl _,h,by simp [go_sem],by simp [go_sem],by simp,by simp [hu,go_sem],rfl,rfl⟩
end
end Go.Proofs.YtcjolkgjhcdhcaaGreatDoor

set_option maxRecDepth 4000
set_option maxHeartbeats 2000000
namespace Go.Proofs.YtcjolkgjhcdhcaaGreatDoor
open Go Go.Abs Go.Cw
def b26a:qag:=⟨#[97]⟩
def b26k:qag:=⟨#[107]⟩
def b26n:qag:=⟨#[110]⟩
def b26s:qag:=⟨#[115,116,111,114,101]⟩
def store26:Proc:=⟨b26s,[⟨b26k,2⟩,⟨b26n,1⟩],[.mk 3 em 0 (.mk 3 0 b26k []) (.mk 3 0 b26n []) [] []]⟩
def call26 (id n:Int):Txn:=⟨id,b26s,[⟨2,0,b26a⟩,⟨1,n,em⟩],⟨false,[],[b26a]⟩,1⟩
def f26w:Foot:=⟨false,[],[b26a]⟩
def f26r:Foot:=⟨false,[b26a],[]⟩
def f26t:Foot:=⟨true,[],[]⟩
theorem c_law26_store:APure Tryz.prog 29 [] (.agg store26.c):=by
 refine qad Tryz.func29 rfl (by kernel_rfl) (by simp [Tryz.ntmps29]) rfl ?_
 intro E h hN hh hu hb
 rw [Tryz.ntmps29] at hN
 refine qab _ _ _ ?_
 simp -dsimp [go_sem,hN]
 exact ⟨rfl,rfl,rfl⟩
theorem c_law26_call (id n:Int):APure Tryz.prog 30 [I id,I n] (.agg (call26 id n).c):=by
 refine qad Tryz.func30 rfl (by kernel_rfl) (by simp [Tryz.ntmps30]) rfl ?_
 intro E h hN hh hu hb
 rw [Tryz.ntmps30] at hN
 refine qab _ _ _ ?_
 simp -dsimp [go_sem,hN]
 rfl
def M26a:List (List Nat):=[[],[],[0,1]]
def M26b:List (List Nat):=[[],[0],[]]
theorem ex26a:qba [f26w,f26w,f26r] 3=M26a:=by kernel_rfl
theorem ex26b:qba [f26w,f26t,f26w] 3=M26b:=by kernel_rfl
def l26:List Txn:=[call26 1 5,call26 2 7]
def E26a:Eff:=⟨1,0,[],[],[b26a],[⟨b26a,⟨1,5,em⟩⟩],em,1⟩
def E26b:Eff:=⟨1,0,[],[],[b26a],[⟨b26a,⟨1,7,em⟩⟩],em,1⟩
def st26:List Pr:=[⟨b26a,⟨1,7,em⟩⟩]
theorem ex26m:mvN qb3 [store26] [] l26 [1,0] 2=([E26a,E26b],[true,true],[1,0]):=by kernel_rfl
theorem ex26v:visS [E26a,E26b] [true,true] [] 2=st26:=by kernel_rfl
theorem ex26e:earlyP [f26w,f26w] [1,0]=1:=by kernel_rfl
theorem ex26s:qcg eqP st26 st26=true:=by kernel_rfl
theorem batch26:BatchIn qb3 [store26] l26:=by
 refine ⟨plain_itoa,?_,?_⟩
 ·
  intro p hp t ht
  simp only [List.mem_singleton] at hp
  subst hp
  simp only [store26,List.mem_singleton] at ht
  subst ht
  have hz:i64 0:=⟨by decide,by decide⟩
  have hk:rngX (.mk 3 0 b26k []):=(rngX_iff _).2 ⟨⟨hz,by decide⟩,by simp [Ex.args]⟩
  have hn:rngX (.mk 3 0 b26n []):=(rngX_iff _).2 ⟨⟨hz,by decide⟩,by simp [Ex.args]⟩
  exact (rngS_iff _).2 ⟨hk,hn,by simp [St.body],by simp [St.els]⟩
 ·
  intro t ht v hv
  simp only [l26,List.mem_cons,List.not_mem_nil,or_false] at ht
  have h5:i64 5:=⟨by decide,by decide⟩
  have h7:i64 7:=⟨by decide,by decide⟩
  have h0:i64 0:=⟨by decide,by decide⟩
  rcases ht with rfl | rfl<;>simp only [call26,List.mem_cons,List.not_mem_nil,or_false] at hv<;>rcases hv with rfl | rfl
  · exact ⟨h0,by decide⟩
  · exact ⟨h5,by decide⟩
  · exact ⟨h0,by decide⟩
  · exact ⟨h7,by decide⟩
theorem c_intsR (l:List Nat):APure Tryz.prog 14 [.slice (l.map nR),.slice (l.map nR)] (Bo true):=by
 have:=c_ref23_Ints l l
 rwa [decide_eq_true rfl] at this
section
variable {tT:TypeId} {tx:Nat×Nat} {g:Nat}
theorem c_law26_works (h:qae) (hg:h[g]?=some (tabO tT tx)):ACalls Tryz.prog 11 [] h fun r h'=>r=.ret (Bo true)∧h'=h:=by
 refine qaf Tryz.func11 rfl (by kernel_rfl) (by simp [Tryz.ntmps11]) ?_
 intro E hN hh hu hb hb' hua
 rw [Tryz.ntmps11] at hN
 refine qab _ _ _ ?_
 have hgl:g<h.length:=(List.getElem?_eq_some_iff.1 hg).1
 have hg':∀ l:qae,(h++l)[g]?=some (tabO tT tx):=fun l=>by rw [List.getElem?_append_left hgl];exact hg
 have hround:=fun H hH=>c_mv_Round (g:=g) (tT:=tT) (tx:=tx) [store26] [] l26 [1,0] H hH batch26 (by intro q hq;cases hq) (by simp [l26])
 simp only [show l26.length=2 from rfl,ex26m,ex26v] at hround
 have d1:=c_mv_Deps [f26w,f26w,f26r]
 have d2:=c_mv_Deps [f26w,f26t,f26w]
 rw [show qba [f26w,f26w,f26r] [f26w,f26w,f26r].length=M26a from ex26a] at d1
 rw [show qba [f26w,f26t,f26w] [f26w,f26t,f26w].length=M26b from ex26b] at d2
 have e1:=c_mv_Early [f26w,f26w] [1,0] (by simp)
 rw [ex26e] at e1
 have hsm:=c_ref06_Same st26 st26
 rw [ex26s] at hsm
 simp -dsimp [go_sem,hN]
 refine qac d1 ?_
 simp -dsimp [go_sem,hN]
 refine qac d2 ?_
 simp -dsimp [go_sem,hN]
 refine qac c_law26_store ?_
 simp -dsimp [go_sem,hN]
 refine qac (c_law26_call 1 5) ?_
 simp -dsimp [go_sem,hN]
 refine qac (c_law26_call 2 7) ?_
 simp -dsimp [go_sem,hN,Txn.c,call26]
 refine qap (hround _ (hg' _)) ?_
 rintro r h' ⟨rfl,he⟩
 rw [he]
 simp -dsimp [go_sem,hN,M26a,M26b,lR]
 refine qan 56 mixed (by kernel_rfl) (by kernel_rfl) ?_
 simp -dsimp [go_sem,hN,M26a,M26b,lR,nR]
 refine qcr (c_intsR [0,1]) (by simp) ?_
 simp -dsimp [go_sem,hN,M26a,M26b,lR,nR]
 refine qcr (c_intsR [0]) (by simp) ?_
 simp -dsimp [go_sem,hN,M26a,M26b,lR,nR]
 refine qcr (c_intsR [1,0]) (by simp) ?_
 simp -dsimp [go_sem,hN]
 refine qcr hsm (by simp) ?_
 simp -dsimp [go_sem,hN,E26a,E26b,Eff.c]
 refine qai e1 (by simp) ?_
 simp -dsimp [go_sem,hN]
 exact ⟨_,.refl _,h,by simp [go_sem],by simp [go_sem],by simp,by simp [hu,go_sem],rfl,rfl⟩
end
end Go.Proofs.YtcjolkgjhcdhcaaGreatDoor
