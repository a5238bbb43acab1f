/- Part 40 of a proof: W61, W64, W32, W65 -/
import Derived.Shelf.Small.Strs
import Derived.Shelf.Strconv.Itoa4
import Derived.Lib.ItoaLen
import Derived.Test.YtdbpbpmikpdjcaaGreatDoorQ13
import Derived.Test.YtdbpbpmikpdjcaaGreatDoorQ14
import Derived.Test.YtdbpbpmikpdjcaaGreatDoorQ15
import Derived.Test.YtdbpbpmikpdjcaaGreatDoorQ17
import Derived.Test.YtdbpbpmikpdjcaaGreatDoorQ19
import Derived.Test.YtdbpbpmikpdjcaaGreatDoorQ20
import Derived.Test.YtdbpbpmikpdjcaaGreatDoorQ21
import Derived.Test.YtdbpbpmikpdjcaaGreatDoorQ23
import Derived.Test.YtdbpbpmikpdjcaaGreatDoorQ24
import Derived.Test.YtdbpbpmikpdjcaaGreatDoorQ25
import Derived.Test.YtdbpbpmikpdjcaaGreatDoorQ30
import Derived.Test.YtdbpbpmikpdjcaaGreatDoorQ31
import Derived.Test.YtdbpbpmikpdjcaaGreatDoorQ33
import Derived.Test.YtdbpbpmikpdjcaaGreatDoorQ38
import Derived.Test.YtdbpbpmikpdjcaaGreatDoorQ39
set_option linter.all false

set_option maxRecDepth 4000
set_option maxHeartbeats 2000000
namespace Go.Proofs.YtdbpbpmikpdjcaaGreatDoor
open Go Go.Abs Go.Cw
theorem c_Clone_V (l:List V):APure Tryz.prog 53 [.slice (l.map V.c)] (.slice (l.map V.c)):=by
 refine qb3 Tryz.func53 rfl (by kernel_rfl) (by simp [Tryz.ntmps53]) rfl ?_
 intro E h hN hh hu hb
 rw [Tryz.ntmps53] at hN
 simp [go_sem] at hb
 refine qa0 (qd3 ?_)
 simp [go_sem,hN]
 refine qa0 (qa0 (qbv [_] _ ?_))
 simp [go_sem,hN]
 intro c a w s k
 refine wp_eqnil s (el:=77) (sz:=3) (x:=.tmp 3) (rows:=l.map V.c) (d1:=4) rfl rfl (by omega) rfl (by simp [go_sem]) (by simp [go_sem]) (by simp [go_sem]) fun b a' hbn s'=>?_
 refine qa1 _ [_,_] _ rfl ?_ c a' w s' k
 simp [go_sem,hN]
 cases b with
 | true =>
  have hl:l=[]:=by simpa using hbn rfl
  subst hl
  apply qao
  simp -dsimp [go_sem,hN]
 | false =>
  refine qel (x:=.tmp 4) (b:=false) (by simp [go_sem]) (fun h=>by cases h) (fun _=>awp_skip ?_)
  simp only [qdd]
  refine qa0 (qbv [] _ ?_)
  simp [go_sem,hN]
  intro c a w s k
  refine wp_lit0 s k (el:=77) (sz:=3) (d1:=5) rfl rfl (by omega) rfl (by simp [go_sem]) (by simp [go_sem]) (by simp [go_sem]) (by omega) fun c' a' w' s' k'=>?_
  refine qa1 _ [_] _ rfl ?_ c' a' w' s' k'
  simp [go_sem,hN]
  refine ⟨hb.1,?_⟩
  apply qao
  simp -dsimp [go_sem,hN]
theorem c_Clone_S (l:List qad):APure Tryz.prog 134 [.slice (l.map qbg)] (.slice (l.map qbg)):=by
 refine qb3 Tryz.func134 rfl (by kernel_rfl) (by simp [Tryz.ntmps134]) rfl ?_
 intro E h hN hh hu hb
 rw [Tryz.ntmps134] at hN
 simp [go_sem] at hb
 refine qa0 (qd3 ?_)
 simp [go_sem,hN]
 refine qa0 (qa0 (qbv [_] _ ?_))
 simp [go_sem,hN]
 intro c a w s k
 refine wp_eqnil s (el:=9) (sz:=1) (x:=.tmp 3) (rows:=l.map qbg) (d1:=4) rfl rfl (by omega) rfl (by simp [go_sem]) (by simp [go_sem]) (by simp [go_sem]) fun b a' hbn s'=>?_
 refine qa1 _ [_,_] _ rfl ?_ c a' w s' k
 simp [go_sem,hN]
 cases b with
 | true =>
  have hl:l=[]:=by simpa using hbn rfl
  subst hl
  apply qao
  simp -dsimp [go_sem,hN]
 | false =>
  refine qel (x:=.tmp 4) (b:=false) (by simp [go_sem]) (fun h=>by cases h) (fun _=>awp_skip ?_)
  simp only [qdd]
  refine qa0 (qbv [] _ ?_)
  simp [go_sem,hN]
  intro c a w s k
  refine wp_lit0 s k (el:=9) (sz:=1) (d1:=5) rfl rfl (by omega) rfl (by simp [go_sem]) (by simp [go_sem]) (by simp [go_sem]) (by omega) fun c' a' w' s' k'=>?_
  refine qa1 _ [_] _ rfl ?_ c' a' w' s' k'
  simp [go_sem,hN]
  refine ⟨hb.1,?_⟩
  apply qao
  simp -dsimp [go_sem,hN]
theorem c_fp_Of (e:Eff):APure Tryz.prog 101 [.agg e.c] (.agg (ftOf e).c):=by
 refine qaj Tryz.func101 Tryz.ntmps101 rfl (by kernel_rfl) rfl rfl fun E h hN hh hu hb=>?_
 simp -dsimp [go_sem,hN,Eff.c]
 refine qag 5 mixed (by kernel_rfl) (by kernel_rfl) ?_
 simp -dsimp [go_sem,hN,Eff.c]
 refine qay (c_Clone_S e.reads) (by simp) ?_
 simp -dsimp [go_sem,hN]
 refine qaa (c_Clone_S e.puts) ?_
 simp -dsimp [go_sem,hN,Foot.c]
theorem c_predict_fits (p:Proc) (args:List V):APure Tryz.prog 100 [.agg p.c,.slice (args.map V.c)] (Bo (decide (qbj p=0)&&decide (qcf p args=0))):=by
 refine qaj Tryz.func100 Tryz.ntmps100 rfl (by kernel_rfl) rfl rfl fun E h hN hh hu hb=>?_
 simp -dsimp [go_sem,hN]
 refine qaa (c_cost_Check p) ?_
 simp -dsimp [go_sem,hN]
 refine qae (c_types_Args p args) (by simp) ?_
 simp -dsimp [go_sem,hN]
variable {tT:TypeId} {tx:Nat×Nat} {g:Nat}
theorem c_predict_Recon (p:Proc) (args:List V) (st:List Pr) (h:qac) (hg:h[g]?=some (tabO tT tx)) (hI:RunIn qba p args st) :
  ACalls Tryz.prog 56 [.agg p.c,.slice (args.map V.c),.slice (st.map Pr.c)] h fun r h'=>r=.ret (.tuple [.agg (reconS qba p args st).1.c,I (reconS qba p args st).2])∧h'=h:=by
 refine qas Tryz.func56 Tryz.ntmps56 rfl (by kernel_rfl) rfl fun E hN hh hu hb hb' hua=>?_
 have hgl:g<h.length:=(List.getElem?_eq_some_iff.1 hg).1
 have hg':∀ l:qac,(h++l)[g]?=some (tabO tT tx):=fun l=>by rw [List.getElem?_append_left hgl];exact hg
 have hfree:=fun H hH=>c_interp_Free (g:=g) (tT:=tT) (tx:=tx) p args st H hH hI
 obtain ⟨X,hX⟩:∃ X,runS qba p args st ⟨true,[],[]⟩=X:=⟨_,rfl⟩
 have hR:reconS qba p args st=if qbj p≠0∨qcf p args≠0∨qbq st=false then (⟨false,[],[]⟩,1) else (ftOf X,0):=by rw [← hX];rfl
 simp only [hX] at hfree
 obtain ⟨R,hR2⟩:∃ R,reconS qba p args st=R:=⟨_,rfl⟩
 rw [hR2] at hR ⊢
 simp -dsimp [go_sem,hN]
 refine qaa (c_predict_fits p args) ?_
 simp -dsimp [go_sem,hN]
 refine qae (c_state_Valid st) (by simp) ?_
 simp -dsimp [go_sem,hN]
 refine cnd ?_ ?_<;>intro h0<;>simp at h0
 ·
  rw [if_pos (by grind)] at hR
  subst hR
  simp -dsimp [go_sem,hN,Foot.c]
  exact ⟨_,.refl _,h,by simp [go_sem],hwk.app0 _,Nat.le_refl _,hu,rfl,rfl⟩
 ·
  rw [if_neg (by grind)] at hR
  subst hR
  simp -dsimp [go_sem,hN]
  refine qam (hfree _ (hg' _)) ?_
  rintro r h' ⟨rfl,rfl⟩
  simp -dsimp [go_sem,hN]
  refine qaa (c_fp_Of X) ?_
  simp -dsimp [go_sem,hN,Foot.c]
  exact ⟨_,.refl _,h,by simp [go_sem],hwk.app0 _,Nat.le_refl _,hu,rfl,rfl⟩
theorem c_serial_Retry1 (x:Proc) (h:qac) (i:Nat) (t:Txn) (hi:h[i]?=some (.cells t.c)):ACalls Tryz.prog 55 [.agg x.c,.ptr i 0] h fun r h'=>r=.ret (Bo (decide (x.name=t.proc)))∧h'=h:=by
 refine qas Tryz.func55 Tryz.ntmps55 rfl (by kernel_rfl) rfl fun E hN hh hu hb hb' hua=>?_
 have hi':i<h.length:=(List.getElem?_eq_some_iff.1 hi).1
 have a1:∀ l,(h++l)[i]?=some (.cells t.c):=fun l=>by rw [List.getElem?_append_left hi'];exact hi
 simp -dsimp [go_sem,hN,a1,hu,Txn.c]
 exact ⟨_,.refl _,h,by simp [go_sem],by simp [go_sem],by simp,by simp [hu,go_sem],rfl,rfl⟩
theorem c_serial_Retry (procs:List Proc) (s:List Pr) (t:Txn) (h:qac) (hg:h[g]?=some (tabO tT tx)) (hI:∀ p∈procs,RunIn qba p t.args s) :
  ACalls Tryz.prog 24 [.slice (procs.map Proc.c),.slice (s.map Pr.c),.agg t.c] h fun r h'=>r=.ret (.agg (qdb qba procs s t).c)∧h'=h:=by
 refine qas Tryz.func24 Tryz.ntmps24 rfl (by kernel_rfl) rfl fun E hN hh hu hb hb' hua=>?_
 have hgl:g<h.length:=(List.getElem?_eq_some_iff.1 hg).1
 have hg':∀ l:qac,(h++l)[g]?=some (tabO tT tx):=fun l=>by rw [List.getElem?_append_left hgl];exact hg
 simp [go_sem] at hb
 obtain ⟨R,hR⟩:∃ R,qdb qba procs s t=R:=⟨_,rfl⟩
 rw [hR]
 unfold qdb at hR
 simp -dsimp [go_sem,hN,Txn.c]
 refine qag 10 mixed (by kernel_rfl) (by kernel_rfl) ?_
 simp -dsimp [go_sem,hN,Txn.c]
 refine qay (c_Clone_V t.args) (by simp) ?_
 simp -dsimp [go_sem,hN]
 refine cnd ?_ ?_<;>intro h0<;>simp at h0
 ·
  rw [if_pos h0] at hR
  subst hR
  simp -dsimp [go_sem,hN,Txn.c]
  exact ⟨_,.refl _,h,by simp [go_sem],hwk.app0 _,Nat.le_refl _,hu,rfl,rfl⟩
 rw [if_neg (by omega)] at hR
 simp -dsimp [go_sem,hN]
 refine qam (c_IndexFunc_Proc procs _ _ (fun x=>decide (x.name=t.proc)) _ (by simp [qbf,AV.norm]) (fun x=>c_serial_Retry1 x _ _ t (by simp [Txn.c]))) ?_
 rintro r h' ⟨rfl,rfl⟩
 rcases idxOf_find (fun x:Proc=>decide (x.name=t.proc)) procs with ⟨h1,h2⟩ | ⟨m,hm,h1,h2⟩
 ·
  rw [show findN procs t.proc=none from h2] at hR
  simp only at hR
  subst hR
  rw [h1]
  simp -dsimp [go_sem,hN,Txn.c]
  exact ⟨_,.refl _,h,by simp [go_sem],hwk.app0 _,Nat.le_refl _,hu,rfl,rfl⟩
 ·
  rw [show findN procs t.proc=some procs[m] from h2] at hR
  simp only at hR
  have hrec:=fun H hH=>c_predict_Recon (g:=g) (tT:=tT) (tx:=tx) procs[m] t.args s H hH (hI _ (List.getElem_mem hm))
  obtain ⟨X,hX⟩:∃ X,reconS qba procs[m] t.args s=X:=⟨_,rfl⟩
  rw [hX] at hR
  simp only [hX] at hrec
  rw [h1]
  simp -dsimp [go_sem,hN,hm]
  refine cnd (fun hx=>absurd (of_decide_eq_true hx) (by omega)) (fun _=>?_)
  simp -dsimp [go_sem,hN]
  refine qa7 13 mixed (by kernel_rfl) ?_
  simp -dsimp [go_sem,hN,hm,Txn.c]
  refine tdcall_at (fun _=>at_tab (fun h hg=>hrec h hg) (hg' _)) (by simp) ?_
  simp -dsimp [go_sem,hN]
  refine ⟨by simp [sepD,List.zipIdx],?_⟩
  refine cnd ?_ ?_<;>intro h3<;>simp at h3
  ·
   rw [if_pos (by omega)] at hR
   subst hR
   simp -dsimp [go_sem,hN,Txn.c,Foot.c]
   exact ⟨_,.refl _,h,by simp [go_sem],hwk.app0 _,Nat.le_refl _,hu,rfl,rfl⟩
  ·
   rw [if_neg (by omega)] at hR
   subst hR
   simp -dsimp [go_sem,hN,Txn.c,Foot.c]
   exact ⟨_,.refl _,h,by simp [go_sem],hwk.app0 _,Nat.le_refl _,hu,rfl,rfl⟩
end Go.Proofs.YtdbpbpmikpdjcaaGreatDoor

set_option maxRecDepth 4000
set_option maxHeartbeats 2000000
namespace Go.Proofs.YtdbpbpmikpdjcaaGreatDoor
open Go Go.Abs Go.Cw
def nRow (k:Nat):List AV:=[I (k:Int)]
def atN (L n:Nat):List (List AV):=(List.range n++List.replicate (L - n) 0).map nRow
theorem atN_len {L n:Nat} (h:n≤L):(atN L n).length=L:=by simp [atN];omega
theorem atN_0 (L:Nat):atN L 0=List.replicate L [I 0]:=by simp [atN,nRow]
theorem atN_end (L:Nat):atN L L=(List.range L).map nRow:=by simp [atN]
theorem atN_set {L n:Nat} (h:n<L):(atN L n).set n [I (n:Int)]=atN L (n+1):=by
 unfold atN
 obtain ⟨k,hk⟩:∃ k,L - n=k+1:=⟨L - n - 1,by omega⟩
 rw [show [I (n:Int)]=nRow n from rfl,← List.map_set,hk,show L - (n+1)=k by omega,List.range_succ,List.replicate_succ]
 simp [List.set_append]
theorem atN_get {L n:Nat} (h:n<L) (h':n<(atN L n).length):(atN L n)[n]=[I 0]:=by
 unfold atN
 obtain ⟨k,hk⟩:∃ k,L - n=k+1:=⟨L - n - 1,by omega⟩
 simp [hk,List.replicate_succ,nRow]
theorem map_set {α β:Type} (f:α→β) (l:List α) (i:Nat) (x:α):(l.map f).set i (f x)=(l.set i x).map f:=by rw [List.map_set]
variable {tT:TypeId} {tx:Nat×Nat} {g:Nat}
theorem c_serial_Batch0 (procs:List Proc) (s:List Pr) (l:List Txn) (h:qac) (hg:h[g]?=some (tabO tT tx)) (hB:BatchIn qba procs l) (hs:rngL s) (hL:s.length+192 * l.length≤60000000000) :
  ACalls Tryz.prog 27 [.slice (procs.map Proc.c),.slice (s.map Pr.c),.slice (l.map Txn.c)] h fun r h'=>r=.ret (.tuple [.slice ((batchS qba procs s l).1.map Pr.c),.own (h.length+2) l.length])∧h'=h++[.none,.none,.uarr 61 5 ((batchS qba procs s l).2.map Res.c)]:=by
 refine qem Tryz.func27 rfl (by kernel_rfl) (by simp [Tryz.ntmps27]) ?_
 intro E hN hh hu hb hb' hua
 rw [Tryz.ntmps27] at hN
 have hgl:g<h.length:=(List.getElem?_eq_some_iff.1 hg).1
 have hg':∀ l:qac,(h++l)[g]?=some (tabO tT tx):=fun l=>by rw [List.getElem?_append_left hgl];exact hg
 simp [go_sem] at hb
 refine qa0 (qd3 ?_)
 simp [go_sem,hN]
 refine qa0 (qao _ _ _ ?_)
 simp -dsimp [go_sem,hN]
 refine qam (c_serial_with procs h) ?_
 rintro r h' ⟨rfl,he⟩
 rw [he]
 simp -dsimp [go_sem,hN]
 refine qa0 (qbv [_,_] _ ?_)
 simp [go_sem,hN]
 intro c a w sm k
 refine wp_makeT sm k (el:=61) (x:=.tmp 21) (d1:=22) (n:=l.length) (sz:=5) (zr:=[I 0,I 0,I 0,I 0,.slice []]) rfl rfl (by omega) rfl (by simp [go_sem]) (by simp [go_sem]) (by simp [go_sem]) (by omega) (by simp [go_sem]) (by simp [go_sem]) (by simp [go_sem,nilz]) (by simp [go_sem]) (by simp [go_sem]) (by omega) fun c' a' w' s' k'=>?_
 refine qa1 _ [_,_,_] _ rfl ?_ c' a' w' s' k'
 simp [go_sem,hN]
 refine qa0 (qbv [_,_] _ ?_)
 simp [go_sem,hN]
 intro c a w sm k
 refine wp_makeT sm k (el:=3) (x:=.tmp 24) (d1:=25) (n:=l.length) (sz:=1) (zr:=[I 0]) rfl rfl (by omega) rfl (by simp [go_sem]) (by simp [go_sem]) (by simp [go_sem]) (by omega) (by simp [go_sem]) (by simp [go_sem]) (by simp [go_sem,nilz]) (by simp [go_sem]) (by simp [go_sem]) (by omega) fun c' a' w' s' k'=>?_
 refine qa1 _ [_,_,_] _ rfl ?_ c' a' w' s' k'
 simp [go_sem,hN]
 apply qao
 simp -dsimp [go_sem,hN]
 refine qah l.length (fun n=>True) (fun n=>⟨[(0,.slice (procs.map Proc.c)),(1,.slice (s.map Pr.c)),(2,.slice (l.map Txn.c)),(8,P0 (h.length+1)),(9,.own (h.length+2) l.length),(10,.own (h.length+3) l.length),(27,I l.length),(28,I n)],h++[.cells [.slice (procs.map Proc.c)],.cells [.fn (.func 105) [] [.ptr h.length 0]],.uarr 61 5 ((List.replicate l.length Res.z).map Res.c),.uarr 3 1 (atN l.length n)]⟩) trivial ?_ ?_
 ·
  rw [atN_0,List.map_replicate]
  exact (Wk.mk (by simp [hh]) (by simp [go_sem,Res.z,Res.c]) (by simp [hu,qab hu,go_sem]) (by simp [go_sem]))
 ·
  intro n hn _
  have hw:=qax hn (show _≤68719476736 by omega)
  have hal:=atN_len hn
  simp -dsimp [go_sem,hN]
  refine cnd ?_ ?_<;>intro hc<;>simp at hc
  ·
   have hset:=atN_set hc
   have hat:=fun h'=>atN_get hc h'
   simp -dsimp [go_sem,hN,hc,hal,hat,hset,hw]
   exact (Wk.mk (by simp [hh]) (by simp [go_sem]) (by simp [hu,qab hu,go_sem]) (by simp [go_sem]))
  ·
   have hn2:n=l.length:=by omega
   subst hn2
   rw [atN_end]
   simp -dsimp [go_sem,hN]
   refine awp_loopM (α:=BSt) (fun x=>BOk qba procs s l x) (fun x=>⟨[(0,.slice (procs.map Proc.c)),(1,.slice (x.s.map Pr.c)),(8,P0 (h.length+1)),(9,.own (h.length+2) l.length),(10,.slice (x.is.map nRow)),(12,.slice (x.l.map Txn.c))],h++[.cells [.slice (procs.map Proc.c)],.cells [.fn (.func 105) [] [.ptr h.length 0]],.uarr 61 5 (x.out.map Res.c)]⟩) (fun x=>x.k) (b0 s l) (b0_ok hB hs hL) ?_ ?_
   ·
    refine (qc6 E _ (i:=h.length+3) (t:=3) (sz:=1) (rows:=(List.range l.length).map nRow) (by simp)).trans ?_
    simp
    refine (norm_wk E _).trans ?_
    exact Wk.mk (by simp [hh]) (by simp [go_sem,b0]) (by simp [hu,qab hu,go_sem]) (by simp [go_sem,AV.norm,qbf,wkT,b0])
   intro x hx
   have hxl:x.l.length≤68719476736:=by have:=hx.ll;omega
   simp -dsimp [go_sem,hN]
   refine cnd ?_ ?_<;>intro hc<;>simp at hc
   ·
    have hne:x.l≠[]:=fun e=>by rw [e] at hc;simp at hc
    obtain ⟨hnx,hlt⟩:=bNext_ok hx hne
    have hsl:=hx.sl
    have hll:=hx.ll
    have hk1:0<x.k:=by omega
    have hmul:l.length≤l.length * x.k:=Nat.le_mul_of_pos_right _ hk1
    have hround:=fun H h1 h2=>c_engine_round (g:=g) (tT:=tT) (tx:=tx) procs x.s x.l H h.length h1 h2 hx.inn hx.rng (by omega)
    have hcnt:=round_cnt (fmt:=qba) procs x.s x.l
    have hrr:=(qdf (fmt:=qba) (procs:=procs) (l:=x.l) hx.rng hx.inn x.l.length (Nat.le_refl _)).1
    rw [List.take_length] at hrr
    unfold bNext at hnx hlt
    obtain ⟨R,hR⟩:∃ R,qbb qba procs x.s x.l=R:=⟨_,rfl⟩
    rw [hR] at hcnt hrr
    simp only [hR] at hround hnx hlt
    simp -dsimp [go_sem,hN]
    refine qam (hround _ (by simp) (hg' _)) ?_
    rintro r h' ⟨rfl,rfl⟩
    simp -dsimp [go_sem,hN]
    obtain ⟨Y,hY⟩:∃ Y,qcm qba procs R.1 x.l R.2 x.is (x.out,[],[])=Y:=⟨_,rfl⟩
    rw [hY] at hnx
    refine qar (α:=List Res×List Txn×List Nat) x.l.length (fun n y=>qcm qba procs R.1 (x.l.drop n) (R.2.drop n) (x.is.drop n) y=Y∧y.1.length=l.length∧y.2.1.length≤n∧y.2.2.length=y.2.1.length) (fun n y=>⟨[(0,.slice (procs.map Proc.c)),(1,.slice (R.1.map Pr.c)),(8,P0 (h.length+1)),(9,.own (h.length+2) l.length),(10,.slice (x.is.map nRow)),(13,.slice (R.2.map Eff.c)),(14,.own (h.length+3) y.2.1.length),(15,.own (h.length+4) y.2.2.length),(47,.slice (x.l.map Txn.c)),(48,I x.l.length),(49,I n)],h++[.cells [.slice (procs.map Proc.c)],.cells [.fn (.func 105) [] [.ptr h.length 0]],.uarr 61 5 (y.1.map Res.c),.arr 41 7 (y.2.1.map Txn.c),.arr 3 1 (y.2.2.map nRow)]⟩) (x.out,[],[]) ⟨by simpa using hY,hx.ol,by simp,rfl⟩ ((nil_wk E _ 14 41 7 (by simp [go_sem])).trans ((nil_wk E _ 15 3 1 (by simp [go_sem])).trans ?_)) ?_
    · exact (Wk.mk (by simp [hh]) (by simp [go_sem]) (by simp [hu,qab hu,go_sem]) (by simp [go_sem]))
    rintro n ⟨out,nx,lf⟩ hn ⟨hI,ho,hnl,hlf⟩
    have hw2:=qax hn (show _≤68719476736 by omega)
    dsimp only at ho hnl hlf ⊢
    simp -dsimp [go_sem,hN]
    refine cnd ?_ ?_<;>intro hd<;>simp at hd
    ·
     have hd2:n<R.2.length:=by omega
     have hd3:n<x.is.length:=by rw [hx.len];exact hd
     have hil:x.is[n]<l.length:=hx.lt _ (List.getElem_mem hd3)
     have hil2:x.is[n]<out.length:=by omega
     rw [qaf hd,qaf hd2,qaf hd3,qcm] at hI
     have hres:(out.map Res.c).set x.is[n] [I x.l[n].id,I x.l[n].att,I R.2[n].status,I R.2[n].code,.slice (R.2[n].out.map V.c)]=(out.set x.is[n] (resOf x.l[n] R.2[n])).map Res.c:=map_set Res.c out _ (resOf x.l[n] R.2[n])
     have hretry:=fun H hH=>c_serial_Retry (g:=g) (tT:=tT) (tx:=tx) procs R.1 x.l[n] H hH (fun p hp=>⟨hx.inn.fmt,hx.inn.body p hp,hx.inn.args _ (List.getElem_mem hd),hrr⟩)
     obtain ⟨t2,ht2⟩:∃ t2,qdb qba procs R.1 x.l[n]=t2:=⟨_,rfl⟩
     rw [ht2] at hI
     simp only [ht2] at hretry
     simp -dsimp [go_sem,hN,hd,Txn.c]
     refine qag 15 mixed (by kernel_rfl) (by kernel_rfl) ?_
     simp -dsimp [go_sem,hN,hd,hd2,hd3,hil,hil2,ho,Txn.c,Eff.c,nRow,hres]
     refine cnd ?_ ?_<;>intro h1<;>simp at h1
     ·
      rw [if_pos h1] at hI
      simp -dsimp [go_sem,hN,Txn.c]
      refine qam (hretry _ (hg' _)) ?_
      rintro r h' ⟨rfl,rfl⟩
      simp -dsimp [go_sem,hN,hd3,hw2,Txn.c,nRow]
      exact ⟨by omega,by omega,hd,out.set x.is[n] (resOf x.l[n] R.2[n]),nx++[t2],lf++[x.is[n]],⟨hI,by simpa using ho,by simp;omega,by simp [hlf]⟩,(Wk.mk (by simp [hh]) (by simp [go_sem,Res.c,resOf,Txn.c,nRow]) (by simp [hu,qab hu,go_sem]) (by simp [go_sem]))⟩
     ·
      rw [if_neg h1] at hI
      simp -dsimp [go_sem,hN,hw2]
      exact ⟨hd,out.set x.is[n] (resOf x.l[n] R.2[n]),nx,lf,⟨hI,by simpa using ho,by omega,hlf⟩,(Wk.mk (by simp [hh]) (by simp [go_sem,Res.c,resOf,Txn.c,nRow]) (by simp [hu,qab hu,go_sem]) (by simp [go_sem]))⟩
    ·
     have hn2:n=x.l.length:=by omega
     subst hn2
     rw [List.drop_length,qcm] at hI
     ·
      subst hI
      simp -dsimp [go_sem,hN]
      refine ⟨_,hnx,hlt,(norm_wk E _).trans (Wk.mk (by simp [hh]) (by simp [go_sem]) (by simp [hu,qab hu,go_sem]) (by simp [go_sem,AV.norm,qbf,wkT]))⟩
     · simp
   ·
    have hl0:x.l=[]:=hc
    have hfin:=hx.eq
    rw [hl0,batch_done] at hfin
    rw [← hfin]
    simp -dsimp [go_sem,hN]
    refine qaa (c_Clone_P x.s) ?_
    simp -dsimp [go_sem,hN]
    exact ⟨_,.refl _,h++[.none,.none,.uarr 61 5 (x.out.map Res.c)],by simp [go_sem],by simp [go_sem],by simp,by simp [qab hu,go_sem],rfl,rfl⟩
theorem c_serial_Batch (procs:List Proc) (s:List Pr) (l:List Txn) (h:qac) (hg:h[g]?=some (tabO tT tx)) (hB:BatchIn qba procs l) (hs:rngL s) (hL:s.length+192 * l.length≤60000000000) :
  ACalls Tryz.prog 27 [.slice (procs.map Proc.c),.slice (s.map Pr.c),.slice (l.map Txn.c)] h fun r h'=>r=.ret (.tuple [.slice ((batchS qba procs s l).1.map Pr.c),.slice ((batchS qba procs s l).2.map Res.c)])∧h'=h:=by
 have hlen:=(batch_ends (fmt:=qba) (procs:=procs) (s:=s) l).1
 have core:=c_serial_Batch0 (g:=g) (tT:=tT) (tx:=tx) procs s l h hg hB hs hL
 refine ⟨core.1,fun cx wx vx hsx hax=>?_⟩
 have hu:=hsx.hUnder
 refine (acalls_ret (fun E hE=>?_) core).2 cx wx vx hsx hax
 refine (qc6 E _ (i:=h.length+2) (t:=61) (sz:=5) (rows:=(batchS qba procs s l).2.map Res.c) (by simp)).trans ?_
 simp
 refine (norm_wk E _).trans ?_
 exact Wk.mk (by simp [hE]) (by simpa [go_sem] using hwk.app0 _) (by simpa using hu) (by simp [go_sem,AV.norm,qbf,wkT,hlen])
end Go.Proofs.YtdbpbpmikpdjcaaGreatDoor

set_option maxRecDepth 8000
set_option maxHeartbeats 2000000
namespace Go.Proofs.YtdbpbpmikpdjcaaGreatDoor
open Go Go.Abs Go.Cw
theorem sameL_refl {α:Type} {f:α→α→Bool} (hf:∀ x,f x x=true):∀ l,qcn f l l=true
 | []=>rfl
 | x::l=>by simp [qcn,hf,sameL_refl hf l]
theorem sameE_refl (e:Eff):sameE e e=true:=by
 simp [sameE,sameL_refl (f:=eqVal) (fun x=>by simp [eqVal]),sameL_refl (f:=eqB) (fun x=>by simp [eqB]),sameL_refl (f:=eqP) (fun x=>by simp [eqP,eqVal])]
variable {tT:TypeId} {tx:Nat×Nat} {g:Nat}
end Go.Proofs.YtdbpbpmikpdjcaaGreatDoor

set_option maxRecDepth 8000
set_option maxHeartbeats 2000000
namespace Go.Proofs.YtdbpbpmikpdjcaaGreatDoor
open Go Go.Abs Go.Cw
theorem sameL_lenS {α:Type} {f:α→α→Bool}:∀ (a b:List α),qcn f a b=true→a.length=b.length
 | [],[],_=>rfl
 | x::a,y::b,h=>by
  rw [qcn,Bool.and_eq_true] at h
  simp [sameL_lenS a b h.2]
 | [],_::_,h=>by simp [qcn] at h
 | _::_,[],h=>by simp [qcn] at h
theorem c_law21_Effects (a b:List Eff):APure Tryz.prog 33 [.slice (a.map Eff.c),.slice (b.map Eff.c)] (Bo (qcn sameE a b)):=by
 refine qaj Tryz.func33 Tryz.ntmps33 rfl (by kernel_rfl) rfl rfl fun E h hN hh hu hb=>?_
 simp [go_sem] at hb
 simp -dsimp [go_sem,hN]
 refine cnd ?_ ?_<;>intro h0<;>simp at h0
 ·
  have h1:qcn sameE a b=false:=by
   rcases Bool.eq_false_or_eq_true (qcn sameE a b) with g | g
   · exact (h0 (by exact_mod_cast sameL_lenS a b g)).elim
   · exact g
  simp -dsimp [go_sem,hN,h1]
 have h0:a.length=b.length:=by omega
 simp -dsimp [go_sem,hN]
 refine qah a.length (fun n=>qcn sameE (a.drop n) (b.drop n)=qcn sameE a b) (fun n=>⟨[(0,.slice (a.map Eff.c)),(1,.slice (b.map Eff.c)),(5,I n)],h⟩) (by simp) (Wk.mk (by simp [hh]) (by simp [go_sem]) (by simp [hu,qab hu,go_sem]) (by simp [go_sem])) ?_
 intro n hn hI
 have hw:=qax hn (show _≤68719476736 by omega)
 simp -dsimp [go_sem,hN]
 refine cnd ?_ ?_<;>intro hc<;>simp at hc
 ·
  have hc2:n<b.length:=by omega
  rw [qaf hc,qaf hc2,qcn] at hI
  simp -dsimp [go_sem,hN,hc,hc2]
  refine qag 8 mixed (by kernel_rfl) (by kernel_rfl) ?_
  simp -dsimp [go_sem,hN,hc,hc2,Eff.c]
  refine qaa (c_ref15_Same a[n] b[n]) ?_
  simp -dsimp [go_sem,hN]
  refine cnd ?_ ?_<;>intro h1<;>simp at h1
  ·
   rw [h1] at hI
   simp -dsimp [go_sem,hN,← hI]
  ·
   rw [h1] at hI
   simp -dsimp [go_sem,hN,hw]
   exact ⟨hc,by simpa using hI,(Wk.mk (by simp [hh]) (by simp [go_sem]) (by simp [hu,qab hu,go_sem]) (by simp [go_sem]))⟩
 ·
  rw [List.drop_eq_nil_of_le (show a.length≤n by omega),List.drop_eq_nil_of_le (show b.length≤n by omega),qcn] at hI
  simp -dsimp [go_sem,hN,← hI]
theorem c_same_reflS (l:List Pr):APure Tryz.prog 15 [.slice (l.map Pr.c),.slice (l.map Pr.c)] (Bo true):=by
 have:=c_ref06_Same l l
 rwa [sameL_refl (f:=eqP) (fun x=>by simp [eqP,eqVal])] at this
theorem c_effs_reflS (l:List Eff):APure Tryz.prog 33 [.slice (l.map Eff.c),.slice (l.map Eff.c)] (Bo true):=by
 have:=c_law21_Effects l l
 rwa [sameL_refl (f:=sameE) sameE_refl] at this
theorem c_law21_add:APure Tryz.prog 52 [] (.agg addP.c):=by
 refine qaj Tryz.func52 Tryz.ntmps52 rfl (by kernel_rfl) rfl rfl fun E h hN hh hu hb=>?_
 simp -dsimp [go_sem,hN]
 exact ⟨rfl,rfl,rfl⟩
def t21:Txn:=⟨1,⟨#[97,100,100]⟩,exArgs,⟨false,[],[]⟩,1⟩
def t21b:Txn:=⟨1,⟨#[97,100,100]⟩,exArgs,⟨false,[bx],[bx]⟩,1⟩
def st7:List Pr:=[⟨bx,vI 7⟩]
def r21:List Res:=[⟨1,2,1,0,[]⟩]
theorem exS1:(oneS qba [addP] exSt t21).2.status=3:=by kernel_rfl
theorem exS1m:(oneS qba [addP] exSt t21).2.miss=bx:=by kernel_rfl
theorem exS2:batchS qba [addP] exSt [t21]=(st7,r21):=by kernel_rfl
theorem exS3:(oneS qba [addP] exSt t21b).2.status=1:=by kernel_rfl
theorem exS3s:(oneS qba [addP] exSt t21b).1=st7:=by kernel_rfl
theorem rng_ex:rngL exSt:=by
 intro q hq
 rw [List.mem_singleton.1 hq]
 exact ⟨⟨by simp [vI],by simp [vI]⟩,by simp [vI,em]⟩
theorem batch21:BatchIn qba [addP] [t21,t21b]:=by
 refine ⟨plain_itoa,?_,?_⟩
 ·
  intro p hp t ht
  simp only [List.mem_singleton] at hp
  subst hp
  simp only [addP,List.mem_singleton] at ht
  subst ht
  have hz:i64 0:=⟨by decide,by decide⟩
  have hk:rngX (.mk 3 0 bk []):=(qeh _).2 ⟨⟨hz,by decide⟩,by simp [Ex.args]⟩
  have hn:rngX (.mk 3 0 bn []):=(qeh _).2 ⟨⟨hz,by decide⟩,by simp [Ex.args]⟩
  have hg:rngX (.mk 22 0 em [.mk 3 0 bk []]):=(qeh _).2 ⟨⟨hz,by decide⟩,by simp [Ex.args,hk]⟩
  refine (rngS_iff _).2 ⟨hk,(qeh _).2 ⟨⟨hz,by decide⟩,by simp [Ex.args,hg,hn,St.b]⟩,by simp [St.body],by simp [St.els]⟩
 ·
  have h2:∀ v∈exArgs,qdi v:=by
   intro v hv
   simp only [exArgs,List.mem_cons,List.not_mem_nil,or_false] at hv
   rcases hv with rfl | rfl
   · exact ⟨⟨by simp [vS],by simp [vS]⟩,by simp only [vS];decide⟩
   · exact ⟨⟨by simp [vI],by simp [vI]⟩,by simp only [vI];decide⟩
  intro t ht v hv
  simp only [List.mem_cons,List.not_mem_nil,or_false] at ht
  rcases ht with rfl | rfl<;>exact h2 v hv
theorem batch21a:BatchIn qba [addP] [t21]:=⟨batch21.fmt,batch21.body,fun t ht=>batch21.args t (by simp at ht;simp [ht])⟩
section
variable {tT:TypeId} {tx:Nat×Nat} {g:Nat}
theorem qc7 (h:qac) (hg:h[g]?=some (tabO tT tx)):ACalls Tryz.prog 23 [] h fun r h'=>r=.ret (Bo true)∧h'=h:=by
 refine qas Tryz.func23 Tryz.ntmps23 rfl (by kernel_rfl) rfl fun E hN hh hu hb hb' hua=>?_
 have hgl:g<h.length:=(List.getElem?_eq_some_iff.1 hg).1
 have hg':∀ l:qac,(h++l)[g]?=some (tabO tT tx):=fun l=>by rw [List.getElem?_append_left hgl];exact hg
 have h1:=fun H hH=>c_serial_One (g:=g) (tT:=tT) (tx:=tx) [addP] exSt t21 H hH (runIn_one batch21 rng_ex (by simp)) (by simp [exSt])
 have h3:=fun H hH=>c_serial_One (g:=g) (tT:=tT) (tx:=tx) [addP] exSt t21b H hH (runIn_one batch21 rng_ex (by simp)) (by simp [exSt])
 have h2:=fun H hH=>c_serial_Batch (g:=g) (tT:=tT) (tx:=tx) [addP] exSt [t21] H hH batch21a rng_ex (by simp [exSt])
 have e1:=exS1
 have e1m:=exS1m
 have e3:=exS3
 have e3s:=exS3s
 simp only [exS2] at h2
 obtain ⟨X,hX⟩:∃ X,oneS qba [addP] exSt t21=X:=⟨_,rfl⟩
 obtain ⟨Z,hZ⟩:∃ Z,oneS qba [addP] exSt t21b=Z:=⟨_,rfl⟩
 rw [hX] at e1 e1m
 rw [hZ] at e3 e3s
 simp only [hX] at h1
 simp only [hZ,e3s] at h3
 simp -dsimp [go_sem,hN]
 refine qaa c_law21_add ?_
 simp -dsimp [go_sem,hN]
 refine qam (h1 _ (hg' _)) ?_
 rintro r h' ⟨rfl,he⟩
 rw [he]
 simp -dsimp [go_sem,hN,Eff.c]
 refine qam (h2 _ (hg' _)) ?_
 rintro r h' ⟨rfl,he⟩
 rw [he]
 simp -dsimp [go_sem,hN]
 refine qam (h3 _ (hg' _)) ?_
 rintro r h' ⟨rfl,he⟩
 rw [he]
 simp -dsimp [go_sem,hN,e1,e1m,e3,r21,Res.c,Eff.c,bx]
 refine qae (c_same_reflS st7) (by simp) ?_
 simp -dsimp [go_sem,hN]
 refine qae (c_same_reflS st7) (by simp) ?_
 simp -dsimp [go_sem,hN]
 exact ⟨_,.refl _,h,by simp [go_sem],hwk.app0 _,Nat.le_refl _,hu,rfl,rfl⟩
end
end Go.Proofs.YtdbpbpmikpdjcaaGreatDoor
