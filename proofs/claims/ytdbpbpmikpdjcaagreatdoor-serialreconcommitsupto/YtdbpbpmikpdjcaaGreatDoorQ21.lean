/- Part 21 of a proof: W65, W65s, OP, OS, LB, OU -/
import Derived.Test.YtdbpbpmikpdjcaaGreatDoorRows
import Derived.KernelRfl
import Derived.Test.YtdbpbpmikpdjcaaGreatDoorCards
import Derived.Test.YtdbpbpmikpdjcaaGreatDoorTie
import Derived.ProofKit
import Derived.OpenShut
import Derived.Carry
import Derived.Deep.DeepHandedRow
import Derived.Lib.LaidTab
import Derived.Stop.LaidErr
import Derived.Test.YtdbpbpmikpdjcaaGreatDoorQ10
import Derived.Test.YtdbpbpmikpdjcaaGreatDoorQ13
import Derived.Test.YtdbpbpmikpdjcaaGreatDoorQ14
import Derived.Test.YtdbpbpmikpdjcaaGreatDoorQ15
import Derived.Test.YtdbpbpmikpdjcaaGreatDoorQ17
import Derived.Test.YtdbpbpmikpdjcaaGreatDoorQ20
set_option linter.all false

set_option maxRecDepth 8000
set_option maxHeartbeats 2000000
namespace Go.Proofs.YtdbpbpmikpdjcaaGreatDoor
open Go Go.Abs Go.Cw
theorem sameL_lenS {α:Type} {f:α→α→Bool}:∀ (a b:List α),qcb f a b=true→a.length=b.length
 | [],[],_=>rfl
 | x::a,y::b,h=>by
  rw [qcb,Bool.and_eq_true] at h
  simp [sameL_lenS a b h.2]
 | [],_::_,h=>by simp [qcb] at h
 | _::_,[],h=>by simp [qcb] at h
theorem c_law21_Effects (a b:List Eff):APure Tryz.prog 33 [.slice (a.map Eff.c),.slice (b.map Eff.c)] (Bo (qcb sameE a b)):=by
 refine qaz Tryz.func33 Tryz.ntmps33 rfl (by kernel_rfl) rfl rfl fun E h hN hh hu hb=>?_
 simp [go_sem] at hb
 simp -dsimp [go_sem,hN]
 refine cnd ?_ ?_<;>intro h0<;>simp at h0
 ·
  have h1:qcb sameE a b=false:=by
   rcases Bool.eq_false_or_eq_true (qcb sameE a b) with g | g
   · exact (h0 (by exact_mod_cast sameL_lenS a b g)).elim
   · exact g
  simp -dsimp [go_sem,hN,h1]
 have h0:a.length=b.length:=by omega
 simp -dsimp [go_sem,hN]
 refine qap a.length (fun n=>qcb sameE (a.drop n) (b.drop n)=qcb sameE a b) (fun n=>⟨[(0,.slice (a.map Eff.c)),(1,.slice (b.map Eff.c)),(5,I n)],h⟩) (by simp) (Wk.mk (by simp [hh]) (by simp [go_sem]) (by simp [hu,qab hu,go_sem]) (by simp [go_sem])) ?_
 intro n hn hI
 have hw:=qbe hn (show _≤68719476736 by omega)
 simp -dsimp [go_sem,hN]
 refine cnd ?_ ?_<;>intro hc<;>simp at hc
 ·
  have hc2:n<b.length:=by omega
  rw [qag hc,qag hc2,qcb] at hI
  simp -dsimp [go_sem,hN,hc,hc2]
  refine qak 8 mixed (by kernel_rfl) (by kernel_rfl) ?_
  simp -dsimp [go_sem,hN,hc,hc2,Eff.c]
  refine qac (c_ref15_Same a[n] b[n]) ?_
  simp -dsimp [go_sem,hN]
  refine cnd ?_ ?_<;>intro h1<;>simp at h1
  ·
   rw [h1] at hI
   simp -dsimp [go_sem,hN,← hI]
  ·
   rw [h1] at hI
   simp -dsimp [go_sem,hN,hw]
   exact ⟨hc,by simpa using hI,(Wk.mk (by simp [hh]) (by simp [go_sem]) (by simp [hu,qab hu,go_sem]) (by simp [go_sem]))⟩
 ·
  rw [List.drop_eq_nil_of_le (show a.length≤n by omega),List.drop_eq_nil_of_le (show b.length≤n by omega),qcb] at hI
  simp -dsimp [go_sem,hN,← hI]
theorem c_same_reflS (l:List Pr):APure Tryz.prog 15 [.slice (l.map Pr.c),.slice (l.map Pr.c)] (Bo true):=by
 have:=c_ref06_Same l l
 rwa [sameL_refl (f:=eqP) (fun x=>by simp [eqP,eqVal])] at this
theorem c_effs_reflS (l:List Eff):APure Tryz.prog 33 [.slice (l.map Eff.c),.slice (l.map Eff.c)] (Bo true):=by
 have:=c_law21_Effects l l
 rwa [sameL_refl (f:=sameE) sameE_refl] at this
theorem c_law21_add:APure Tryz.prog 52 [] (.agg addP.c):=by
 refine qaz Tryz.func52 Tryz.ntmps52 rfl (by kernel_rfl) rfl rfl fun E h hN hh hu hb=>?_
 simp -dsimp [go_sem,hN]
 exact ⟨rfl,rfl,rfl⟩
def t21:Txn:=⟨1,⟨#[97,100,100]⟩,exArgs,⟨false,[],[]⟩,1⟩
def t21b:Txn:=⟨1,⟨#[97,100,100]⟩,exArgs,⟨false,[bx],[bx]⟩,1⟩
def st7:List Pr:=[⟨bx,vI 7⟩]
def r21:List Res:=[⟨1,2,1,0,[]⟩]
theorem exS1:(oneS qbh [addP] exSt t21).2.status=3:=by kernel_rfl
theorem exS1m:(oneS qbh [addP] exSt t21).2.miss=bx:=by kernel_rfl
theorem exS2:batchS qbh [addP] exSt [t21]=(st7,r21):=by kernel_rfl
theorem exS3:(oneS qbh [addP] exSt t21b).2.status=1:=by kernel_rfl
theorem exS3s:(oneS qbh [addP] exSt t21b).1=st7:=by kernel_rfl
theorem rng_ex:rngL exSt:=by
 intro q hq
 rw [List.mem_singleton.1 hq]
 exact ⟨⟨by simp [vI],by simp [vI]⟩,by simp [vI,em]⟩
theorem batch21:BatchIn qbh [addP] [t21,t21b]:=by
 refine ⟨plain_itoa,?_,?_⟩
 ·
  intro p hp t ht
  simp only [List.mem_singleton] at hp
  subst hp
  simp only [addP,List.mem_singleton] at ht
  subst ht
  have hz:i64 0:=⟨by decide,by decide⟩
  have hk:rngX (.mk 3 0 bk []):=(rngX_iff _).2 ⟨⟨hz,by decide⟩,by simp [Ex.args]⟩
  have hn:rngX (.mk 3 0 bn []):=(rngX_iff _).2 ⟨⟨hz,by decide⟩,by simp [Ex.args]⟩
  have hg:rngX (.mk 22 0 em [.mk 3 0 bk []]):=(rngX_iff _).2 ⟨⟨hz,by decide⟩,by simp [Ex.args,hk]⟩
  refine (rngS_iff _).2 ⟨hk,(rngX_iff _).2 ⟨⟨hz,by decide⟩,by simp [Ex.args,hg,hn,St.b]⟩,by simp [St.body],by simp [St.els]⟩
 ·
  have h2:∀ v∈exArgs,rngV v:=by
   intro v hv
   simp only [exArgs,List.mem_cons,List.not_mem_nil,or_false] at hv
   rcases hv with rfl | rfl
   · exact ⟨⟨by simp [vS],by simp [vS]⟩,by simp only [vS];decide⟩
   · exact ⟨⟨by simp [vI],by simp [vI]⟩,by simp only [vI];decide⟩
  intro t ht v hv
  simp only [List.mem_cons,List.not_mem_nil,or_false] at ht
  rcases ht with rfl | rfl<;>exact h2 v hv
theorem batch21a:BatchIn qbh [addP] [t21]:=⟨batch21.fmt,batch21.body,fun t ht=>batch21.args t (by simp at ht;simp [ht])⟩
section
variable {tT:TypeId} {tx:Nat×Nat} {g:Nat}
theorem qb3 (h:qaa) (hg:h[g]?=some (tabO tT tx)):ACalls Tryz.prog 23 [] h fun r h'=>r=.ret (Bo true)∧h'=h:=by
 refine qav Tryz.func23 Tryz.ntmps23 rfl (by kernel_rfl) rfl fun E hN hh hu hb hb' hua=>?_
 have hgl:g<h.length:=(List.getElem?_eq_some_iff.1 hg).1
 have hg':∀ l:qaa,(h++l)[g]?=some (tabO tT tx):=fun l=>by rw [List.getElem?_append_left hgl];exact hg
 have h1:=fun H hH=>c_serial_One (g:=g) (tT:=tT) (tx:=tx) [addP] exSt t21 H hH (runIn_one batch21 rng_ex (by simp)) (by simp [exSt])
 have h3:=fun H hH=>c_serial_One (g:=g) (tT:=tT) (tx:=tx) [addP] exSt t21b H hH (runIn_one batch21 rng_ex (by simp)) (by simp [exSt])
 have h2:=fun H hH=>c_serial_Batch (g:=g) (tT:=tT) (tx:=tx) [addP] exSt [t21] H hH batch21a rng_ex (by simp [exSt])
 have e1:=exS1
 have e1m:=exS1m
 have e3:=exS3
 have e3s:=exS3s
 simp only [exS2] at h2
 obtain ⟨X,hX⟩:∃ X,oneS qbh [addP] exSt t21=X:=⟨_,rfl⟩
 obtain ⟨Z,hZ⟩:∃ Z,oneS qbh [addP] exSt t21b=Z:=⟨_,rfl⟩
 rw [hX] at e1 e1m
 rw [hZ] at e3 e3s
 simp only [hX] at h1
 simp only [hZ,e3s] at h3
 simp -dsimp [go_sem,hN]
 refine qac c_law21_add ?_
 simp -dsimp [go_sem,hN]
 refine qai (h1 _ (hg' _)) ?_
 rintro r h' ⟨rfl,he⟩
 rw [he]
 simp -dsimp [go_sem,hN,Eff.c]
 refine qai (h2 _ (hg' _)) ?_
 rintro r h' ⟨rfl,he⟩
 rw [he]
 simp -dsimp [go_sem,hN]
 refine qai (h3 _ (hg' _)) ?_
 rintro r h' ⟨rfl,he⟩
 rw [he]
 simp -dsimp [go_sem,hN,e1,e1m,e3,r21,Res.c,Eff.c,bx]
 refine qaj (c_same_reflS st7) (by simp) ?_
 simp -dsimp [go_sem,hN]
 refine qaj (c_same_reflS st7) (by simp) ?_
 simp -dsimp [go_sem,hN]
 exact ⟨_,.refl _,h,by simp [go_sem],hwk.app0 _,Nat.le_refl _,hu,rfl,rfl⟩
theorem c_law21_SerialReconCommits (procs:List Proc) (s:List Pr) (t:Txn) (h:qaa) (hg:h[g]?=some (tabO tT tx)) (hB:BatchIn qbh procs [t]) (hs:rngL s) (hL:s.length+192≤60000000000) :
  ACalls Tryz.prog 7 [.slice (procs.map Proc.c),.slice (s.map Pr.c),.agg t.c] h fun r h'=>r=.ret (Bo true)∧h'=h:=by
 refine qav Tryz.func7 Tryz.ntmps7 rfl (by kernel_rfl) rfl fun E hN hh hu hb hb' hua=>?_
 have hgl:g<h.length:=(List.getElem?_eq_some_iff.1 hg).1
 have hg':∀ l:qaa,(h++l)[g]?=some (tabO tT tx):=fun l=>by rw [List.getElem?_append_left hgl];exact hg
 have ha:∀ v∈t.args,rngV v:=hB.args t (by simp)
 have hretry:=fun H hH=>c_serial_Retry (g:=g) (tT:=tT) (tx:=tx) procs s t H hH (fun p hp=>⟨hB.fmt,hB.body p hp,ha,hs⟩)
 have h3:=one_retry (t:=t) hB.fmt hB.body ha hs
 have hst:=one_status (fmt:=qbh) (procs:=procs) (s:=s) (t:=qct qbh procs s t)
 have hB2:BatchIn qbh procs [qct qbh procs s t]:=⟨hB.fmt,hB.body,fun x hx=>by rw [List.mem_singleton.1 hx,retry_args];exact ha⟩
 obtain ⟨t2,ht2⟩:∃ t2,qct qbh procs s t=t2:=⟨_,rfl⟩
 rw [ht2] at h3 hst hB2
 simp only [ht2] at hretry
 have hone:=fun H hH=>c_serial_One (g:=g) (tT:=tT) (tx:=tx) procs s t2 H hH (runIn_one hB2 hs (by simp)) (by omega)
 obtain ⟨X,hX⟩:∃ X,oneS qbh procs s t2=X:=⟨_,rfl⟩
 rw [hX] at h3 hst
 simp only [hX] at hone
 have h0:X.2.status≠0:=by omega
 simp -dsimp [go_sem,hN,Txn.c]
 refine qai (hretry _ (hg' _)) ?_
 rintro r h' ⟨rfl,he⟩
 rw [he]
 simp -dsimp [go_sem,hN,Txn.c]
 refine qai (hone _ (hg' _)) ?_
 rintro r h' ⟨rfl,he⟩
 rw [he]
 simp -dsimp [go_sem,hN,Eff.c,h3,h0]
 refine tgcall_true (by simp [h3,h0]) ((qb3 _ (hg' _)).mono ?_)
 rintro r h' ⟨rfl,rfl⟩
 simp -dsimp [go_sem,hN,h3,h0]
 exact ⟨_,.refl _,h,by simp [go_sem],hwk.app0 _,Nat.le_refl _,hu,rfl,rfl⟩
theorem one_else {procs:List Proc} {s:List Pr} {t:Txn} (h:(oneS qbh procs s t).2.status≠1):(oneS qbh procs s t).1=s∧(oneS qbh procs s t).2.writes=[]∧(oneS qbh procs s t).2.out=[]:=by
 unfold oneS at h ⊢
 split
 · exact ⟨rfl,rfl,rfl⟩
 ·
  rename_i p hp
  rw [hp] at h
  simp only at h
  by_cases h1:(runS qbh p t.args s t.ft).status=1
  · rw [if_pos h1] at h;exact (h h1).elim
  ·
   rw [if_neg h1]
   exact ⟨rfl,(run_else h1).1,(run_else h1).2.1⟩
theorem c_law21_SerialStays (procs:List Proc) (s:List Pr) (t:Txn) (h:qaa) (hg:h[g]?=some (tabO tT tx)) (hB:BatchIn qbh procs [t]) (hs:rngL s) (hL:s.length+192≤60000000000) :
  ACalls Tryz.prog 8 [.slice (procs.map Proc.c),.slice (s.map Pr.c),.agg t.c] h fun r h'=>r=.ret (Bo true)∧h'=h:=by
 refine qav Tryz.func8 Tryz.ntmps8 rfl (by kernel_rfl) rfl fun E hN hh hu hb hb' hua=>?_
 have hgl:g<h.length:=(List.getElem?_eq_some_iff.1 hg).1
 have hg':∀ l:qaa,(h++l)[g]?=some (tabO tT tx):=fun l=>by rw [List.getElem?_append_left hgl];exact hg
 have ha:∀ v∈t.args,rngV v:=hB.args t (by simp)
 have hone:=fun H hH=>c_serial_One (g:=g) (tT:=tT) (tx:=tx) procs s t H hH (runIn_one hB hs (by simp)) (by omega)
 have hok:=one_ok (procs:=procs) (t:=t) hB.fmt hB.body ha hs
 have hel:=fun h=>one_else (procs:=procs) (s:=s) (t:=t) h
 obtain ⟨X,hX⟩:∃ X,oneS qbh procs s t=X:=⟨_,rfl⟩
 rw [hX] at hok
 simp only [hX] at hone hel
 simp -dsimp [go_sem,hN,Txn.c]
 refine qai (hone _ (hg' _)) ?_
 rintro r h' ⟨rfl,he⟩
 rw [he]
 simp -dsimp [go_sem,hN,Eff.c]
 refine cnd ?_ ?_<;>intro h1<;>simp at h1
 ·
  obtain ⟨e1,e2,e3⟩:=hel h1
  rw [e1]
  simp -dsimp [go_sem,hN]
  refine qac (c_same_reflS s) ?_
  simp -dsimp [go_sem,hN,e2,e3]
  refine tgcall_true (by simp [e2,e3]) ((qb3 _ (hg' _)).mono ?_)
  rintro r h' ⟨rfl,rfl⟩
  simp -dsimp [go_sem,hN,e2,e3]
  exact ⟨_,.refl _,h,by simp [go_sem],hwk.app0 _,Nat.le_refl _,hu,rfl,rfl⟩
 ·
  obtain ⟨c1,c2⟩:=hok.com h1
  have hX1:X.1=qc2 s X.2.writes:=by rw [hok.upd,applyE,if_pos ⟨h1,c1,c2⟩]
  have hwr:=hok.wrs
  have hA:=c_ref06_Apply s X.2.writes (by omega)
  rw [c1,c2] at hA
  simp only [Bool.and_self,if_true] at hA
  simp -dsimp [go_sem,hN]
  refine qac hA ?_
  rw [hX1]
  simp -dsimp [go_sem,hN]
  refine qaj (c_same_reflS (qc2 s X.2.writes)) (by simp) ?_
  simp -dsimp [go_sem,hN]
  refine tgcall_true (by simp) ((qb3 _ (hg' _)).mono ?_)
  rintro r h' ⟨rfl,rfl⟩
  simp -dsimp [go_sem,hN]
  exact ⟨_,.refl _,h,by simp [go_sem],hwk.app0 _,Nat.le_refl _,hu,rfl,rfl⟩
theorem c_law21_SerialEnds (procs:List Proc) (s:List Pr) (l:List Txn) (h:qaa) (hg:h[g]?=some (tabO tT tx)) (hB:BatchIn qbh procs l) (hs:rngL s) (hL:s.length+192 * l.length≤60000000000) :
  ACalls Tryz.prog 9 [.slice (procs.map Proc.c),.slice (s.map Pr.c),.slice (l.map Txn.c)] h fun r h'=>r=.ret (Bo true)∧h'=h:=by
 refine qav Tryz.func9 Tryz.ntmps9 rfl (by kernel_rfl) rfl fun E hN hh hu hb hb' hua=>?_
 have hgl:g<h.length:=(List.getElem?_eq_some_iff.1 hg).1
 have hg':∀ l:qaa,(h++l)[g]?=some (tabO tT tx):=fun l=>by rw [List.getElem?_append_left hgl];exact hg
 have hbat:=fun H hH=>c_serial_Batch (g:=g) (tT:=tT) (tx:=tx) procs s l H hH hB hs hL
 obtain ⟨hXl,hXe⟩:=batch_ends (fmt:=qbh) (procs:=procs) (s:=s) l
 simp [go_sem] at hb
 obtain ⟨Y,hY⟩:∃ Y,batchS qbh procs s l=Y:=⟨_,rfl⟩
 simp only [hY] at hbat hXl hXe
 simp -dsimp [go_sem,hN]
 refine qai (hbat _ hg) ?_
 rintro r h' ⟨rfl,he⟩
 rw [he]
 simp -dsimp [go_sem,hN]
 refine cnd ?_ ?_<;>intro h1<;>simp at h1
 · omega
 simp -dsimp [go_sem,hN]
 refine qap l.length (fun n=>True) (fun n=>⟨[(2,.slice (l.map Txn.c)),(8,.slice (Y.2.map Res.c)),(9,I n)],h⟩) trivial (Wk.mk (by simp [hh]) (by simp [go_sem]) (by simp [hu,qab hu,go_sem]) (by simp [go_sem])) ?_
 intro n hn _
 have hw:=qbe hn (show _≤68719476736 by omega)
 simp -dsimp [go_sem,hN]
 refine cnd ?_ ?_<;>intro hc<;>simp at hc
 ·
  have hc2:n<l.length:=by omega
  obtain ⟨x1,x2⟩:=hXe n hc2 (by omega)
  have hid:Y.2[n].id=l[n].id:=x1
  simp -dsimp [go_sem,hN,hc,hc2]
  refine qak 22 mixed (by kernel_rfl) (by kernel_rfl) ?_
  rcases x2 with x2 | x2
  ·
   simp -dsimp [go_sem,hN,hc,hc2,Txn.c,Res.c,hid,x2,hw]
   exact (Wk.mk (by simp [hh]) (by simp [go_sem]) (by simp [hu,qab hu,go_sem]) (by simp [go_sem]))
  ·
   simp -dsimp [go_sem,hN,hc,hc2,Txn.c,Res.c,hid,x2,hw]
   exact (Wk.mk (by simp [hh]) (by simp [go_sem]) (by simp [hu,qab hu,go_sem]) (by simp [go_sem]))
 ·
  simp -dsimp [go_sem,hN]
  refine qai (qb3 _ hg) ?_
  rintro r h' ⟨rfl,rfl⟩
  simp -dsimp [go_sem,hN]
  exact ⟨_,.refl _,h',by simp [go_sem],hwk.refl _,Nat.le_refl _,hu,rfl,rfl⟩
end
end Go.Proofs.YtdbpbpmikpdjcaaGreatDoor

set_option maxRecDepth 8000
set_option maxHeartbeats 2000000
namespace Go.Proofs.YtdbpbpmikpdjcaaGreatDoor
open Go Go.Abs Go.Cw
section
variable {tT:TypeId} {tx:Nat×Nat} {g:Nat}
theorem c_law21_SerialSplits (procs:List Proc) (s:List Pr) (l:List Txn) (k:Int) (h:qaa) (hg:h[g]?=some (tabO tT tx)) (hB:BatchIn qbh procs l) (hs:rngL s) (hL:s.length+192 * l.length≤60000000000) (hk:0≤k∧k≤255) :
  ACalls Tryz.prog 11 [.slice (procs.map Proc.c),.slice (s.map Pr.c),.slice (l.map Txn.c),.val (.int .u8 k)] h fun r h'=>r=.ret (Bo true)∧h'=h:=by
 refine acalls_introB Tryz.func11 rfl (by kernel_rfl) (by simp [Tryz.ntmps11]) ?_
 intro E hN hh hu hb hb' hua
 rw [Tryz.ntmps11] at hN
 have hgl:g<h.length:=(List.getElem?_eq_some_iff.1 hg).1
 have hg':∀ l:qaa,(h++l)[g]?=some (tabO tT tx):=fun l=>by rw [List.getElem?_append_left hgl];exact hg
 simp [go_sem] at hb
 have hwz:IntKind.i64.wrap k=k:=wrapI (by omega) (by omega)
 have hw1:IntKind.i64.wrap ((l.length:Int)+1)=(l.length:Int)+1:=wrapI (by omega) (by omega)
 have hl0:(0:Int)<(l.length:Int)+1:=by omega
 obtain ⟨i,hi,hil⟩:∃ i:Nat,k.tmod ((l.length:Int)+1)=i∧i≤l.length:=by
  refine ⟨(k.tmod ((l.length:Int)+1)).toNat,?_,?_⟩
  · rw [Int.toNat_of_nonneg (Int.tmod_nonneg _ hk.1)]
  ·
   have h1:=Int.tmod_lt_of_pos k hl0
   have h2:=Int.tmod_nonneg ((l.length:Int)+1) hk.1
   omega
 have hBt:BatchIn qbh procs (l.take i):=⟨hB.fmt,hB.body,fun t ht=>hB.args t (List.mem_of_mem_take ht)⟩
 have hBd:BatchIn qbh procs (l.drop i):=⟨hB.fmt,hB.body,fun t ht=>hB.args t (List.mem_of_mem_drop ht)⟩
 obtain ⟨g1,g2,g3⟩:=qcz (fmt:=qbh) (procs:=procs) hs hB i hil
 have hsp:=round_split (fmt:=qbh) procs s l i
 have r1:=fun H hH=>c_serial_Round (g:=g) (tT:=tT) (tx:=tx) procs s l H hH hB hs (by omega)
 have r2:=fun H hH=>c_serial_Round (g:=g) (tT:=tT) (tx:=tx) procs s (l.take i) H hH hBt hs (by simp;omega)
 have r3:=fun H hH=>c_serial_Round (g:=g) (tT:=tT) (tx:=tx) procs (qau qbh procs s (l.take i)).1 (l.drop i) H hH hBd g1 (by simp;omega)
 rw [hsp] at r1
 obtain ⟨A,hA⟩:∃ A,qau qbh procs s (l.take i)=A:=⟨_,rfl⟩
 rw [hA] at g3
 simp only [hA] at r1 r2 r3
 obtain ⟨B,hB'⟩:∃ B,qau qbh procs A.1 (l.drop i)=B:=⟨_,rfl⟩
 simp only [hB'] at r1 r3
 simp only [List.map_take] at r2
 simp only [List.map_drop] at r3
 have hBl:B.2.length≤l.length:=by
  have:=round_cnt (fmt:=qbh) procs A.1 (l.drop i)
  rw [hB',List.length_drop] at this
  omega
 have hrl:RowsLen 7 (l.map Txn.c):=by
  intro r hr
  obtain ⟨t,_,rfl⟩:=List.mem_map.1 hr
  rfl
 refine qa6 (awp_ops ?_)
 simp [go_sem,hN]
 refine qa6 (qao _ _ _ ?_)
 simp -dsimp [go_sem,hN,hwz,hw1,hi]
 refine ⟨by omega,?_⟩
 refine qa6 (qao _ _ _ ?_)
 simp -dsimp [go_sem,hN]
 refine qai (r1 _ hg) ?_
 rintro r h' ⟨rfl,he⟩
 rw [he]
 simp -dsimp [go_sem,hN]
 refine qa6 (qao _ _ _ ?_)
 simp -dsimp [go_sem,hN]
 refine ⟨⟨hil,hrl⟩,?_⟩
 refine qai (r2 _ hg) ?_
 rintro r h' ⟨rfl,he⟩
 rw [he]
 simp -dsimp [go_sem,hN]
 refine qa6 (qao _ _ _ ?_)
 simp -dsimp [go_sem,hN]
 refine ⟨⟨hil,hrl⟩,?_⟩
 refine qai (r3 _ hg) ?_
 rintro r h' ⟨rfl,he⟩
 rw [he]
 simp -dsimp [go_sem,hN]
 refine qa6 (qao _ _ _ ?_)
 simp -dsimp [go_sem,hN]
 refine qa6 (qao _ _ _ ?_)
 simp -dsimp [go_sem,hN]
 refine ⟨by omega,?_⟩
 refine qa6 (awp_opsT [_,_,_,_,_,_,_,_,_,_,_,_,_] _ ?_)
 simp [go_sem,hN,g3]
 refine acalls_pure (c_same_reflS B.1) ?_
 simp [go_sem,hN,g3]
 refine aops_effT (done:=[_,_,_,_,_,_,_,_,_,_,_,_,_]) rfl ?_ ?_ ?_
 · simp [go_sem,hN,g3]
 · simp [go_sem,hN,g3]
 simp [go_sem,hN,g3]
 refine ⟨by omega,?_⟩
 refine qb5 _ [_,_,_,_,_,_,_,_,_,_,_,_,_,_] _ rfl ?_
 have hE:=c_effs_reflS (A.2++B.2)
 rw [List.map_append] at hE
 simp -dsimp [go_sem,hN,g3]
 refine qaj hE (by simp) ?_
 simp -dsimp [go_sem,hN]
 refine tgcall_true (by simp) ((qb3 _ (hg' _)).mono ?_)
 rintro r h' ⟨rfl,rfl⟩
 simp -dsimp [go_sem,hN]
 refine qao _ _ _ ?_
 simp -dsimp [go_sem,hN]
 exact ⟨_,.refl _,h,by simp [go_sem],hwk.app0 _,Nat.le_refl _,hu,rfl,rfl⟩
end
end Go.Proofs.YtdbpbpmikpdjcaaGreatDoor

set_option maxRecDepth 8000
namespace Go.Proofs.YtdbpbpmikpdjcaaGreatDoor
open Go Go.Abs Go.Cw
section
variable {H:Type} {enc:TypeId×Value→H} {w:World}
theorem bulk_part {d:DataW H} {l:List (DataW H)} (h:d∈l):Rows.uptoBulk d≤Rows.uptoBulkAll l:=by
 induction l with
 | nil=>cases h
 | cons x r ih =>
  simp only [Rows.uptoBulkAll]
  rcases List.mem_cons.1 h with rfl | e
  · omega
  · have:=ih e;omega
theorem bulk_one (d:DataW H):1≤Rows.uptoBulk d:=by
 cases d with
 | lit l=>cases l<;>simp [Rows.uptoBulk]
 | nil=>simp [Rows.uptoBulk]
 | ptr d=>simp [Rows.uptoBulk]
 | slice elems spare=>simp [Rows.uptoBulk]
 | agg parts=>simp [Rows.uptoBulk]
 | iface t d=>simp [Rows.uptoBulk]
 | map entries=>simp [Rows.uptoBulk]
 | held h=>simp [Rows.uptoBulk]
theorem bulk_len (l:List (DataW H)):l.length≤Rows.uptoBulkAll l:=by
 induction l with
 | nil=>simp [Rows.uptoBulkAll]
 | cons x r ih=>have:=bulk_one x;simp only [Rows.uptoBulkAll,List.length_cons];omega
theorem bulkB:Bulk (H:=H) Rows.uptoBulk where
 str:=fun s=>by simp [Rows.uptoBulk]
 len:=fun e s=>by have:=bulk_len e;simp only [Rows.uptoBulk];omega
 sl:=fun e s x hx=>by have:=bulk_part hx;simp only [Rows.uptoBulk];omega
 agg:=fun ps x hx=>by have:=bulk_part hx;simp only [Rows.uptoBulk];omega
abbrev UB:Nat:=1048576
variable (enc w) in
abbrev RD (n:Nat) (t:TypeId) (Q:List AV→Prop):Prop:=Rd enc Tryz.prog w Rows.uptoBulk UB n t Q
theorem ub_le:UB≤68719476736:=by decide
def rOf {α:Type} (c:α→List AV) (good:α→Prop) (xs:List AV):Prop:=∃ a,xs=c a∧good a
def gStr (s:qad):Prop:=s.size≤UB
def gSl {α:Type} (good:α→Prop) (l:List α):Prop:=l.length≤UB∧∀ a∈l,good a
def qOf {α:Type} (c:α→List AV) (good:α→Prop) (xs:List AV):Prop:=rOf (fun l:List α=>[.slice (l.map c)]) (gSl good) xs
theorem rd_of {n:Nat} {t e:TypeId} (ht:Tryz.prog.underlying t=some (.slice e)) {sz:Nat} (hsz:Tryz.prog.cellsOf e=sz) (h0:0<sz) {α:Type} {c:α→List AV} {good:α→Prop} (hl:∀ a,(c a).length=sz) (he:RD enc w n e (rOf c good)):RD enc w n t (qOf c good):=by
 refine (rd_slice bulkB ub_le ht hsz h0 (by rintro _ ⟨a,rfl,_⟩;exact hl a) he).mono ?_
 rintro _ ⟨rows,rfl,hlen,hq⟩
 obtain ⟨l,rfl,hg⟩:=rows_list hq
 exact ⟨l,rfl,by simpa using hlen,hg⟩
theorem len_of {α:Type} {c:α→List AV} {good:α→Prop}:∀ xs,qOf c good xs→xs.length=1:=by rintro _ ⟨l,rfl,_⟩;rfl
theorem rd_I {n:Nat}:RD enc w n 3 (qInt .i64):=rd_int (by decide) Tryz.underlying3
theorem rd_I64 {n:Nat}:RD enc w n 2 (qInt .i64):=rd_int (by decide) Tryz.underlying2
theorem rd_S {n:Nat}:RD enc w n 9 (qStr UB):=rd_str bulkB ub_le Tryz.underlying9
theorem rd_B {n:Nat}:RD enc w n 4 qBool:=rd_bool Tryz.underlying4
theorem i64_of {z:Int} (h:IntKind.i64.min≤z∧z≤IntKind.i64.max):i64 z:=⟨h.1,h.2⟩
theorem rd_V:∀ {n:Nat},RD enc w n 77 (rOf V.c rngV)
 | 0=>Rd.zero
 | n+1=>by
  refine (rd_struct (Qs:=[qInt .i64,qInt .i64,qStr UB]) bulkB Tryz.underlying77 ?_).mono ?_
  ·
   simp only [Flds]
   exact ⟨(by first | rfl | trivial),1,by kernel_rfl,rd_I,len_int,(by first | rfl | trivial),1,by kernel_rfl,rd_I64,len_int,(by first | rfl | trivial),1,by kernel_rfl,rd_S,len_str,by first | kernel_rfl | trivial⟩
  ·
   rintro _ ⟨ps,hp0,rfl⟩
   obtain ⟨_,_,rfl,⟨k,rfl,_⟩,hp1⟩:=qaq hp0
   obtain ⟨_,_,rfl,⟨z,rfl,hz⟩,hp2⟩:=qaq hp1
   obtain ⟨_,_,rfl,⟨s,rfl,hs⟩,hp3⟩:=qaq hp2
   obtain rfl:=parts_nil hp3
   exact ⟨⟨k,z,s⟩,rfl,i64_of hz,by show s.size≤_;unfold UB at hs;omega⟩
def gP (p:Pr):Prop:=p.key.size≤UB∧rngV p.v
theorem rd_P:∀ {n:Nat},RD enc w n 79 (rOf Pr.c gP)
 | 0=>Rd.zero
 | n+1=>by
  refine (rd_struct (Qs:=[qStr UB,rOf V.c rngV]) bulkB Tryz.underlying79 ?_).mono ?_
  ·
   simp only [Flds]
   exact ⟨(by first | rfl | trivial),1,by kernel_rfl,rd_S,len_str,(by first | rfl | trivial),3,by kernel_rfl,rd_V,by rintro _ ⟨v,rfl,_⟩;rfl,by first | kernel_rfl | trivial⟩
  ·
   rintro _ ⟨ps,hp0,rfl⟩
   obtain ⟨_,_,rfl,⟨k,rfl,hk⟩,hp1⟩:=qaq hp0
   obtain ⟨_,_,rfl,⟨v,rfl,hv⟩,hp2⟩:=qaq hp1
   obtain rfl:=parts_nil hp2
   exact ⟨⟨k,v⟩,rfl,hk,hv⟩
theorem rd_Vs {n:Nat}:RD enc w n 36 (qOf V.c rngV):=rd_of Tryz.underlying36 (sz:=3) (by kernel_rfl) (by decide) (fun _=>rfl) rd_V
theorem rd_Ps {n:Nat}:RD enc w n 23 (qOf Pr.c gP):=rd_of Tryz.underlying23 (sz:=4) (by kernel_rfl) (by decide) (fun _=>rfl) rd_P
theorem rd_Ss {n:Nat}:RD enc w n 37 (qOf qbg gStr):=rd_of Tryz.underlying37 (sz:=1) (by kernel_rfl) (by decide) (fun _=>rfl) (rd_S.mono (by rintro _ ⟨s,rfl,hs⟩;exact ⟨s,rfl,hs⟩))
theorem rd_E:∀ (n:Nat),RD enc w n 114 (rOf Ex.c rngX)
 | 0=>Rd.zero
 | n+1=>by
  have hs:RD enc w n 112 (qOf Ex.c rngX):=rd_of Tryz.underlying112 (sz:=4) (by kernel_rfl) (by decide) (fun e=>by rw [Ex.c_eq];rfl) (rd_E n)
  refine (rd_struct (Qs:=[qInt .i64,qInt .i64,qStr UB,qOf Ex.c rngX]) bulkB Tryz.underlying114 ?_).mono ?_
  ·
   simp only [Flds]
   exact ⟨(by first | rfl | trivial),1,by kernel_rfl,rd_I,len_int,(by first | rfl | trivial),1,by kernel_rfl,rd_I64,len_int,(by first | rfl | trivial),1,by kernel_rfl,rd_S,len_str,(by first | rfl | trivial),1,by kernel_rfl,hs,len_of,by first | kernel_rfl | trivial⟩
  ·
   rintro _ ⟨ps,hp0,rfl⟩
   obtain ⟨_,_,rfl,⟨k,rfl,_⟩,hp1⟩:=qaq hp0
   obtain ⟨_,_,rfl,⟨z,rfl,hz⟩,hp2⟩:=qaq hp1
   obtain ⟨_,_,rfl,⟨s,rfl,hs⟩,hp3⟩:=qaq hp2
   obtain ⟨_,_,rfl,⟨l,rfl,hl⟩,hp4⟩:=qaq hp3
   obtain rfl:=parts_nil hp4
   refine ⟨.mk k z s l,by rw [Ex.c_eq];rfl,(rngX_iff _).2 ⟨⟨i64_of hz,by show s.size≤_;unfold UB at hs;omega⟩,hl.2⟩⟩
theorem rd_T:∀ (n:Nat),RD enc w n 118 (rOf St.c rngS)
 | 0=>Rd.zero
 | n+1=>by
  have hs:RD enc w n 66 (qOf St.c rngS):=rd_of Tryz.underlying66 (sz:=13) (by kernel_rfl) (by decide) (fun e=>by rw [St.c_eq];rfl) (rd_T n)
  refine (rd_struct (Qs:=[qInt .i64,qStr UB,qInt .i64,rOf Ex.c rngX,rOf Ex.c rngX,qOf St.c rngS,qOf St.c rngS]) bulkB Tryz.underlying118 ?_).mono ?_
  ·
   simp only [Flds]
   exact ⟨(by first | rfl | trivial),1,by kernel_rfl,rd_I,len_int,(by first | rfl | trivial),1,by kernel_rfl,rd_S,len_str,(by first | rfl | trivial),1,by kernel_rfl,rd_I,len_int,(by first | rfl | trivial),4,by kernel_rfl,rd_E n,by rintro _ ⟨e,rfl,_⟩;rw [Ex.c_eq];rfl,(by first | rfl | trivial),4,by kernel_rfl,rd_E n,by rintro _ ⟨e,rfl,_⟩;rw [Ex.c_eq];rfl,(by first | rfl | trivial),1,by kernel_rfl,hs,len_of,(by first | rfl | trivial),1,by kernel_rfl,hs,len_of,by first | kernel_rfl | trivial⟩
  ·
   rintro _ ⟨ps,hp0,rfl⟩
   obtain ⟨_,_,rfl,⟨k,rfl,_⟩,hp1⟩:=qaq hp0
   obtain ⟨_,_,rfl,⟨s,rfl,hs⟩,hp2⟩:=qaq hp1
   obtain ⟨_,_,rfl,⟨m,rfl,_⟩,hp3⟩:=qaq hp2
   obtain ⟨_,_,rfl,⟨a,rfl,ha⟩,hp4⟩:=qaq hp3
   obtain ⟨_,_,rfl,⟨b,rfl,hb⟩,hp5⟩:=qaq hp4
   obtain ⟨_,_,rfl,⟨l,rfl,hl⟩,hp6⟩:=qaq hp5
   obtain ⟨_,_,rfl,⟨l',rfl,hl'⟩,hp7⟩:=qaq hp6
   obtain rfl:=parts_nil hp7
   refine ⟨.mk k s m a b l l',?_,(rngS_iff _).2 ⟨ha,hb,hl.2,hl'.2⟩⟩
   simp [St.c,St.cl_map]
theorem rd_Ts {n:Nat}:RD enc w n 66 (qOf St.c rngS):=rd_of Tryz.underlying66 (sz:=13) (by kernel_rfl) (by decide) (fun e=>by rw [St.c_eq];rfl) (rd_T n)
theorem rd_M:∀ {n:Nat},RD enc w n 116 (rOf Param.c fun p=>gStr p.name)
 | 0=>Rd.zero
 | n+1=>by
  refine (rd_struct (Qs:=[qStr UB,qInt .i64]) bulkB Tryz.underlying116 ?_).mono ?_
  ·
   simp only [Flds]
   exact ⟨(by first | rfl | trivial),1,by kernel_rfl,rd_S,len_str,(by first | rfl | trivial),1,by kernel_rfl,rd_I,len_int,by first | kernel_rfl | trivial⟩
  ·
   rintro _ ⟨ps,hp0,rfl⟩
   obtain ⟨_,_,rfl,⟨s,rfl,hs⟩,hp1⟩:=qaq hp0
   obtain ⟨_,_,rfl,⟨k,rfl,_⟩,hp2⟩:=qaq hp1
   obtain rfl:=parts_nil hp2
   exact ⟨⟨s,k⟩,rfl,hs⟩
theorem rd_Ms {n:Nat}:RD enc w n 65 (qOf Param.c fun p=>gStr p.name):=rd_of Tryz.underlying65 (sz:=2) (by kernel_rfl) (by decide) (fun _=>rfl) rd_M
def gProc (p:Proc):Prop:=gStr p.name∧gSl (fun x:Param=>gStr x.name) p.params∧gSl rngS p.body
theorem rd_Proc:∀ {n:Nat},RD enc w n 68 (rOf Proc.c gProc)
 | 0=>Rd.zero
 | n+1=>by
  refine (rd_struct (Qs:=[qStr UB,qOf Param.c fun p=>gStr p.name,qOf St.c rngS]) bulkB Tryz.underlying68 ?_).mono ?_
  ·
   simp only [Flds]
   exact ⟨(by first | rfl | trivial),1,by kernel_rfl,rd_S,len_str,(by first | rfl | trivial),1,by kernel_rfl,rd_Ms,len_of,(by first | rfl | trivial),1,by kernel_rfl,rd_Ts,len_of,by first | kernel_rfl | trivial⟩
  ·
   rintro _ ⟨ps,hp0,rfl⟩
   obtain ⟨_,_,rfl,⟨s,rfl,hs⟩,hp1⟩:=qaq hp0
   obtain ⟨_,_,rfl,⟨l,rfl,hl⟩,hp2⟩:=qaq hp1
   obtain ⟨_,_,rfl,⟨b,rfl,hb⟩,hp3⟩:=qaq hp2
   obtain rfl:=parts_nil hp3
   exact ⟨⟨s,l,b⟩,rfl,hs,hl,hb⟩
def gFoot (f:Foot):Prop:=gSl gStr f.reads∧gSl gStr f.writes
theorem rd_Foot:∀ {n:Nat},RD enc w n 39 (rOf Foot.c gFoot)
 | 0=>Rd.zero
 | n+1=>by
  refine (rd_struct (Qs:=[qBool,qOf qbg gStr,qOf qbg gStr]) bulkB Tryz.underlying39 ?_).mono ?_
  ·
   simp only [Flds]
   exact ⟨(by first | rfl | trivial),1,by kernel_rfl,rd_B,len_bool,(by first | rfl | trivial),1,by kernel_rfl,rd_Ss,len_of,(by first | rfl | trivial),1,by kernel_rfl,rd_Ss,len_of,by first | kernel_rfl | trivial⟩
  ·
   rintro _ ⟨ps,hp0,rfl⟩
   obtain ⟨_,_,rfl,⟨b,rfl⟩,hp1⟩:=qaq hp0
   obtain ⟨_,_,rfl,⟨l,rfl,hl⟩,hp2⟩:=qaq hp1
   obtain ⟨_,_,rfl,⟨l',rfl,hl'⟩,hp3⟩:=qaq hp2
   obtain rfl:=parts_nil hp3
   exact ⟨⟨b,l,l'⟩,rfl,hl,hl'⟩
structure gEff (e:Eff):Prop where
 out:gSl rngV e.out
 reads:gSl gStr e.reads
 puts:gSl gStr e.puts
 writes:gSl gP e.writes
 miss:gStr e.miss
end
end Go.Proofs.YtdbpbpmikpdjcaaGreatDoor

set_option maxRecDepth 8000
namespace Go.Proofs.YtdbpbpmikpdjcaaGreatDoor
open Go Go.Abs Go.Cw
section
variable {H:Type} {enc:TypeId×Value→H} {w:World}
structure gTxn (t:Txn):Prop where
 id:i64 t.id
 proc:gStr t.proc
 args:gSl rngV t.args
 ft:gFoot t.ft
 att:i64 t.att
theorem rd_Txn:∀ {n:Nat},RD enc w n 41 (rOf Txn.c gTxn)
 | 0=>Rd.zero
 | n+1=>by
  refine (rd_struct (Qs:=[qInt .i64,qStr UB,qOf V.c rngV,rOf Foot.c gFoot,qInt .i64]) bulkB Tryz.underlying41 ?_).mono ?_
  ·
   simp only [Flds]
   exact ⟨(by first | rfl | trivial),1,by kernel_rfl,rd_I64,len_int,(by first | rfl | trivial),1,by kernel_rfl,rd_S,len_str,(by first | rfl | trivial),1,by kernel_rfl,rd_Vs,len_of,(by first | rfl | trivial),3,by kernel_rfl,rd_Foot,by rintro _ ⟨v,rfl,_⟩;rfl,(by first | rfl | trivial),1,by kernel_rfl,rd_I,len_int,by first | kernel_rfl | trivial⟩
  ·
   rintro _ ⟨ps,hp0,rfl⟩
   obtain ⟨_,_,rfl,⟨k,rfl,hk⟩,hp1⟩:=qaq hp0
   obtain ⟨_,_,rfl,⟨s,rfl,hs⟩,hp2⟩:=qaq hp1
   obtain ⟨_,_,rfl,⟨l,rfl,hl⟩,hp3⟩:=qaq hp2
   obtain ⟨_,_,rfl,⟨f,rfl,hf⟩,hp4⟩:=qaq hp3
   obtain ⟨_,_,rfl,⟨z,rfl,hz⟩,hp5⟩:=qaq hp4
   obtain rfl:=parts_nil hp5
   exact ⟨⟨k,s,l,f,z⟩,rfl,i64_of hk,hs,hl,hf,i64_of hz⟩
theorem rd_Txns {n:Nat}:RD enc w n 24 (qOf Txn.c gTxn):=rd_of Tryz.underlying24 (sz:=7) (by kernel_rfl) (by decide) (fun _=>rfl) rd_Txn
theorem rd_Procs {n:Nat}:RD enc w n 22 (qOf Proc.c gProc):=rd_of Tryz.underlying22 (sz:=3) (by kernel_rfl) (by decide) (fun _=>rfl) rd_Proc
theorem batchIn_of {procs:List Proc} {l:List Txn} (hp:gSl gProc procs) (hl:gSl gTxn l):BatchIn qbh procs l:=⟨plain_itoa,fun p h=>(hp.2 p h).2.2.2,fun t h=>(hl.2 t h).args.2⟩
theorem rngL_of {s:List Pr} (h:gSl gP s):rngL s:=fun q hq=>(h.2 q hq).2
end
end Go.Proofs.YtdbpbpmikpdjcaaGreatDoor

set_option maxRecDepth 8000
namespace Go.Proofs.YtdbpbpmikpdjcaaGreatDoor
open Go Go.Abs Go.Cw Go.ChangeShapes Go.WideShapes Go.ChangeAt Go.RowKit
theorem laidOut:laidOutB Tryz.prog=true:=by kernel_rfl
theorem ownK:ownKnob Tryz.prog.godebug=none:=by kernel_rfl
abbrev laidL:List (String×DataW Unit):=[("math/bits.deBruijn32tab",Rows.laid_math_bits_deBruijn32tab),("math/bits.deBruijn64tab",Rows.laid_math_bits_deBruijn64tab),("internal/strconv.uint64pow10",Rows.laid_internal_strconv_uint64pow10)]
abbrev gTab:Nat:=1
theorem table {W:World} (h:laidMetH Tryz.prog laidL W):Lib.TabIs Tryz.prog W "internal/strconv.uint64pow10" .u64 Lib.pow10Tab :=
 Lib.tabIs_of_head (rest:=[]) (g:=gTab) (n:=20) (by kernel_rfl) (by kernel_rfl) Tryz.underlying298 Tryz.underlying219 (by kernel_rfl) (by kernel_rfl) (laidMet.tail (laidMet.tail (show laidMet Tryz.prog laidL W from h)))
theorem table_heap {W:World} (h:laidMetH Tryz.prog laidL W):∃ T x,W.heap[gTab]?=some (.cells tabV T x):=by
 have h1:=table h
 unfold Lib.TabIs World.var? at h1
 rw [show Tryz.prog.globalNamed "internal/strconv.uint64pow10" = some gTab by kernel_rfl] at h1
 simp only [Option.bind_some] at h1
 split at h1
 ·
  rename_i cs T x hx
  cases h1
  exact ⟨T,x,hx⟩
 · cases h1
theorem tab_u64:∀ (j:Nat) (v:Value),tabV[j]?=some v→∃ n,v=.int .u64 n:=by
 intro j v hv
 unfold tabV at hv
 have:(Lib.pow10Tab.map fun z=>Value.int .u64 z)[j]?=some v:=by simpa using hv
 rw [List.getElem?_map,Option.map_eq_some_iff] at this
 obtain ⟨z,_,rfl⟩:=this
 exact ⟨z,rfl⟩
def putTab (zs:List Value):Obj→Obj
 | .cells _ t fr=>.cells zs.toArray t fr
 | o=>o
def tabVals (d:DataW Unit):List Value:=match d with
 | .agg ps=>ps.map fun | .lit (.int k n)=>.int k n | _=>undef
 | _=>[]
noncomputable def laidWorld (os:Os):World :=
 { World.holding Tryz.prog os ⟨#[],#[],[]⟩ with heap:=(((World.holding Tryz.prog os ⟨#[],#[],[]⟩).heap.modify gTab (putTab (tabVals Rows.laid_internal_strconv_uint64pow10))).modify 2 (putTab (tabVals Rows.laid_math_bits_deBruijn32tab))).modify 3 (putTab (tabVals Rows.laid_math_bits_deBruijn64tab)) }
section
variable {H:Type} {enc:TypeId×Value→H} {W:World} {base:Nat}
theorem okWide_struct {t:TypeId} {fs:Array Field} (ht:Tryz.prog.underlying t=some (.struct fs)) {v:Value} (h:Value.okWide Tryz.prog W .any base t v):∃ cs,v=.agg cs:=by
 unfold Value.okWide at h
 rw [ht] at h
 obtain ⟨cs,rfl,_⟩:=h
 exact ⟨cs,rfl⟩
theorem okWide_slice {t e:TypeId} (ht:Tryz.prog.underlying t=some (.slice e)) {v:Value} (h:Value.okWide Tryz.prog W .any base t v):v.cells = #[v]:=by
 unfold Value.okWide at h
 rw [ht] at h
 simp only at h
 unfold Cell.okWide at h
 rw [ht] at h
 cases v<;>first | rfl | skip
 unfold Cell.ok at h
 rw [ht] at h
 exact h.elim
theorem arg_struct {t:TypeId} {fs:Array Field} (ht:Tryz.prog.underlying t=some (.struct fs)) {v:Value} {d:DataW H} {ps:List MemPlace} (hv:Value.okWide Tryz.prog W .any base t v) (h:DataW.Trod enc Tryz.prog W 0 (fun _=>true) true t v d ps)
  {α:Type} {c:α→List AV} {good:α→Prop} (hr:∀ n,RD enc W n t (rOf c good)) (hb:Rows.uptoBulk d≤UB):∃ a,Rel (ctxR W gTab) (.agg (c a)) v∧good a:=by
 obtain ⟨cs,rfl⟩:=okWide_struct ht hv
 obtain ⟨fuel,hf⟩:=h
 obtain ⟨_,hd,a,rfl,hg⟩:=hr fuel fuel _ _ _ (Nat.le_refl _) hf hb
 exact ⟨a,rel_agg hd,hg⟩
theorem arg_slice {t e:TypeId} (ht:Tryz.prog.underlying t=some (.slice e)) {v:Value} {d:DataW H} {ps:List MemPlace} (hv:Value.okWide Tryz.prog W .any base t v) (h:DataW.Trod enc Tryz.prog W 0 (fun _=>true) true t v d ps)
  {α:Type} {c:α→List AV} {good:α→Prop} (hr:∀ n,RD enc W n t (qOf c good)) (hb:Rows.uptoBulk d≤UB):∃ l:List α,Rel (ctxR W gTab) (.slice (l.map c)) v∧gSl good l:=by
 obtain ⟨fuel,hf⟩:=h
 rw [okWide_slice ht hv] at hf
 obtain ⟨_,hd,l,rfl,hg⟩:=hr fuel fuel _ _ _ (Nat.le_refl _) hf hb
 exact ⟨l,rel_one hd,hg⟩
end
theorem pLaid:laidOutB Tryz.pinned.checked.prog=true:=by kernel_rfl
theorem pMaps:mapsRowed Tryz.pinned.checked.prog=true:=by kernel_rfl
theorem pHeard:Tryz.pinned.checked.prog.stopsHeard=true:=by kernel_rfl
theorem pEnter:Tryz.pinned.checked.prog.mayEnter=true:=by kernel_rfl
end Go.Proofs.YtdbpbpmikpdjcaaGreatDoor

set_option maxRecDepth 8000
namespace Go.Proofs.YtdbpbpmikpdjcaaGreatDoor
open Go Go.Abs Go.Cw
section
variable {H:Type} {enc:TypeId×Value→H} {w:World} {base:Nat}
theorem okWide_u8 {t:TypeId} (ht:Tryz.prog.underlying t=some (.int .u8)) {v:Value} (h:Value.okWide Tryz.prog w .any base t v):v.cells = #[v]:=by
 unfold Value.okWide at h
 rw [ht] at h
 simp only at h
 unfold Cell.okWide at h
 rw [ht] at h
 cases v<;>first | rfl | skip
 unfold Cell.ok at h
 rw [ht] at h
 exact h.elim
theorem arg_u8 {t:TypeId} (ht:Tryz.prog.underlying t=some (.int .u8)) {v:Value} {d:DataW H} {ps:List MemPlace} (hv:Value.okWide Tryz.prog w .any base t v) (h:DataW.Trod enc Tryz.prog w 0 (fun _=>true) true t v d ps)
  (hb:Rows.uptoBulk d≤UB):∃ z:Int,Rel (ctxR w gTab) (.val (.int .u8 z)) v∧0≤z∧z≤255:=by
 obtain ⟨fuel,hf⟩:=h
 rw [okWide_u8 ht hv] at hf
 obtain ⟨_,hd,z,rfl,h1,h2⟩:=(rd_int (by decide) ht:RD enc w fuel t (qInt .u8)) fuel _ _ _ (Nat.le_refl _) hf hb
 exact ⟨z,rel_one hd,h1,h2⟩
theorem lens_of {s:List Pr} {l:List Txn} (hs:gSl gP s) (hl:gSl gTxn l):s.length+192 * l.length≤60000000000:=by
 have h1:=hs.1
 have h2:=hl.1
 unfold UB at h1 h2
 omega
theorem lens1 {s:List Pr} (hs:gSl gP s):s.length+192≤60000000000:=by
 have h1:=hs.1
 unfold UB at h1
 omega
theorem gOne {t:Txn} (h:gTxn t):gSl gTxn [t]:=⟨by unfold UB;simp,by intro x hx;rw [List.mem_singleton.1 hx];exact h⟩
end
end Go.Proofs.YtdbpbpmikpdjcaaGreatDoor
