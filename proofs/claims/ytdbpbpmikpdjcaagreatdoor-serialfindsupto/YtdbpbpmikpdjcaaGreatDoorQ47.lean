/- Part 47 of a proof: W66, W67 -/
import Derived.Test.YtdbpbpmikpdjcaaGreatDoorQ40
import Derived.Test.YtdbpbpmikpdjcaaGreatDoorQ45
import Derived.Test.YtdbpbpmikpdjcaaGreatDoorQ46
set_option linter.all false

set_option maxRecDepth 4000
set_option maxHeartbeats 2000000
namespace Go.Proofs.YtdbpbpmikpdjcaaGreatDoor
open Go Go.Abs Go.Cw
theorem c_ref04_Ascending (l:List qad):APure Tryz.prog 115 [.slice (l.map qbg)] (Bo (ascK none l)):=by
 refine qaj Tryz.func115 Tryz.ntmps115 rfl (by kernel_rfl) rfl rfl fun E h hN hh hu hb=>?_
 simp [go_sem] at hb
 simp -dsimp [go_sem,hN]
 refine qah l.length (fun n=>ascK (qaz l n) (l.drop n)=ascK none l) (fun n=>⟨[(0,.slice (l.map qbg)),(3,I n)],h⟩) (by simp [qaz]) (Wk.mk (by simp [hh]) (by simp [go_sem]) (by simp [hu,qab hu,go_sem]) (by simp [go_sem])) ?_
 intro n hn hI
 have hw:=qax hn hb.1
 simp -dsimp [go_sem,hN]
 refine cnd ?_ ?_<;>intro hc<;>simp at hc
 ·
  rw [qaf hc,ascK] at hI
  simp -dsimp [go_sem,hN,hc]
  refine qag 19 mixed (by kernel_rfl) (by kernel_rfl) ?_
  simp -dsimp [go_sem,hN,hc]
  refine qay (qei _) (by simp) ?_
  cases n with
  | zero =>
   simp -dsimp [go_sem,hN]
   refine cnd ?_ ?_<;>intro hg<;>try simp at hg
   ·
    simp -dsimp [go_sem,hN]
    grind [qaz,after]
   ·
    simp -dsimp [go_sem,hN,hw]
    exact ⟨hc,by simpa [hg,qaz,hc,after] using hI,(Wk.mk (by simp [hh]) (by simp [go_sem]) (by simp [hu,qab hu,go_sem]) (by simp [go_sem]))⟩
  | succ m =>
   have hm:m<l.length:=by omega
   have hw2:=wrapN (Nat.le_of_lt hm) hb.1
   simp at hw
   simp -dsimp [go_sem,hN,hw2,hm,hc]
   refine ⟨fun hk=>⟨hk,by omega⟩,cnd (fun hg=>?_) (fun hg=>?_)⟩<;>simp at hg
   ·
    simp -dsimp [go_sem,hN]
    rw [← hI]
    rcases hg with h1 | h1<;>simp [qaz,hm,after,h1]
   ·
    simp -dsimp [go_sem,hN,hw]
    simp [hg,qaz,hm,after] at hI
    exact ⟨hc,by simpa [qaz,hc] using hI,(Wk.mk (by simp [hh]) (by simp [go_sem]) (by simp [hu,qab hu,go_sem]) (by simp [go_sem]))⟩
 ·
  rw [List.drop_eq_nil_of_le (by omega),ascK] at hI
  simp -dsimp [go_sem,hN,← hI]
theorem c_ref04_Same (l l':List qad):APure Tryz.prog 58 [.slice (l.map qbg),.slice (l'.map qbg)] (Bo (qcn eqB l l')):=by
 refine qaj Tryz.func58 Tryz.ntmps58 rfl (by kernel_rfl) rfl rfl fun E h hN hh hu hb=>?_
 simp [go_sem] at hb
 simp -dsimp [go_sem,hN]
 refine cnd ?_ ?_<;>intro h0<;>simp at h0
 ·
  simp -dsimp [go_sem,hN]
  exact sameL_len (by omega)
 simp -dsimp [go_sem,hN]
 refine qah l.length (fun n=>qcn eqB (l.drop n) (l'.drop n)=qcn eqB l l') (fun n=>⟨[(0,.slice (l.map qbg)),(1,.slice (l'.map qbg)),(5,I n)],h⟩) (by simp) (Wk.mk (by simp [hh]) (by simp [go_sem]) (by simp [hu,qab hu,go_sem]) (by simp [go_sem])) ?_
 intro n hn hI
 have hw:=qax hn hb.1.1
 simp -dsimp [go_sem,hN]
 refine cnd ?_ ?_<;>intro hc<;>simp at hc
 ·
  have hc':n<l'.length:=by omega
  rw [qaf hc,qaf hc',qcn] at hI
  simp -dsimp [go_sem,hN,hc,hc']
  refine qag 8 mixed (by kernel_rfl) (by kernel_rfl) ?_
  simp -dsimp [go_sem,hN,hc,hc']
  refine cnd ?_ ?_<;>intro hg<;>simp at hg
  ·
   simp -dsimp [go_sem,hN]
   rw [← hI]
   simp [eqB,eqVal]
   grind
  ·
   simp -dsimp [go_sem,hN,hw]
   refine ⟨hc,?_,(Wk.mk (by simp [hh]) (by simp [go_sem]) (by simp [hu,qab hu,go_sem]) (by simp [go_sem]))⟩
   rw [← hI]
   simp [eqB,eqVal,hg]
 ·
  rw [List.drop_eq_nil_of_le (by omega),List.drop_eq_nil_of_le (by omega),qcn] at hI
  simp -dsimp [go_sem,hN,← hI]
theorem c_ref19_Valid (f:Foot):APure Tryz.prog 71 [.agg f.c] (Bo (qd7 f.all f.reads f.writes)):=by
 refine qaj Tryz.func71 Tryz.ntmps71 rfl (by kernel_rfl) rfl rfl fun E h hN hh hu hb=>?_
 simp -dsimp [go_sem,hN,Foot.c]
 refine cnd ?_ ?_<;>intro h0<;>try simp at h0
 all_goals simp -dsimp [go_sem,hN,qd7,h0]
 refine qae (c_ref04_Ascending f.reads) (by simp) ?_
 simp -dsimp [go_sem,hN]
 refine qae (c_ref04_Ascending f.writes) (by simp) ?_
 simp -dsimp [go_sem,hN,qd7,h0]
 grind
theorem c_ref19_Same (a b:Foot):APure Tryz.prog 26 [.agg a.c,.agg b.c] (Bo (decide (a.all=b.all)&&qcn eqB a.reads b.reads&&qcn eqB a.writes b.writes)):=by
 refine qaj Tryz.func26 Tryz.ntmps26 rfl (by kernel_rfl) rfl rfl fun E h hN hh hu hb=>?_
 simp -dsimp [go_sem,hN,Foot.c]
 refine qae (c_ref04_Same a.reads b.reads) (by simp) ?_
 simp -dsimp [go_sem,hN]
 refine qae (c_ref04_Same a.writes b.writes) (by simp) ?_
 simp -dsimp [go_sem,hN]
theorem c_ref19_Of (e:Eff):APure Tryz.prog 103 [.agg e.c] (.agg (ftOf e).c):=by
 refine qaj Tryz.func103 Tryz.ntmps103 rfl (by kernel_rfl) rfl rfl fun E h hN hh hu hb=>?_
 simp -dsimp [go_sem,hN,Eff.c,Foot.c]
theorem c_ref20_Recon (p:Proc) (args:List V) (st:List Pr) (hI:RunIn qba p args st) :
  APure Tryz.prog 57 [.agg p.c,.slice (args.map V.c),.slice (st.map Pr.c)] (.tuple [.agg (reconS qba p args st).1.c,I (reconS qba p args st).2]):=by
 refine qaj Tryz.func57 Tryz.ntmps57 rfl (by kernel_rfl) rfl rfl fun E h hN hh hu hb=>?_
 have hfree:=c_ref15_Free p args st hI
 obtain ⟨X,hX⟩:∃ X,runS qba p args st ⟨true,[],[]⟩=X:=⟨_,rfl⟩
 have hR:reconS qba p args st=if qbj p≠0∨qcf p args≠0∨qbq st=false then (⟨false,[],[]⟩,1) else (ftOf X,0):=by rw [← hX];rfl
 rw [hX] at hfree
 obtain ⟨R,hR2⟩:∃ R,reconS qba p args st=R:=⟨_,rfl⟩
 rw [hR2] at hR ⊢
 simp -dsimp [go_sem,hN]
 refine qaa (c_ref13_Check p) ?_
 simp -dsimp [go_sem,hN]
 refine qae (c_ref11_Args p args) (by simp) ?_
 simp -dsimp [go_sem,hN]
 refine qae (c_ref06_Valid st) (by simp) ?_
 simp -dsimp [go_sem,hN]
 refine cnd ?_ ?_<;>intro h0<;>simp at h0
 ·
  rw [if_pos (by grind)] at hR
  subst hR
  simp -dsimp [go_sem,hN,Foot.c]
 ·
  rw [if_neg (by grind)] at hR
  subst hR
  simp -dsimp [go_sem,hN]
  refine qaa hfree ?_
  simp -dsimp [go_sem,hN]
  refine qaa (c_ref19_Of X) ?_
  simp -dsimp [go_sem,hN,Foot.c]
theorem c_ref21_Retry (procs:List Proc) (s:List Pr) (t:Txn) (hI:∀ p∈procs,RunIn qba p t.args s) :
  APure Tryz.prog 25 [.slice (procs.map Proc.c),.slice (s.map Pr.c),.agg t.c] (.agg (qdb qba procs s t).c):=by
 refine qaj Tryz.func25 Tryz.ntmps25 rfl (by kernel_rfl) rfl rfl fun E h hN hh hu hb=>?_
 simp [go_sem] at hb
 obtain ⟨R,hR⟩:∃ R,qdb qba procs s t=R:=⟨_,rfl⟩
 rw [hR]
 unfold qdb at hR
 simp -dsimp [go_sem,hN,Txn.c]
 refine cnd ?_ ?_<;>intro h0<;>simp at h0
 ·
  rw [if_pos h0] at hR
  subst hR
  simp -dsimp [go_sem,hN,Txn.c,Foot.c]
 rw [if_neg (by omega)] at hR
 simp -dsimp [go_sem,hN]
 refine qaa (c_ref21_Find procs t.proc) ?_
 rcases hF:findN procs t.proc with _ | p
 ·
  rw [hF] at hR
  simp only at hR
  subst hR
  simp -dsimp [go_sem,hN,noProc]
  simp -dsimp [go_sem,hN,Txn.c,Foot.c]
 ·
  rw [hF] at hR
  simp only at hR
  have hmem:p∈procs:=List.mem_of_find?_eq_some hF
  have hrec:=c_ref20_Recon p t.args s (hI p hmem)
  obtain ⟨X,hX⟩:∃ X,reconS qba p t.args s=X:=⟨_,rfl⟩
  rw [hX] at hR hrec
  simp -dsimp [go_sem,hN]
  refine qaa hrec ?_
  simp -dsimp [go_sem,hN]
  refine cnd ?_ ?_<;>intro h3<;>simp at h3
  ·
   rw [if_pos (by omega)] at hR
   subst hR
   simp -dsimp [go_sem,hN,Txn.c,Foot.c]
  ·
   rw [if_neg (by omega)] at hR
   subst hR
   simp -dsimp [go_sem,hN,Txn.c,Foot.c]
theorem c_ref21_Round (procs:List Proc) (s:List Pr) (l:List Txn) (hB:BatchIn qba procs l) (hs:rngL s) (hL:s.length+64 * l.length≤60000000000) :
  APure Tryz.prog 32 [.slice (procs.map Proc.c),.slice (s.map Pr.c),.slice (l.map Txn.c)] (.tuple [.slice ((qbb qba procs s l).1.map Pr.c),.slice ((qbb qba procs s l).2.map Eff.c)]):=by
 refine qaj Tryz.func32 Tryz.ntmps32 rfl (by kernel_rfl) rfl rfl fun E h hN hh hu hb=>?_
 simp [go_sem] at hb
 simp -dsimp [go_sem,hN]
 refine qah l.length (fun n=>True) (fun n=>⟨[(0,.slice (procs.map Proc.c)),(1,.slice ((qbb qba procs s (l.take n)).1.map Pr.c)),(2,.slice (l.map Txn.c)),(8,.own h.length n),(9,I n)],h++[.arr 45 8 ((qbb qba procs s (l.take n)).2.map Eff.c)]⟩) trivial ((nil_wk E _ 8 45 8 (by simp [go_sem])).trans ?_) ?_
 ·
  simp [qbb]
  exact (Wk.mk (by simp [hh]) (by simp [go_sem]) (by simp [hu,qab hu,go_sem]) (by simp [go_sem]))
 intro n hn _
 have hw:=qax hn (show _≤68719476736 by omega)
 obtain ⟨hrs,hrl,hrc⟩:=qdf (fmt:=qba) (procs:=procs) hs hB n hn
 simp -dsimp [go_sem,hN]
 refine cnd ?_ ?_<;>intro hc<;>simp at hc
 ·
  have hnx:=round_next (fmt:=qba) (procs:=procs) (s:=s) hc
  have hone:=c_ref21_One procs (qbb qba procs s (l.take n)).1 l[n] (runIn_one hB hrs (List.getElem_mem hc)) (by omega)
  obtain ⟨X,hX⟩:∃ X,qbb qba procs s (l.take n)=X:=⟨_,rfl⟩
  rw [hX] at hnx hrs hrl hrc hone
  simp only [hX]
  obtain ⟨O,hO⟩:∃ O,oneS qba procs X.1 l[n]=O:=⟨_,rfl⟩
  rw [hO] at hnx hone
  simp -dsimp [go_sem,hN,hc,Txn.c]
  refine qaa hone ?_
  simp -dsimp [go_sem,hN,hw,hrc,Eff.c]
  refine ⟨by omega,hc,?_⟩
  rw [hnx]
  exact (Wk.mk (by simp [hh]) (by simp [go_sem]) (by simp [hu,qab hu,go_sem]) (by simp [go_sem,Eff.c]))
 ·
  simp -dsimp [go_sem,hN]
  rw [if_pos hrc,List.take_of_length_le (by omega)]
  exact ⟨rfl,rfl⟩
theorem c_ref21_ValidProcs (l:List Proc):APure Tryz.prog 38 [.slice (l.map Proc.c)] (I (procsErr l)):=by
 refine qaj Tryz.func38 Tryz.ntmps38 rfl (by kernel_rfl) rfl rfl fun E h hN hh hu hb=>?_
 simp [go_sem] at hb
 simp -dsimp [go_sem,hN]
 refine cnd ?_ ?_<;>intro h0<;>simp at h0
 ·
  simp -dsimp [go_sem,hN,procsErr]
  omega
 simp -dsimp [go_sem,hN]
 have hP:procsErr l=procsE none l:=by rw [procsErr,if_neg (by omega)]
 refine qah l.length (fun n=>procsE ((qaz l n).map Proc.name) (l.drop n)=procsErr l) (fun n=>⟨[(0,.slice (l.map Proc.c)),(3,I n)],h⟩) (by simp [qaz,hP]) (Wk.mk (by simp [hh]) (by simp [go_sem]) (by simp [hu,qab hu,go_sem]) (by simp [go_sem])) ?_
 intro n hn hI
 have hw:=qax hn (show _≤68719476736 by omega)
 simp -dsimp [go_sem,hN]
 refine cnd ?_ ?_<;>intro hc<;>try simp at hc
 ·
  rw [qaf hc,procsE] at hI
  simp -dsimp [go_sem,hN,hc]
  refine qaa (c_ref13_Check l[n]) ?_
  simp -dsimp [go_sem,hN]
  refine cnd ?_ ?_<;>intro h1<;>simp at h1
  ·
   rw [if_pos (by omega)] at hI
   simp -dsimp [go_sem,hN]
   exact hI
  rw [if_neg (by omega)] at hI
  simp -dsimp [go_sem,hN]
  refine qag 14 mixed (by kernel_rfl) (by kernel_rfl) ?_
  cases n with
  | zero =>
   simp -dsimp [go_sem,hN,hc,hw,Proc.c]
   exact ⟨by simpa [qaz,hc,after] using hI,(Wk.mk (by simp [hh]) (by simp [go_sem]) (by simp [hu,qab hu,go_sem]) (by simp [go_sem]))⟩
  | succ m =>
   have hm:m<l.length:=by omega
   have hw2:=wrapN (Nat.le_of_lt hm) hb.1
   simp at hw
   simp -dsimp [go_sem,hN,hc,hm,hw2,Proc.c]
   refine ⟨by omega,cnd (fun hg=>?_) (fun hg=>?_)⟩<;>simp at hg
   ·
    simp -dsimp [go_sem,hN]
    rw [← hI]
    have h2:=(leS_iff _ _).1 (Or.symm (Or.symm hg))
    simp [qaz,hm,after,h2]
   ·
    have h2:sLt l[m].name l[m+1].name=true:=by
     rcases Bool.eq_false_or_eq_true (sLt l[m].name l[m+1].name) with g | g
     · exact g
     ·
      have:=(leS_iff _ _).2 g
      grind
    simp [qaz,hm,after,h2] at hI
    simp -dsimp [go_sem,hN,hw]
    exact ⟨hc,by simpa [qaz,hc] using hI,(Wk.mk (by simp [hh]) (by simp [go_sem]) (by simp [hu,qab hu,go_sem]) (by simp [go_sem]))⟩
 ·
  rw [List.drop_eq_nil_of_le (by omega),procsE] at hI
  simp -dsimp [go_sem,hN,← hI]
theorem c_ref21_ValidTxns (l:List Txn):APure Tryz.prog 40 [.slice (l.map Txn.c)] (I (txnsErr l)):=by
 refine qaj Tryz.func40 Tryz.ntmps40 rfl (by kernel_rfl) rfl rfl fun E h hN hh hu hb=>?_
 simp [go_sem] at hb
 simp -dsimp [go_sem,hN]
 refine cnd ?_ ?_<;>intro h0<;>simp at h0
 ·
  simp -dsimp [go_sem,hN,txnsErr]
  omega
 simp -dsimp [go_sem,hN]
 have hP:txnsErr l=txnsE none l:=by rw [txnsErr,if_neg (by omega)]
 refine qah l.length (fun n=>txnsE ((qaz l n).map Txn.id) (l.drop n)=txnsErr l) (fun n=>⟨[(0,.slice (l.map Txn.c)),(3,I n)],h⟩) (by simp [qaz,hP]) (Wk.mk (by simp [hh]) (by simp [go_sem]) (by simp [hu,qab hu,go_sem]) (by simp [go_sem])) ?_
 intro n hn hI
 have hw:=qax hn (show _≤68719476736 by omega)
 simp -dsimp [go_sem,hN]
 refine cnd ?_ ?_<;>intro hc<;>try simp at hc
 ·
  rw [qaf hc,txnsE] at hI
  simp -dsimp [go_sem,hN,hc,Txn.c]
  refine qae (c_ref19_Valid l[n].ft) (by simp) ?_
  simp -dsimp [go_sem,hN]
  refine ⟨by grind,cnd (fun h1=>?_) (fun h1=>?_)⟩<;>simp at h1
  ·
   rw [if_pos (by unfold txnOk;grind)] at hI
   simp -dsimp [go_sem,hN]
   exact hI
  rw [if_neg (by unfold txnOk;grind)] at hI
  simp -dsimp [go_sem,hN]
  refine qag 11 mixed (by kernel_rfl) (by kernel_rfl) ?_
  cases n with
  | zero =>
   simp -dsimp [go_sem,hN,hc,hw,Txn.c]
   exact ⟨by simpa [qaz,hc] using hI,(Wk.mk (by simp [hh]) (by simp [go_sem]) (by simp [hu,qab hu,go_sem]) (by simp [go_sem]))⟩
  | succ m =>
   have hm:m<l.length:=by omega
   have hw2:=wrapN (Nat.le_of_lt hm) hb.1
   simp at hw
   simp -dsimp [go_sem,hN,hc,hm,hw2,Txn.c]
   refine cnd ?_ ?_<;>intro hg<;>simp at hg
   ·
    simp -dsimp [go_sem,hN]
    rw [← hI]
    simp [qaz,hm,hg]
   ·
    simp [qaz,hm,show ¬ l[m+1].id≤l[m].id by omega] at hI
    simp -dsimp [go_sem,hN,hw]
    exact ⟨hc,by simpa [qaz,hc] using hI,(Wk.mk (by simp [hh]) (by simp [go_sem]) (by simp [hu,qab hu,go_sem]) (by simp [go_sem]))⟩
 ·
  rw [List.drop_eq_nil_of_le (by omega),txnsE] at hI
  simp -dsimp [go_sem,hN,← hI]
theorem c_ref21_Batch0 (procs:List Proc) (s:List Pr) (l:List Txn) (h:qac) (hB:BatchIn qba procs l) (hs:rngL s) (hL:s.length+192 * l.length≤60000000000) :
  ACalls Tryz.prog 28 [.slice (procs.map Proc.c),.slice (s.map Pr.c),.slice (l.map Txn.c)] h fun r h'=>r=.ret (.tuple [.slice ((batchS qba procs s l).1.map Pr.c),.own h.length l.length])∧h'=h++[.uarr 61 5 ((batchS qba procs s l).2.map Res.c)]:=by
 refine qem Tryz.func28 rfl (by kernel_rfl) (by simp [Tryz.ntmps28]) ?_
 intro E hN hh hu hb hb' hua
 rw [Tryz.ntmps28] at hN
 simp [go_sem] at hb
 refine qa0 (qd3 ?_)
 simp [go_sem,hN]
 refine qa0 (qbv [_,_] _ ?_)
 simp [go_sem,hN]
 intro c a w sm k
 refine wp_makeT sm k (el:=61) (x:=.tmp 17) (d1:=18) (n:=l.length) (sz:=5) (zr:=[I 0,I 0,I 0,I 0,.slice []]) rfl rfl (by omega) rfl (by simp [go_sem]) (by simp [go_sem]) (by simp [go_sem]) (by omega) (by simp [go_sem]) (by simp [go_sem]) (by simp [go_sem,nilz]) (by simp [go_sem]) (by simp [go_sem]) (by omega) fun c' a' w' s' k'=>?_
 refine qa1 _ [_,_,_] _ rfl ?_ c' a' w' s' k'
 simp [go_sem,hN]
 refine qa0 (qbv [_,_] _ ?_)
 simp [go_sem,hN]
 intro c a w sm k
 refine wp_makeT sm k (el:=3) (x:=.tmp 20) (d1:=21) (n:=l.length) (sz:=1) (zr:=[I 0]) rfl rfl (by omega) rfl (by simp [go_sem]) (by simp [go_sem]) (by simp [go_sem]) (by omega) (by simp [go_sem]) (by simp [go_sem]) (by simp [go_sem,nilz]) (by simp [go_sem]) (by simp [go_sem]) (by omega) fun c' a' w' s' k'=>?_
 refine qa1 _ [_,_,_] _ rfl ?_ c' a' w' s' k'
 simp [go_sem,hN]
 apply qao
 simp -dsimp [go_sem,hN]
 refine qah l.length (fun n=>True) (fun n=>⟨[(0,.slice (procs.map Proc.c)),(1,.slice (s.map Pr.c)),(2,.slice (l.map Txn.c)),(8,.own h.length l.length),(9,.own (h.length+1) l.length),(10,I n)],h++[.uarr 61 5 ((List.replicate l.length Res.z).map Res.c),.uarr 3 1 (atN l.length n)]⟩) trivial ?_ ?_
 ·
  rw [atN_0,List.map_replicate]
  exact (Wk.mk (by simp [hh]) (by simp [go_sem,Res.z,Res.c]) (by simp [hu,qab hu,go_sem]) (by simp [go_sem]))
 ·
  intro n hn _
  have hw:=qax hn (show _≤68719476736 by omega)
  have hal:=atN_len hn
  simp -dsimp [go_sem,hN]
  refine cnd ?_ ?_<;>intro hc<;>simp at hc
  ·
   have hset:=atN_set hc
   have hat:=fun h'=>atN_get hc h'
   simp -dsimp [go_sem,hN,hc,hal,hat,hset,hw]
   exact (Wk.mk (by simp [hh]) (by simp [go_sem]) (by simp [hu,qab hu,go_sem]) (by simp [go_sem]))
  ·
   have hn2:n=l.length:=by omega
   subst hn2
   rw [atN_end]
   simp -dsimp [go_sem,hN]
   refine awp_loopM (α:=BSt) (fun x=>BOk qba procs s l x) (fun x=>⟨[(0,.slice (procs.map Proc.c)),(1,.slice (x.s.map Pr.c)),(2,.slice (x.l.map Txn.c)),(8,.own h.length l.length),(9,.slice (x.is.map nRow))],h++[.uarr 61 5 (x.out.map Res.c)]⟩) (fun x=>x.k) (b0 s l) (b0_ok hB hs hL) ?_ ?_
   ·
    refine (qc6 E _ (i:=h.length+1) (t:=3) (sz:=1) (rows:=(List.range l.length).map nRow) (by simp)).trans ?_
    simp
    refine (norm_wk E _).trans ?_
    exact Wk.mk (by simp [hh]) (by simp [go_sem,b0]) (by simp [hu,qab hu,go_sem]) (by simp [go_sem,AV.norm,qbf,wkT,b0])
   intro x hx
   have hxl:x.l.length≤68719476736:=by have:=hx.ll;omega
   simp -dsimp [go_sem,hN]
   refine cnd ?_ ?_<;>intro hc<;>simp at hc
   ·
    have hne:x.l≠[]:=fun e=>by rw [e] at hc;simp at hc
    obtain ⟨hnx,hlt⟩:=bNext_ok hx hne
    have hsl:=hx.sl
    have hll:=hx.ll
    have hk1:0<x.k:=by omega
    have hmul:l.length≤l.length * x.k:=Nat.le_mul_of_pos_right _ hk1
    have hround:=c_ref21_Round procs x.s x.l hx.inn hx.rng (by omega)
    have hcnt:=round_cnt (fmt:=qba) procs x.s x.l
    have hrr:=(qdf (fmt:=qba) (procs:=procs) (l:=x.l) hx.rng hx.inn x.l.length (Nat.le_refl _)).1
    rw [List.take_length] at hrr
    unfold bNext at hnx hlt
    obtain ⟨R,hR⟩:∃ R,qbb qba procs x.s x.l=R:=⟨_,rfl⟩
    rw [hR] at hcnt hrr hround
    simp only [hR] at hnx hlt
    simp -dsimp [go_sem,hN]
    refine qaa hround ?_
    simp -dsimp [go_sem,hN]
    obtain ⟨Y,hY⟩:∃ Y,qcm qba procs R.1 x.l R.2 x.is (x.out,[],[])=Y:=⟨_,rfl⟩
    rw [hY] at hnx
    refine qar (α:=List Res×List Txn×List Nat) x.l.length (fun n y=>qcm qba procs R.1 (x.l.drop n) (R.2.drop n) (x.is.drop n) y=Y∧y.1.length=l.length∧y.2.1.length≤n∧y.2.2.length=y.2.1.length) (fun n y=>⟨[(0,.slice (procs.map Proc.c)),(1,.slice (R.1.map Pr.c)),(2,.slice (x.l.map Txn.c)),(8,.own h.length l.length),(9,.slice (x.is.map nRow)),(12,.slice (R.2.map Eff.c)),(13,.own (h.length+1) y.2.1.length),(14,.own (h.length+2) y.2.2.length),(15,I n)],h++[.uarr 61 5 (y.1.map Res.c),.arr 41 7 (y.2.1.map Txn.c),.arr 3 1 (y.2.2.map nRow)]⟩) (x.out,[],[]) ⟨by simpa using hY,hx.ol,by simp,rfl⟩ ((nil_wk E _ 13 41 7 (by simp [go_sem])).trans ((nil_wk E _ 14 3 1 (by simp [go_sem])).trans ?_)) ?_
    · exact (Wk.mk (by simp [hh]) (by simp [go_sem]) (by simp [hu,qab hu,go_sem]) (by simp [go_sem]))
    rintro n ⟨out,nx,lf⟩ hn ⟨hI,ho,hnl,hlf⟩
    have hw2:=qax hn (show _≤68719476736 by omega)
    dsimp only at ho hnl hlf ⊢
    simp -dsimp [go_sem,hN]
    refine cnd ?_ ?_<;>intro hd<;>simp at hd
    ·
     have hd2:n<R.2.length:=by omega
     have hd3:n<x.is.length:=by rw [hx.len];exact hd
     have hil:x.is[n]<l.length:=hx.lt _ (List.getElem_mem hd3)
     have hil2:x.is[n]<out.length:=by omega
     rw [qaf hd,qaf hd2,qaf hd3,qcm] at hI
     have hres:(out.map Res.c).set x.is[n] [I x.l[n].id,I x.l[n].att,I R.2[n].status,I R.2[n].code,.slice (R.2[n].out.map V.c)]=(out.set x.is[n] (resOf x.l[n] R.2[n])).map Res.c:=map_set Res.c out _ (resOf x.l[n] R.2[n])
     have hretry:=c_ref21_Retry procs R.1 x.l[n] (fun p hp=>⟨hx.inn.fmt,hx.inn.body p hp,hx.inn.args _ (List.getElem_mem hd),hrr⟩)
     obtain ⟨t2,ht2⟩:∃ t2,qdb qba procs R.1 x.l[n]=t2:=⟨_,rfl⟩
     rw [ht2] at hI hretry
     simp -dsimp [go_sem,hN,hd,Txn.c]
     refine qag 21 mixed (by kernel_rfl) (by kernel_rfl) ?_
     simp -dsimp [go_sem,hN,hd,hd2,hd3,hil,hil2,ho,Txn.c,Eff.c,nRow,hres]
     refine cnd ?_ ?_<;>intro h1<;>simp at h1
     ·
      rw [if_pos h1] at hI
      simp -dsimp [go_sem,hN,hd,Txn.c]
      refine qaa hretry ?_
      simp -dsimp [go_sem,hN,hd3,hw2,Txn.c,nRow]
      exact ⟨by omega,by omega,hd,out.set x.is[n] (resOf x.l[n] R.2[n]),nx++[t2],lf++[x.is[n]],⟨hI,by simpa using ho,by simp;omega,by simp [hlf]⟩,(Wk.mk (by simp [hh]) (by simp [go_sem,Res.c,resOf,Txn.c,nRow]) (by simp [hu,qab hu,go_sem]) (by simp [go_sem]))⟩
     ·
      rw [if_neg h1] at hI
      simp -dsimp [go_sem,hN,hw2]
      exact ⟨hd,out.set x.is[n] (resOf x.l[n] R.2[n]),nx,lf,⟨hI,by simpa using ho,by omega,hlf⟩,(Wk.mk (by simp [hh]) (by simp [go_sem,Res.c,resOf,Txn.c,nRow]) (by simp [hu,qab hu,go_sem]) (by simp [go_sem]))⟩
    ·
     have hn2:n=x.l.length:=by omega
     subst hn2
     rw [List.drop_length,qcm] at hI
     ·
      subst hI
      simp -dsimp [go_sem,hN]
      refine ⟨_,hnx,hlt,(norm_wk E _).trans (Wk.mk (by simp [hh]) (by simp [go_sem]) (by simp [hu,qab hu,go_sem]) (by simp [go_sem,AV.norm,qbf,wkT]))⟩
     · simp
   ·
    have hl0:x.l=[]:=hc
    have hfin:=hx.eq
    rw [hl0,batch_done] at hfin
    rw [← hfin]
    simp -dsimp [go_sem,hN]
    exact ⟨_,.refl _,h++[.uarr 61 5 (x.out.map Res.c)],by simp [go_sem],by simp [go_sem],by simp,by simp [qab hu,go_sem],rfl,rfl⟩
theorem c_ref21_Batch (procs:List Proc) (s:List Pr) (l:List Txn) (h:qac) (hB:BatchIn qba procs l) (hs:rngL s) (hL:s.length+192 * l.length≤60000000000) :
  ACalls Tryz.prog 28 [.slice (procs.map Proc.c),.slice (s.map Pr.c),.slice (l.map Txn.c)] h fun r h'=>r=.ret (.tuple [.slice ((batchS qba procs s l).1.map Pr.c),.slice ((batchS qba procs s l).2.map Res.c)])∧h'=h:=by
 have hlen:=(batch_ends (fmt:=qba) (procs:=procs) (s:=s) l).1
 have core:=c_ref21_Batch0 procs s l h hB hs hL
 refine ⟨core.1,fun cx wx vx hsx hax=>?_⟩
 have hu:=hsx.hUnder
 refine (acalls_ret (fun E hE=>?_) core).2 cx wx vx hsx hax
 refine (qc6 E _ (i:=h.length) (t:=61) (sz:=5) (rows:=(batchS qba procs s l).2.map Res.c) (by simp)).trans ?_
 simp
 refine (norm_wk E _).trans ?_
 exact Wk.mk (by simp [hE]) (by simpa [go_sem] using hwk.app0 _) (by simpa using hu) (by simp [go_sem,AV.norm,qbf,wkT,hlen])
end Go.Proofs.YtdbpbpmikpdjcaaGreatDoor

set_option maxRecDepth 8000
set_option maxHeartbeats 2000000
namespace Go.Proofs.YtdbpbpmikpdjcaaGreatDoor
open Go Go.Abs Go.Cw
section
variable {tT:TypeId} {tx:Nat×Nat} {g:Nat}
theorem c_same15_refl (e:Eff):APure Tryz.prog 22 [.agg e.c,.agg e.c] (Bo true):=by
 have:=c_ref15_Same e e
 rwa [sameE_refl] at this
theorem c_law21_SerialOnes (procs:List Proc) (s:List Pr) (t:Txn) (h:qac) (hg:h[g]?=some (tabO tT tx)) (hB:BatchIn qba procs [t]) (hs:rngL s) (hL:s.length+192≤60000000000) :
  ACalls Tryz.prog 4 [.slice (procs.map Proc.c),.slice (s.map Pr.c),.agg t.c] h fun r h'=>r=.ret (Bo true)∧h'=h:=by
 refine qas Tryz.func4 Tryz.ntmps4 rfl (by kernel_rfl) rfl fun E hN hh hu hb hb' hua=>?_
 have hgl:g<h.length:=(List.getElem?_eq_some_iff.1 hg).1
 have hg':∀ l:qac,(h++l)[g]?=some (tabO tT tx):=fun l=>by rw [List.getElem?_append_left hgl];exact hg
 have hone:=fun H hH=>c_serial_One (g:=g) (tT:=tT) (tx:=tx) procs s t H hH (runIn_one hB hs (by simp)) (by omega)
 have href:=c_ref21_One procs s t (runIn_one hB hs (by simp)) (by omega)
 obtain ⟨X,hX⟩:∃ X,oneS qba procs s t=X:=⟨_,rfl⟩
 simp only [hX] at hone
 rw [hX] at href
 simp -dsimp [go_sem,hN,Txn.c]
 refine qam (hone _ (hg' _)) ?_
 rintro r h' ⟨rfl,he⟩
 rw [he]
 simp -dsimp [go_sem,hN,Eff.c,Txn.c]
 refine qaa href ?_
 simp -dsimp [go_sem,hN,Eff.c]
 refine qaa (c_same_reflS X.1) ?_
 simp -dsimp [go_sem,hN]
 refine qae (c_same15_refl X.2) (by simp) ?_
 simp -dsimp [go_sem,hN]
 refine tgcall_true (by simp) ((qc7 _ (hg' _)).mono ?_)
 rintro r h' ⟨rfl,rfl⟩
 simp -dsimp [go_sem,hN]
 exact ⟨_,.refl _,h,by simp [go_sem],hwk.app0 _,Nat.le_refl _,hu,rfl,rfl⟩
theorem c_law21_SerialRounds (procs:List Proc) (s:List Pr) (l:List Txn) (h:qac) (hg:h[g]?=some (tabO tT tx)) (hB:BatchIn qba procs l) (hs:rngL s) (hL:s.length+192 * l.length≤60000000000) :
  ACalls Tryz.prog 10 [.slice (procs.map Proc.c),.slice (s.map Pr.c),.slice (l.map Txn.c)] h fun r h'=>r=.ret (Bo true)∧h'=h:=by
 refine qas Tryz.func10 Tryz.ntmps10 rfl (by kernel_rfl) rfl fun E hN hh hu hb hb' hua=>?_
 have hround:=fun H hH=>c_serial_Round (g:=g) (tT:=tT) (tx:=tx) procs s l H hH hB hs (by omega)
 have href:=c_ref21_Round procs s l hB hs (by omega)
 obtain ⟨X,hX⟩:∃ X,qbb qba procs s l=X:=⟨_,rfl⟩
 simp only [hX] at hround
 rw [hX] at href
 simp -dsimp [go_sem,hN]
 refine qam (hround _ hg) ?_
 rintro r h' ⟨rfl,he⟩
 rw [he]
 simp -dsimp [go_sem,hN]
 refine qaa href ?_
 simp -dsimp [go_sem,hN]
 refine qaa (c_same_reflS X.1) ?_
 simp -dsimp [go_sem,hN]
 refine qae (c_effs_reflS X.2) (by simp) ?_
 simp -dsimp [go_sem,hN]
 refine tgcall_true (by simp) ((qc7 _ hg).mono ?_)
 rintro r h' ⟨rfl,rfl⟩
 simp -dsimp [go_sem,hN]
 exact ⟨_,.refl _,h',by simp [go_sem],hwk.refl _,Nat.le_refl _,hu,rfl,rfl⟩
theorem c_law21_SerialRetries (procs:List Proc) (s:List Pr) (t:Txn) (h:qac) (hg:h[g]?=some (tabO tT tx)) (hB:BatchIn qba procs [t]) (hs:rngL s) (hL:s.length+192≤60000000000) :
  ACalls Tryz.prog 5 [.slice (procs.map Proc.c),.slice (s.map Pr.c),.agg t.c] h fun r h'=>r=.ret (Bo true)∧h'=h:=by
 refine qas Tryz.func5 Tryz.ntmps5 rfl (by kernel_rfl) rfl fun E hN hh hu hb hb' hua=>?_
 have hgl:g<h.length:=(List.getElem?_eq_some_iff.1 hg).1
 have hg':∀ l:qac,(h++l)[g]?=some (tabO tT tx):=fun l=>by rw [List.getElem?_append_left hgl];exact hg
 have ha:∀ v∈t.args,qdi v:=hB.args t (by simp)
 have hI:∀ p∈procs,RunIn qba p t.args s:=fun p hp=>⟨hB.fmt,hB.body p hp,ha,hs⟩
 have hretry:=fun H hH=>c_serial_Retry (g:=g) (tT:=tT) (tx:=tx) procs s t H hH hI
 have href:=c_ref21_Retry procs s t hI
 have hid:(qdb qba procs s t).id=t.id∧(qdb qba procs s t).proc=t.proc∧(qdb qba procs s t).args=t.args:=by
  unfold qdb
  split
  · exact ⟨rfl,rfl,rfl⟩
  · split<;>exact ⟨rfl,rfl,rfl⟩
 obtain ⟨R,hR⟩:∃ R,qdb qba procs s t=R:=⟨_,rfl⟩
 simp only [hR] at hretry
 rw [hR] at href hid
 obtain ⟨i1,i2,i3⟩:=hid
 have hf:(decide (R.ft.all=R.ft.all)&&qcn eqB R.ft.reads R.ft.reads&&qcn eqB R.ft.writes R.ft.writes)=true:=by
  simp [sameL_refl (f:=eqB) (fun x=>by simp [eqB])]
 have hsame:=c_ref19_Same R.ft R.ft
 rw [hf] at hsame
 simp -dsimp [go_sem,hN,Txn.c]
 refine qam (hretry _ (hg' _)) ?_
 rintro r h' ⟨rfl,he⟩
 rw [he]
 simp -dsimp [go_sem,hN,Txn.c]
 refine qaa href ?_
 simp -dsimp [go_sem,hN,Txn.c,i1,i2,i3]
 refine qae hsame (by simp) ?_
 simp -dsimp [go_sem,hN]
 refine tgcall_true (by simp) ((qc7 _ (hg' _)).mono ?_)
 rintro r h' ⟨rfl,rfl⟩
 simp -dsimp [go_sem,hN]
 exact ⟨_,.refl _,h,by simp [go_sem],hwk.app0 _,Nat.le_refl _,hu,rfl,rfl⟩
def resEff (r:Res):Eff:=⟨r.status,r.code,r.out,[],[],[],em,0⟩
theorem c_law21_outcomes (r:Res):APure Tryz.prog 61 [.agg [I r.status,I r.code,.slice (r.out.map V.c)],.agg [I r.status,I r.code,.slice (r.out.map V.c)]] (Bo true):=by
 refine qaj Tryz.func61 Tryz.ntmps61 rfl (by kernel_rfl) rfl rfl fun E h hN hh hu hb=>?_
 have hs:=c_same15_refl (resEff r)
 simp only [resEff,Eff.c,List.map_nil] at hs
 simp -dsimp [go_sem,hN]
 refine qaa hs ?_
 simp -dsimp [go_sem,hN]
theorem c_law21_results (l:List Res):APure Tryz.prog 29 [.slice (l.map Res.c),.slice (l.map Res.c)] (Bo true):=by
 refine qaj Tryz.func29 Tryz.ntmps29 rfl (by kernel_rfl) rfl rfl fun E h hN hh hu hb=>?_
 simp [go_sem] at hb
 simp -dsimp [go_sem,hN]
 refine qah l.length (fun n=>True) (fun n=>⟨[(0,.slice (l.map Res.c)),(1,.slice (l.map Res.c)),(5,I n)],h⟩) trivial (Wk.mk (by simp [hh]) (by simp [go_sem]) (by simp [hu,qab hu,go_sem]) (by simp [go_sem])) ?_
 intro n hn _
 have hw:=qax hn (show _≤68719476736 by omega)
 simp -dsimp [go_sem,hN]
 refine cnd ?_ ?_<;>intro hc<;>simp at hc
 ·
  simp -dsimp [go_sem,hN,hc]
  refine qag 35 mixed (by kernel_rfl) (by kernel_rfl) ?_
  simp -dsimp [go_sem,hN,hc,Res.c]
  refine qae (c_law21_outcomes l[n]) (by simp) ?_
  simp -dsimp [go_sem,hN,hw]
  exact ⟨hc,(Wk.mk (by simp [hh]) (by simp [go_sem]) (by simp [hu,qab hu,go_sem]) (by simp [go_sem]))⟩
 · simp -dsimp [go_sem,hN]
theorem c_law21_SerialBatches (procs:List Proc) (s:List Pr) (l:List Txn) (h:qac) (hg:h[g]?=some (tabO tT tx)) (hB:BatchIn qba procs l) (hs:rngL s) (hL:s.length+192 * l.length≤60000000000) :
  ACalls Tryz.prog 6 [.slice (procs.map Proc.c),.slice (s.map Pr.c),.slice (l.map Txn.c)] h fun r h'=>r=.ret (Bo true)∧h'=h:=by
 refine qas Tryz.func6 Tryz.ntmps6 rfl (by kernel_rfl) rfl fun E hN hh hu hb hb' hua=>?_
 have hbat:=fun H hH=>c_serial_Batch (g:=g) (tT:=tT) (tx:=tx) procs s l H hH hB hs hL
 have href:=fun H=>c_ref21_Batch procs s l H hB hs hL
 obtain ⟨Y,hY⟩:∃ Y,batchS qba procs s l=Y:=⟨_,rfl⟩
 simp only [hY] at hbat href
 simp -dsimp [go_sem,hN]
 refine qam (hbat _ hg) ?_
 rintro r h' ⟨rfl,he⟩
 rw [he]
 simp -dsimp [go_sem,hN]
 refine qam (href _) ?_
 rintro r h' ⟨rfl,he⟩
 rw [he]
 simp -dsimp [go_sem,hN]
 refine qaa (c_same_reflS Y.1) ?_
 simp -dsimp [go_sem,hN]
 refine qae (c_law21_results Y.2) (by simp) ?_
 simp -dsimp [go_sem,hN]
 refine tgcall_true (by simp) ((qc7 _ hg).mono ?_)
 rintro r h' ⟨rfl,rfl⟩
 simp -dsimp [go_sem,hN]
 exact ⟨_,.refl _,h',by simp [go_sem],hwk.refl _,Nat.le_refl _,hu,rfl,rfl⟩
theorem c_law21_alike (p:Proc):APure Tryz.prog 36 [.agg p.c,.agg p.c] (Bo true):=by
 refine qaj Tryz.func36 Tryz.ntmps36 rfl (by kernel_rfl) rfl rfl fun E h hN hh hu hb=>?_
 simp -dsimp [go_sem,hN,Proc.c]
theorem c_law21_SerialFinds (procs:List Proc) (name:qad) (l:List Txn) (h:qac) (hg:h[g]?=some (tabO tT tx)) :
  ACalls Tryz.prog 12 [.slice (procs.map Proc.c),S name,.slice (l.map Txn.c)] h fun r h'=>r=.ret (Bo true)∧h'=h:=by
 refine qas Tryz.func12 Tryz.ntmps12 rfl (by kernel_rfl) rfl fun E hN hh hu hb hb' hua=>?_
 have hgl:g<h.length:=(List.getElem?_eq_some_iff.1 hg).1
 have hg':∀ l:qac,(h++l)[g]?=some (tabO tT tx):=fun l=>by rw [List.getElem?_append_left hgl];exact hg
 have h1:=c_serial_Find procs name
 have h2:=c_ref21_Find procs name
 obtain ⟨F,hF⟩:∃ F,findN procs name=F:=⟨_,rfl⟩
 rw [hF] at h1 h2
 obtain ⟨q,hq⟩:∃ q,F.getD noProc=q:=⟨_,rfl⟩
 obtain ⟨b,hb1⟩:∃ b,F.isSome=b:=⟨_,rfl⟩
 rw [hq,hb1] at h1 h2
 simp -dsimp [go_sem,hN]
 refine qaa h1 ?_
 simp -dsimp [go_sem,hN]
 refine qaa h2 ?_
 simp -dsimp [go_sem,hN]
 refine qae (c_law21_alike q) (by simp) ?_
 simp -dsimp [go_sem,hN]
 refine qae (c_serial_ValidProcs procs) (by simp) ?_
 simp -dsimp [go_sem,hN]
 refine qae (c_ref21_ValidProcs procs) (by simp) ?_
 simp -dsimp [go_sem,hN]
 refine qae (c_serial_ValidTxns l) (by simp) ?_
 simp -dsimp [go_sem,hN]
 refine qae (c_ref21_ValidTxns l) (by simp) ?_
 simp -dsimp [go_sem,hN]
 refine tgcall_true (by simp) ((qc7 _ (hg' _)).mono ?_)
 rintro r h' ⟨rfl,rfl⟩
 simp -dsimp [go_sem,hN]
 exact ⟨_,.refl _,h,by simp [go_sem],hwk.app0 _,Nat.le_refl _,hu,rfl,rfl⟩
end
end Go.Proofs.YtdbpbpmikpdjcaaGreatDoor
