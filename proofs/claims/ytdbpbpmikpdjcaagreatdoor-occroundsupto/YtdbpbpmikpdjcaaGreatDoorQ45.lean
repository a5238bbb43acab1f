/- Part 45 of a proof: W43, W47, W48, W59, W53 -/
import Derived.Test.YtdbpbpmikpdjcaaGreatDoorQ18
import Derived.Test.YtdbpbpmikpdjcaaGreatDoorQ25
import Derived.Test.YtdbpbpmikpdjcaaGreatDoorQ29
import Derived.Test.YtdbpbpmikpdjcaaGreatDoorQ31
import Derived.Test.YtdbpbpmikpdjcaaGreatDoorQ39
import Derived.Test.YtdbpbpmikpdjcaaGreatDoorQ40
import Derived.Test.YtdbpbpmikpdjcaaGreatDoorQ41
import Derived.Test.YtdbpbpmikpdjcaaGreatDoorQ42
import Derived.Test.YtdbpbpmikpdjcaaGreatDoorQ44
set_option linter.all false

set_option maxRecDepth 4000
set_option maxHeartbeats 2000000
namespace Go.Proofs.YtdbpbpmikpdjcaaGreatDoor
open Go Go.Abs Go.Cw
theorem c_ref12_nondeterministic (op:Int):APure Tryz.prog 178 [I op] (Bo (nonDet op)):=by
 refine qak Tryz.func178 Tryz.ntmps178 rfl (by kernel_rfl) rfl rfl fun E h hN hh hu hb=>?_
 simp -dsimp [go_sem,hN,nonDet]
 try grind
theorem ops_len (e:Ex):(opsE e).length=nodes e:=by simp [opsE,nodes]
theorem rootV_len:∀ l:List Vt,(rootV l).length≤l.length
 | []=>by simp [rootV]
 | v::l=>by
  have:=rootV_len l
  rw [rootV]
  split<;>simp<;>omega
theorem c_ref12_Ops (e:Ex) (hB:nodes e≤1000000):APure Tryz.prog 177 [.agg e.x] (.slice ((opsE e).map iRow)):=by
 refine qd3 Tryz.func177 rfl (by kernel_rfl) (by simp [Tryz.ntmps177]) rfl ?_
 intro E h hN hh hu hb
 rw [Tryz.ntmps177] at hN
 simp [go_sem] at hb
 refine qcu (awp_ops ?_)
 simp [go_sem,hN]
 refine qcu (awp_opsT [_,_] _ ?_)
 simp [go_sem,hN]
 intro c a w s k
 refine wp_lit1 s k (x:=.tmp 6) (el:=3) (d1:=7) rfl rfl (by omega) rfl (by simp [go_sem]) (by simp [go_sem]) (by simp [go_sem]) (by simp [go_sem]) (v:=.int .i64 e.op) (by simp [go_sem]) rfl fun c' a' w' s' k'=>?_
 refine qcr _ [_,_,_] _ rfl ?_ c' a' w' s' k'
 simp [go_sem,hN]
 apply qa3
 simp -dsimp [go_sem,hN]
 refine qat (α:=List Int) e.args.length (fun n o=>o++opsL (e.args.drop n)=opsE e∧o.length+nodesL (e.args.drop n)≤1000000) (fun n o=>⟨[(1,P0 h.length),(3,.own (h.length+1) o.length),(4,I n)],h++[.cells e.x,.arr 3 1 (o.map iRow)]⟩) [e.op] ⟨by rw [opsE_eq];simp,by have:=nodes_eq e;simp;omega⟩ (Wk.mk (by simp [hh]) (by simp [go_sem]) (by simp [hu,qab hu,go_sem]) (by simp [go_sem])) ?_
 rintro n o hn ⟨hI,ho⟩
 have hw:=qav hn (show _≤68719476736 by first | exact hb.2.1 | omega)
 simp -dsimp [go_sem,hN]
 refine cnd ?_ ?_<;>intro hc<;>simp at hc
 ·
  rw [qae hc,opsL_cons] at hI
  rw [qae hc,nodesL_cons] at ho
  have hlt:SizeOf.sizeOf e.args[n]<SizeOf.sizeOf e:=Ex.arg_lt (List.getElem_mem hc)
  have hOps:=c_ref12_Ops e.args[n] (by omega)
  have hol:(opsE e.args[n]).length=nodes e.args[n]:=ops_len _
  obtain ⟨O,hO⟩:∃ O,opsE e.args[n]=O:=⟨_,rfl⟩
  rw [hO] at hI hol hOps
  simp -dsimp [go_sem,hN,hc]
  refine qaa hOps ?_
  simp -dsimp [go_sem,hN,hc,hw]
  refine ⟨by omega,o++O,⟨by rw [List.append_assoc];exact hI,by simp;omega⟩,(Wk.mk (by simp [hh]) (by simp [go_sem]) (by simp [hu,qab hu,go_sem]) (by simp [go_sem]))⟩
 ·
  rw [List.drop_eq_nil_of_le (by omega)] at hI
  have hI':o=opsE e:=by rw [← hI];simp [preL]
  obtain ⟨O,hO⟩:∃ O,opsE e=O:=⟨_,rfl⟩
  rw [hO] at hI' ⊢
  simp -dsimp [go_sem,hN,hI']
  rw [← hO]
  simp
termination_by SizeOf.sizeOf e
theorem c_ref12_First (p:Proc):APure Tryz.prog 142 [.agg p.c] (.tuple [I (firstP p).1,I (firstP p).2.1,Bo (firstP p).2.2]):=by
 refine qak Tryz.func142 Tryz.ntmps142 rfl (by kernel_rfl) rfl rfl fun E h hN hh hu hb=>?_
 simp -dsimp [go_sem,hN]
 refine qaa (c_ref08_Validate p) ?_
 simp -dsimp [go_sem,hN]
 refine cnd ?_ ?_<;>intro h0<;>simp at h0
 · simp -dsimp [go_sem,hN,firstP,h0]
 have hk:∀ x∈qb3 p,nodes x≤4096:=fun x hx=>by
  have:=chkE_nodes x 1 12 (exprs_ok h0 x hx) (by omega)
  omega
 have hlen:(qb3 p).length≤401:=by
  rw [exprsP_walk]
  have h1:=(wkP_fold (keepS (σ:=Unit)) qbw p ()).1
  have h2:=rootV_len (wkP p)
  omega
 rw [firstP_eq h0]
 simp -dsimp [go_sem,hN]
 have hEx:=c_ref08_Exprs p
 rw [← exprsP_walk] at hEx
 obtain ⟨L,hL⟩:∃ L,qb3 p=L:=⟨_,rfl⟩
 rw [hL] at hk hlen hEx ⊢
 refine qaa hEx ?_
 simp -dsimp [go_sem,hN]
 obtain ⟨R,hR⟩:∃ R,firstI (opsL L) 0=R:=⟨_,rfl⟩
 rw [hR]
 refine qat (α:=Nat) L.length (fun n m=>firstI (opsL (L.drop n)) m=R∧m≤4096 * n) (fun n m=>⟨[(5,.slice (L.map Ex.c)),(6,I m),(7,I n)],h⟩) 0 ⟨by simpa using hR,by omega⟩ (Wk.mk (by simp [hh]) (by simp [go_sem]) (by simp [hu,qab hu,go_sem]) (by simp [go_sem])) ?_
 intro n m hn ⟨hI,hm⟩
 have hw:=qav hn (show _≤68719476736 by omega)
 simp -dsimp [go_sem,hN]
 refine cnd ?_ ?_<;>intro hc<;>simp at hc
 ·
  have hkn:=hk _ (List.getElem_mem hc)
  rw [qae hc,opsL_cons] at hI
  simp -dsimp [go_sem,hN,hc]
  have hOps:=c_ref12_Ops L[n] (by omega)
  have hol:(opsE L[n]).length≤4096:=by rw [ops_len];exact hkn
  obtain ⟨O,hO⟩:∃ O,opsE L[n]=O:=⟨_,rfl⟩
  rw [hO] at hI hol hOps
  refine qaa hOps ?_
  simp -dsimp [go_sem,hN]
  refine qai O.length (fun k=>firstI (O.drop k++opsL (L.drop (n+1))) ((m+k:Nat):Int)=R) (fun k=>⟨[(5,.slice (L.map Ex.c)),(6,I ((m+k:Nat):Int)),(7,I n),(8,.slice (O.map iRow)),(9,I k)],h⟩) (by simpa using hI) (Wk.mk (by simp [hh]) (by simp [go_sem]) (by simp [hu,qab hu,go_sem]) (by simp [go_sem])) ?_
  intro k hk2 hJ
  have hw2:=qav hk2 (show _≤68719476736 by omega)
  have hw3:IntKind.i64.wrap (((m+k:Nat):Int)+1)=((m+(k+1):Nat):Int):=by rw [wrapI (by omega) (by omega)];omega
  have hw4:IntKind.i64.wrap ((m:Int)+(k:Int)+1)=(m:Int)+((k:Int)+1):=by rw [wrapI (by omega) (by omega)];omega
  simp -dsimp [go_sem,hN]
  refine cnd ?_ ?_<;>intro hkc<;>simp at hkc
  ·
   rw [qae hkc,List.cons_append,firstI] at hJ
   simp -dsimp [go_sem,hN,hkc,iRow]
   refine qaa (c_ref12_nondeterministic O[k]) ?_
   simp -dsimp [go_sem,hN]
   refine cnd ?_ ?_<;>intro hg<;>try simp at hg
   ·
    rw [if_pos hg] at hJ
    simp -dsimp [go_sem,hN,hkc,iRow]
    rw [← hJ]
    exact ⟨rfl,rfl,rfl⟩
   ·
    rw [if_neg (by simp [hg])] at hJ
    simp -dsimp [go_sem,hN,hw2,hw3,hw4]
    exact ⟨hkc,by rw [← hJ];congr 1,(Wk.mk (by simp [hh]) (by simp [go_sem]) (by simp [hu,qab hu,go_sem]) (by simp [go_sem]))⟩
  ·
   have hkO:k=O.length:=by omega
   subst hkO
   rw [List.drop_eq_nil_of_le (by omega),List.nil_append] at hJ
   simp -dsimp [go_sem,hN,hw]
   exact ⟨hc,m+O.length,⟨hJ,by omega⟩,(Wk.mk (by simp [hh]) (by simp [go_sem]) (by simp [hu,qab hu,go_sem]) (by simp [go_sem]))⟩
 ·
  rw [List.drop_eq_nil_of_le (by omega)] at hI
  have:firstI (opsL []) m=(0,0,false):=rfl
  rw [this] at hI
  simp -dsimp [go_sem,hN]
  rw [← hI]
  exact ⟨rfl,rfl,rfl⟩
theorem c_ref12_Check (p:Proc):APure Tryz.prog 112 [.agg p.c] (I (detErr p)):=by
 refine qak Tryz.func112 Tryz.ntmps112 rfl (by kernel_rfl) rfl rfl fun E h hN hh hu hb=>?_
 simp -dsimp [go_sem,hN]
 refine qaa (c_ref11_Check p) ?_
 simp -dsimp [go_sem,hN]
 refine cnd ?_ ?_<;>intro h0<;>simp at h0
 · simp -dsimp [go_sem,hN,detErr,h0]
 simp -dsimp [go_sem,hN]
 refine qaa (c_ref12_First p) ?_
 simp -dsimp [go_sem,hN]
 refine cnd ?_ ?_<;>intro h1<;>try simp at h1
 · simp -dsimp [go_sem,hN,detErr,h0,h1]
 · simp -dsimp [go_sem,hN,detErr,h0,h1]
section
attribute [local go_sem] Cnt.c
theorem qa2 (n:Int):APure Tryz.prog 221 [I n] (I (cut n)):=by
 refine qak Tryz.func221 Tryz.ntmps221 rfl (by kernel_rfl) rfl rfl fun E h hN hh hu hb=>?_
 simp -dsimp [go_sem,hN]
 simp only [cut,mn]
theorem qcj (x y:Cnt):APure Tryz.prog 180 [.agg x.c,.agg y.c] (.agg (x.plus y).c):=by
 refine qak Tryz.func180 Tryz.ntmps180 rfl (by kernel_rfl) rfl rfl fun E h hN hh hu hb=>?_
 simp -dsimp [go_sem,hN]
 refine qah 23 mixed (by kernel_rfl) (by kernel_rfl) ?_
 simp -dsimp [go_sem,hN]
 first | refine qaa (qa2 _) ?_ | refine qay (qa2 _) (fun _=>trivial) ?_
 simp -dsimp [go_sem,hN]
 first | refine qaa (qa2 _) ?_ | refine qay (qa2 _) (fun _=>trivial) ?_
 simp -dsimp [go_sem,hN]
 first | refine qaa (qa2 _) ?_ | refine qay (qa2 _) (fun _=>trivial) ?_
 simp -dsimp [go_sem,hN]
 first | refine qaa (qa2 _) ?_ | refine qay (qa2 _) (fun _=>trivial) ?_
 simp -dsimp [go_sem,hN]
 simp [Cnt.plus,cut]
theorem c_ref13_greater (x y:Cnt):APure Tryz.prog 181 [.agg x.c,.agg y.c] (.agg (x.larger y).c):=by
 refine qak Tryz.func181 Tryz.ntmps181 rfl (by kernel_rfl) rfl rfl fun E h hN hh hu hb=>?_
 simp -dsimp [go_sem,hN]
 simp [Cnt.larger,mx]
theorem c_ref13_times (k:Int) (x:Cnt):APure Tryz.prog 182 [I k,.agg x.c] (.agg (Cnt.rtimes k x).c):=by
 refine qak Tryz.func182 Tryz.ntmps182 rfl (by kernel_rfl) rfl rfl fun E h hN hh hu hb=>?_
 simp -dsimp [go_sem,hN]
 refine qah 19 mixed (by kernel_rfl) (by kernel_rfl) ?_
 simp -dsimp [go_sem,hN]
 first | refine qaa (qa2 _) ?_ | refine qay (qa2 _) (fun _=>trivial) ?_
 simp -dsimp [go_sem,hN]
 first | refine qaa (qa2 _) ?_ | refine qay (qa2 _) (fun _=>trivial) ?_
 simp -dsimp [go_sem,hN]
 first | refine qaa (qa2 _) ?_ | refine qay (qa2 _) (fun _=>trivial) ?_
 simp -dsimp [go_sem,hN]
 first | refine qaa (qa2 _) ?_ | refine qay (qa2 _) (fun _=>trivial) ?_
 simp -dsimp [go_sem,hN]
 simp [Cnt.rtimes,cut]
theorem qd1 (e:Ex):APure Tryz.prog 222 [.agg e.x] (I (rgE e)):=by
 refine qak Tryz.func222 Tryz.ntmps222 rfl (by kernel_rfl) rfl rfl fun E h hN hh hu hb=>?_
 simp [go_sem] at hb
 rw [rgE_eq]
 obtain ⟨G,hG⟩:∃ G:Int,G=if e.op=22∨e.op=23∨e.op=24 then 1 else 0:=⟨_,rfl⟩
 rw [← hG]
 simp -dsimp [go_sem,hN]
 refine cnd (fun h1=>?_) (fun h1=>?_)
 ·
  have hv:G=1:=by rw [hG,if_pos (by simp at h1;omega)]
  simp -dsimp [go_sem,hN]
  refine qat (α:=Int) e.args.length (fun n m=>rgL (e.args.drop n) m=rgL e.args G) (fun n m=>⟨[(1,.ptr h.length 0),(3,I m),(4,I n)],h++[.cells e.x]⟩) G (by simp) (Wk.mk (by simp [hh]) (by simp [go_sem]) (by simp [hu,qab hu,go_sem]) (by simp [go_sem,hv])) ?_
  intro n m hn hI
  have hw:=qav hn hb.2.1
  simp -dsimp [go_sem,hN]
  refine cnd ?_ ?_<;>intro hc<;>simp at hc
  ·
   rw [qae hc,rgL] at hI
   have hlt:SizeOf.sizeOf e.args[n]<SizeOf.sizeOf e:=Ex.arg_lt (List.getElem_mem hc)
   simp -dsimp [go_sem,hN,hc]
   refine qaa (qd1 e.args[n]) ?_
   simp -dsimp [go_sem,hN]
   refine qaa (qa2 _) ?_
   simp -dsimp [go_sem,hN,hw]
   exact ⟨hc,_,hI,(Wk.mk (by simp [hh]) (by simp [go_sem]) (by simp [hu,qab hu,go_sem]) (by simp [go_sem]))⟩
  ·
   rw [List.drop_eq_nil_of_le (by omega),rgL] at hI
   simp -dsimp [go_sem,hN,hI]
 ·
  have hv:G=0:=by rw [hG,if_neg (by simp at h1;omega)]
  simp -dsimp [go_sem,hN]
  refine qat (α:=Int) e.args.length (fun n m=>rgL (e.args.drop n) m=rgL e.args G) (fun n m=>⟨[(1,.ptr h.length 0),(3,I m),(4,I n)],h++[.cells e.x]⟩) G (by simp) (Wk.mk (by simp [hh]) (by simp [go_sem]) (by simp [hu,qab hu,go_sem]) (by simp [go_sem,hv])) ?_
  intro n m hn hI
  have hw:=qav hn hb.2.1
  simp -dsimp [go_sem,hN]
  refine cnd ?_ ?_<;>intro hc<;>simp at hc
  ·
   rw [qae hc,rgL] at hI
   have hlt:SizeOf.sizeOf e.args[n]<SizeOf.sizeOf e:=Ex.arg_lt (List.getElem_mem hc)
   simp -dsimp [go_sem,hN,hc]
   refine qaa (qd1 e.args[n]) ?_
   simp -dsimp [go_sem,hN]
   refine qaa (qa2 _) ?_
   simp -dsimp [go_sem,hN,hw]
   exact ⟨hc,_,hI,(Wk.mk (by simp [hh]) (by simp [go_sem]) (by simp [hu,qab hu,go_sem]) (by simp [go_sem]))⟩
  ·
   rw [List.drop_eq_nil_of_le (by omega),rgL] at hI
   simp -dsimp [go_sem,hN,hI]
termination_by SizeOf.sizeOf e
theorem c_ref13_own (t:St):APure Tryz.prog 179 [.agg t.x] (.agg (rown t).c):=by
 refine qak Tryz.func179 Tryz.ntmps179 rfl (by kernel_rfl) rfl rfl fun E h hN hh hu hb=>?_
 simp -dsimp [go_sem,hN]
 refine qah 10 mixed (by kernel_rfl) (by kernel_rfl) ?_
 simp -dsimp [go_sem,hN]
 first | refine qaa (qd1 t.a) ?_ | refine qay (qd1 t.a) (fun _=>trivial) ?_
 simp -dsimp [go_sem,hN]
 first | refine qaa (qd1 t.b) ?_ | refine qay (qd1 t.b) (fun _=>trivial) ?_
 simp -dsimp [go_sem,hN]
 first | refine qaa (qa2 _) ?_ | refine qay (qa2 _) (fun _=>trivial) ?_
 simp -dsimp [go_sem,hN]
 by_cases h3:t.op=3∨t.op=4
 ·
  have h7:t.op≠7:=by omega
  have e:rown t=⟨1,cut (W64 (rgE t.a+rgE t.b)),1,0⟩:=by unfold rown;rw [if_pos h3,if_neg h7]
  rw [e]
  refine cnd (fun h=>?_) (fun h=>by simp at h;omega)
  simp -dsimp [go_sem,hN,h7]
 ·
  by_cases h7:t.op=7
  ·
   have e:rown t=⟨1,cut (W64 (rgE t.a+rgE t.b)),0,1⟩:=by unfold rown;rw [if_neg h3,if_pos h7]
   rw [e]
   refine cnd (fun h=>by simp at h;omega) (fun h=>?_)
   simp -dsimp [go_sem,hN,h7]
  ·
   have e:rown t=⟨1,cut (W64 (rgE t.a+rgE t.b)),0,0⟩:=by unfold rown;rw [if_neg h3,if_neg h7]
   rw [e]
   refine cnd (fun h=>by simp at h;omega) (fun h=>?_)
   simp -dsimp [go_sem,hN,h7]
theorem qdb (l:List St):APure Tryz.prog 143 [.slice (l.map St.c)] (.agg (rcB l).c):=by
 refine qak Tryz.func143 Tryz.ntmps143 rfl (by kernel_rfl) rfl rfl fun E h hN hh hu hb=>?_
 simp [go_sem] at hb
 simp -dsimp [go_sem,hN]
 refine qat (α:=Cnt) l.length (fun n c=>rcL (l.drop n) c=rcB l) (fun n c=>⟨[(0,.slice (l.map St.c)),(2,P0 h.length),(3,P0 (h.length+1)),(4,I n)],h++[.cells [I 0,I 0,I 0,I 0],.cells c.c]⟩) ⟨0,0,0,0⟩ (by simp) (Wk.mk (by simp [hh]) (by simp [go_sem]) (by simp [hu,qab hu,go_sem]) (by simp [go_sem])) ?_
 intro n c hn hI
 have hw:=qav hn (show _≤68719476736 by first | exact hb.1 | exact hb | omega)
 simp -dsimp [go_sem,hN]
 refine cnd ?_ ?_<;>intro hc<;>simp at hc
 rotate_left
 ·
  rw [List.drop_eq_nil_of_le (by omega),rcL] at hI
  simp -dsimp [go_sem,hN,← hI]
 rw [qae hc,rcL,rcS_eq] at hI
 have hlt1:SizeOf.sizeOf l[n].body<SizeOf.sizeOf l:=Nat.lt_trans (St.body_le _) (List.sizeOf_lt_of_mem (List.getElem_mem hc))
 have hlt2:SizeOf.sizeOf l[n].els<SizeOf.sizeOf l:=Nat.lt_trans (St.els_le _) (List.sizeOf_lt_of_mem (List.getElem_mem hc))
 simp -dsimp [go_sem,hN,hc]
 refine qaa (c_ref13_own l[n]) ?_
 simp -dsimp [go_sem,hN]
 by_cases h5:l[n].op=5
 ·
  have h6:l[n].op≠6:=by omega
  simp only [h5,if_true,show ¬ (5:Int)=6 by decide,if_false] at hI
  simp -dsimp [go_sem,hN,h5]
  refine qah 8 mixed (by kernel_rfl) (by kernel_rfl) ?_
  simp -dsimp [go_sem,hN]
  first | refine qaa (qdb l[n].body) ?_ | refine qay (qdb l[n].body) (fun _=>trivial) ?_
  simp -dsimp [go_sem,hN]
  first | refine qaa (qdb l[n].els) ?_ | refine qay (qdb l[n].els) (fun _=>trivial) ?_
  simp -dsimp [go_sem,hN]
  first | refine qaa (c_ref13_greater _ _) ?_ | refine qay (c_ref13_greater _ _) (fun _=>trivial) ?_
  simp -dsimp [go_sem,hN]
  first | refine qaa (qcj _ _) ?_ | refine qay (qcj _ _) (fun _=>trivial) ?_
  simp -dsimp [go_sem,hN,h5]
  refine qaa (qcj _ _) ?_
  simp -dsimp [go_sem,hN,hw]
  exact ⟨hc,_,hI,(Wk.mk (by simp [hh]) (by simp [go_sem]) (by simp [hu,qab hu,go_sem]) (by simp [go_sem]))⟩
 ·
  by_cases h6:l[n].op=6
  ·
   simp only [h6,if_true,show ¬ (6:Int)=5 by decide,if_false] at hI
   simp -dsimp [go_sem,hN,h6]
   refine qah 11 mixed (by kernel_rfl) (by kernel_rfl) ?_
   simp -dsimp [go_sem,hN]
   first | refine qaa (qdb l[n].body) ?_ | refine qay (qdb l[n].body) (fun _=>trivial) ?_
   simp -dsimp [go_sem,hN]
   first | refine qaa (c_ref13_times l[n].max _) ?_ | refine qay (c_ref13_times l[n].max _) (fun _=>trivial) ?_
   simp -dsimp [go_sem,hN]
   first | refine qaa (qcj _ _) ?_ | refine qay (qcj _ _) (fun _=>trivial) ?_
   simp -dsimp [go_sem,hN]
   first | refine qaa (qcj _ ⟨l[n].max,0,0,0⟩) ?_ | refine qay (qcj _ ⟨l[n].max,0,0,0⟩) (fun _=>trivial) ?_
   simp -dsimp [go_sem,hN]
   refine qaa (qcj _ _) ?_
   simp -dsimp [go_sem,hN,hw]
   exact ⟨hc,_,hI,(Wk.mk (by simp [hh]) (by simp [go_sem]) (by simp [hu,qab hu,go_sem]) (by simp [go_sem]))⟩
  ·
   simp only [h5,h6,if_false] at hI
   simp -dsimp [go_sem,hN,h5,h6]
   refine qaa (qcj _ _) ?_
   simp -dsimp [go_sem,hN,hw]
   exact ⟨hc,_,hI,(Wk.mk (by simp [hh]) (by simp [go_sem]) (by simp [hu,qab hu,go_sem]) (by simp [go_sem]))⟩
termination_by SizeOf.sizeOf l
theorem det_valid {p:Proc} (h:detErr p=0):qcf p=0:=by
 unfold detErr at h
 split at h
 · rename_i h1;exact (h1 h).elim
 ·
  rename_i h1
  simp only [Decidable.not_not] at h1
  unfold qcw at h1
  split at h1
  · rename_i h2;exact (h2 h1).elim
  · rename_i h2;simpa using h2
theorem c_ref13_Of (p:Proc) (hd0:detErr p=0):APure Tryz.prog 113 [.agg p.c] (.tuple [.agg (cntB p.body).c,Bo true]):=by
 refine qak Tryz.func113 Tryz.ntmps113 rfl (by kernel_rfl) rfl rfl fun E h hN hh hu hb=>?_
 have hv:=det_valid hd0
 have hr:=rcB_eq (validP_ok hv)
 have hbd:=qdb p.body
 rw [hr] at hbd
 have hck:=c_ref12_Check p
 rw [hd0] at hck
 simp -dsimp [go_sem,hN]
 refine qaa hck ?_
 simp -dsimp [go_sem,hN]
 refine qaa hbd ?_
 simp -dsimp [go_sem,hN]
theorem c_ref13_Check (p:Proc):APure Tryz.prog 69 [.agg p.c] (I (qbv p)):=by
 refine qak Tryz.func69 Tryz.ntmps69 rfl (by kernel_rfl) rfl rfl fun E h hN hh hu hb=>?_
 simp -dsimp [go_sem,hN]
 refine qaa (c_ref12_Check p) ?_
 simp -dsimp [go_sem,hN]
 refine cnd ?_ ?_<;>intro h0<;>simp at h0
 · simp -dsimp [go_sem,hN,qbv,h0]
 have hOf:=c_ref13_Of p h0
 simp -dsimp [go_sem,hN]
 refine qaa hOf ?_
 simp -dsimp [go_sem,hN]
 refine cnd ?_ ?_<;>intro h1<;>simp at h1
 · simp -dsimp [go_sem,hN,qbv,h0,h1]
 simp -dsimp [go_sem,hN]
 repeat refine ⟨by grind,?_⟩
 refine cnd (fun h2=>?_) (fun h2=>?_)
 ·
  have e:qbv p=2:=by
   unfold qbv
   rw [if_neg (by simp [h0]),if_neg (by omega),if_pos (by simp at h2;omega)]
  simp -dsimp [go_sem,hN,e]
 ·
  have e:qbv p=0:=by
   unfold qbv
   rw [if_neg (by simp [h0]),if_neg (by omega),if_neg (by simp at h2;omega)]
  simp -dsimp [go_sem,hN,e]
end
end Go.Proofs.YtdbpbpmikpdjcaaGreatDoor

set_option maxRecDepth 4000
set_option maxHeartbeats 4000000
namespace Go.Proofs.YtdbpbpmikpdjcaaGreatDoor
open Go Go.Abs Go.Cw
attribute [local go_sem] mC
variable {C:Cfg} {tT:TypeId} {tx:Nat×Nat} {g m v o io ir ip:Nat} {K:MQ→qac} {n0:Nat}
end Go.Proofs.YtdbpbpmikpdjcaaGreatDoor

set_option maxRecDepth 4000
set_option maxHeartbeats 4000000
namespace Go.Proofs.YtdbpbpmikpdjcaaGreatDoor
open Go Go.Abs Go.Cw
section
attribute [local go_sem] RM.c
theorem fmt_ref:∀ n,i64 n→APure Tryz.prog 277 [I n] (S (qbm n)):=fun n hn=>c_ref01_Format n hn
theorem c_ref15_Run (p:Proc) (args:List V) (st:List Pr) (ft:Foot) (hI:RunIn qbm p args st):APure Tryz.prog 50 [.agg p.c,.slice (args.map V.c),.slice (st.map Pr.c),.agg ft.c] (.agg (runS qbm p args st ft).c):=by
 refine qak Tryz.func50 Tryz.ntmps50 rfl (by kernel_rfl) rfl rfl fun E h hN hh hu hb=>?_
 simp [go_sem] at hb
 rw [← runR_eq hI]
 have hcond:(qbv p≠0∨qcz p args≠0∨qbb st=false∨footOk ft.all ft.reads ft.writes=false)↔¬ runOk p args st ft:=by unfold runOk;simp only [Decidable.not_not]
 simp -dsimp [go_sem,hN]
 refine qaa (c_ref13_Check p) ?_
 simp -dsimp [go_sem,hN]
 refine qaf (c_ref11_Args p args) (by simp) ?_
 simp -dsimp [go_sem,hN]
 refine qaf (c_ref06_Valid st) (by simp) ?_
 simp -dsimp [go_sem,hN]
 refine qaf (c_ref15_ValidFoot ft) (by simp) ?_
 simp -dsimp [go_sem,hN]
 repeat refine ⟨by grind,?_⟩
 refine cnd ?_ ?_<;>intro h0<;>simp at h0
 ·
  have e1:runR qbm p args st ft=wrongE:=by unfold runR;rw [if_pos (by grind)]
  rw [e1]
  simp -dsimp [go_sem,hN]
  refine qaa c_ref15_nothing ?_
  simp -dsimp [go_sem,hN]
 have hok:runOk p args st ft:=by rw [qci];grind
 have hok':=(qci _ _ _ _).1 hok
 have hlen:=(argsErr_ok hok'.2.1).1
 have hfew:=valid_few (cost_valid hok'.1)
 have e1:runR qbm p args st ft=doneR (blkR (cfgR qbm st ft) p.body (rm0 p args)):=by unfold runR;rw [if_neg hok]
 rw [e1]
 simp -dsimp [go_sem,hN]
 refine qat (α:=List Pr) args.length (fun n vs=>qcp (p.params.drop n) (args.drop n) vs=qcp p.params args []∧vs.length≤n) (fun n vs=>⟨[(1,.slice (args.map V.c)),(4,P0 h.length),(8,P0 (h.length+2)),(9,P0 (h.length+3)),(10,I n)],h++[.cells p.c,.cells ft.c,effZ,.cells (RM.c (cfgR qbm st ft) ⟨vs,[],0,0,[],[],[],em,0⟩)]⟩) [] (by simp) (Wk.mk (by simp [hh]) (by simp [go_sem]) (by simp [hu,qab hu,go_sem]) (by simp [go_sem])) ?_
 rintro n vs hn ⟨hI2,hvl⟩
 have hw:=qav hn (show _≤68719476736 by omega)
 simp -dsimp [go_sem,hN]
 refine cnd ?_ ?_<;>intro hc<;>simp at hc
 ·
  have hc2:n<p.params.length:=by omega
  rw [qae hc,qae hc2,qcp] at hI2
  simp -dsimp [go_sem,hN,hc,hc2]
  refine qah 13 mixed (by kernel_rfl) (by kernel_rfl) ?_
  simp -dsimp [go_sem,hN,hc,hc2]
  refine qaa (c_ref15_set vs ⟨p.params[n].name,args[n]⟩ (by omega)) ?_
  simp -dsimp [go_sem,hN,hw]
  have:=setR_len vs ⟨p.params[n].name,args[n]⟩
  exact ⟨_,⟨hI2,by omega⟩,(Wk.mk (by simp [hh]) (by simp [go_sem]) (by simp [hu,qab hu,go_sem]) (by simp [go_sem]))⟩
 ·
  rw [List.drop_eq_nil_of_le (show args.length≤n by omega),List.drop_eq_nil_of_le (show p.params.length≤n by omega),show qcp [] [] vs=vs by simp [qcp]] at hI2
  subst hI2
  have hsi:=setArgsR_inv p.params args [] hI.args (by simp)
  have hRI:RInv 0 0 (rm0 p args):=⟨hsi.1,by simp,by simp,by simp,by simp,by simp,by simp,by have:=hsi.2;simp at this ⊢;omega,by simp⟩
  have hC:rngC (cfgR qbm st ft):=fun q hq=>hI.st q hq
  simp -dsimp [go_sem,hN]
  refine qaa (c_ref15_block (cfgR qbm st ft) hC hI.fmt fmt_ref p.body 1 (rm0 p args) (cost_okL hok'.1) (cost_goS hok'.1 hI.body) hRI rfl) ?_
  obtain ⟨M,hM⟩:∃ M,blkR (cfgR qbm st ft) p.body (rm0 p args)=M:=⟨_,rfl⟩
  rw [hM]
  simp -dsimp [go_sem,hN]
  refine qaa (qbp (cfgR qbm st ft) M) ?_
  simp -dsimp [go_sem,hN]
  refine cnd ?_ ?_<;>intro h1<;>simp at h1
  ·
   simp -dsimp [go_sem,hN]
   refine qaa (c_ref15_ended (cfgR qbm st ft) M) ?_
   simp -dsimp [go_sem,hN,doneR,h1]
  ·
   simp -dsimp [go_sem,hN]
   refine qaa (c_ref15_Commit (cfgR qbm st ft) M) ?_
   simp -dsimp [go_sem,hN,doneR,h1]
variable {tT:TypeId} {tx:Nat×Nat} {g:Nat}
end
end Go.Proofs.YtdbpbpmikpdjcaaGreatDoor

set_option maxRecDepth 4000
set_option maxHeartbeats 2000000
namespace Go.Proofs.YtdbpbpmikpdjcaaGreatDoor
open Go Go.Abs Go.Cw
theorem c_ref27_wrote (l:List Eff) (k:qad):APure Tryz.prog 81 [.slice (l.map Eff.c),S k] (Bo (l.any fun x=>wroteS x k)):=by
 refine qak Tryz.func81 Tryz.ntmps81 rfl (by kernel_rfl) rfl rfl fun E h hN hh hu hb=>?_
 simp [go_sem] at hb
 simp -dsimp [go_sem,hN]
 refine qai l.length (fun n=>((l.drop n).any fun x=>wroteS x k)=(l.any fun x=>wroteS x k)) (fun n=>⟨[(0,.slice (l.map Eff.c)),(1,S k),(5,I n)],h⟩) (by simp) (Wk.mk (by simp [hh]) (by simp [go_sem]) (by simp [hu,qab hu,go_sem]) (by simp [go_sem])) ?_
 intro n hn hI
 have hw:=qav hn (show _≤68719476736 by omega)
 simp -dsimp [go_sem,hN]
 refine cnd ?_ ?_<;>intro hc<;>simp at hc
 ·
  rw [qae hc,List.any_cons] at hI
  have hx:wroteS l[n] k=(decide (l[n].status=1)&&hasP l[n].writes k):=rfl
  simp -dsimp [go_sem,hN,hc,Eff.c]
  refine qaf (c_ref06_Has l[n].writes k) (by simp) ?_
  simp -dsimp [go_sem,hN]
  refine cnd ?_ ?_<;>intro h1<;>simp at h1
  ·
   have hy:(l.any fun x=>wroteS x k)=true:=by rw [← hI,hx,h1.1,h1.2];simp
   simp -dsimp [go_sem,hN,hy]
  ·
   simp -dsimp [go_sem,hN,hw]
   refine ⟨hc,?_,(Wk.mk (by simp [hh]) (by simp [go_sem]) (by simp [hu,qab hu,go_sem]) (by simp [go_sem]))⟩
   rw [← hI,hx]
   rcases Bool.eq_false_or_eq_true (decide (l[n].status=1)&&hasP l[n].writes k) with g | g
   ·
    simp at g
    have:=h1 g.1
    rw [g.2] at this
    cases this
   · rw [g];simp
 ·
  rw [List.drop_eq_nil_of_le (by omega),List.any_nil] at hI
  simp -dsimp [go_sem,hN,← hI]
theorem c_ref27_Valid (e:Eff) (l:List Eff):APure Tryz.prog 43 [.agg e.c,.slice (l.map Eff.c)] (Bo (validO e l)):=by
 refine qak Tryz.func43 Tryz.ntmps43 rfl (by kernel_rfl) rfl rfl fun E h hN hh hu hb=>?_
 simp [go_sem,Eff.c] at hb
 simp -dsimp [go_sem,hN,Eff.c]
 refine qai e.reads.length (fun n=>(!((e.reads.drop n).any fun k=>l.any fun x=>wroteS x k))=validO e l) (fun n=>⟨[(1,.slice (l.map Eff.c)),(2,P0 h.length),(5,I n)],h++[.cells e.c]⟩) (by simp [validO]) (Wk.mk (by simp [hh]) (by simp [go_sem]) (by simp [hu,qab hu,go_sem]) (by simp [go_sem,Eff.c])) ?_
 intro n hn hI
 have hw:=qav hn (show _≤68719476736 by omega)
 simp -dsimp [go_sem,hN,Eff.c]
 refine cnd ?_ ?_<;>intro hc<;>simp at hc
 ·
  rw [qae hc,List.any_cons] at hI
  simp -dsimp [go_sem,hN,hc]
  refine qaa (c_ref27_wrote l e.reads[n]) ?_
  simp -dsimp [go_sem,hN]
  refine cnd (fun h1=>?_) (fun h1=>?_)<;>try simp only [Bool.not_eq_true] at h1
  ·
   simp -dsimp [go_sem,hN]
   rw [← hI,h1]
   simp
  ·
   simp -dsimp [go_sem,hN,hw]
   exact ⟨hc,by rw [← hI,h1];simp,(Wk.mk (by simp [hh]) (by simp [go_sem]) (by simp [hu,qab hu,go_sem]) (by simp [go_sem,Eff.c]))⟩
 ·
  rw [List.drop_eq_nil_of_le (by omega),List.any_nil] at hI
  simp -dsimp [go_sem,hN,← hI]
end Go.Proofs.YtdbpbpmikpdjcaaGreatDoor

set_option maxRecDepth 4000
set_option maxHeartbeats 2000000
namespace Go.Proofs.YtdbpbpmikpdjcaaGreatDoor
open Go Go.Abs Go.Cw
theorem c_ref21_Find (procs:List Proc) (name:qad):APure Tryz.prog 35 [.slice (procs.map Proc.c),S name] (.tuple [.agg ((findN procs name).getD noProc).c,Bo (findN procs name).isSome]):=by
 refine qak Tryz.func35 Tryz.ntmps35 rfl (by kernel_rfl) rfl rfl fun E h hN hh hu hb=>?_
 simp [go_sem] at hb
 simp -dsimp [go_sem,hN]
 refine qai procs.length (fun n=>(procs.drop n).find? (fun p=>decide (p.name=name))=findN procs name) (fun n=>⟨[(0,.slice (procs.map Proc.c)),(1,S name),(4,P0 h.length),(6,I n)],h++[.cells [S em,.nils,.nils]]⟩) (by simp [findN]) (Wk.mk (by simp [hh]) (by simp [go_sem]) (by simp [hu,qab hu,go_sem]) (by simp [go_sem])) ?_
 intro n hn hI
 have hw:=qav hn (show _≤68719476736 by omega)
 simp -dsimp [go_sem,hN]
 refine cnd ?_ ?_<;>intro hc<;>simp at hc
 ·
  rw [qae hc] at hI
  simp -dsimp [go_sem,hN,hc]
  refine cnd ?_ ?_<;>intro h1<;>simp at h1
  ·
   rw [List.find?_cons_of_pos (by simpa using h1)] at hI
   simp -dsimp [go_sem,hN,hc]
   simp [← hI,Proc.c]
  ·
   rw [List.find?_cons_of_neg (by simpa using h1)] at hI
   simp -dsimp [go_sem,hN,hw]
   exact ⟨hc,hI,(Wk.mk (by simp [hh]) (by simp [go_sem]) (by simp [hu,qab hu,go_sem]) (by simp [go_sem]))⟩
 ·
  rw [List.drop_eq_nil_of_le (by omega)] at hI
  simp -dsimp [go_sem,hN]
  simp [← hI,noProc,Proc.c]
theorem c_ref21_One (procs:List Proc) (s:List Pr) (t:Txn) (hI:∀ p,findP procs t=some p→RunIn qbm p t.args s) (hL:s.length≤60000000000) :
  APure Tryz.prog 21 [.slice (procs.map Proc.c),.slice (s.map Pr.c),.agg t.c] (.tuple [.slice ((oneS qbm procs s t).1.map Pr.c),.agg (oneS qbm procs s t).2.c]):=by
 refine qak Tryz.func21 Tryz.ntmps21 rfl (by kernel_rfl) rfl rfl fun E h hN hh hu hb=>?_
 simp [go_sem,Txn.c] at hb
 obtain ⟨R,hR⟩:∃ R,oneS qbm procs s t=R:=⟨_,rfl⟩
 rw [hR]
 unfold oneS at hR
 have hfind:findP procs t=match findN procs t.proc with | none=>none | some p=>if qcz p t.args=0 then some p else none:=rfl
 simp -dsimp [go_sem,hN,Txn.c]
 refine qaa (c_ref21_Find procs t.proc) ?_
 rcases hF:findN procs t.proc with _ | p
 ·
  rw [hF] at hfind
  simp only at hfind
  rw [hfind] at hR
  simp only at hR
  subst hR
  simp -dsimp [go_sem,hN,noProc]
  refine qdy ?_
  simp -dsimp [go_sem,hN,wrongE]
 ·
  rw [hF] at hfind
  simp only at hfind
  simp -dsimp [go_sem,hN]
  refine qaf (c_ref11_Args p t.args) (by simp) ?_
  simp -dsimp [go_sem,hN]
  refine cnd ?_ ?_<;>intro h0<;>simp at h0
  ·
   rw [if_neg h0] at hfind
   rw [hfind] at hR
   simp only at hR
   subst hR
   simp -dsimp [go_sem,hN,wrongE]
  rw [if_pos h0] at hfind
  have hRun:=hI p hfind
  rw [hfind] at hR
  simp only at hR
  have hc1:=fun h=>run_commit_ok (fmt:=qbm) (p:=p) (args:=t.args) (s:=s) (ft:=t.ft) h
  have hc2:=fun h=>(run_commit (ft:=t.ft) hRun h).2.2
  have hlw:=run_lenW (ft:=t.ft) hRun
  have hcall:=c_ref15_Run p t.args s t.ft hRun
  obtain ⟨e,he⟩:∃ e,runS qbm p t.args s t.ft=e:=⟨_,rfl⟩
  rw [he] at hR hc1 hc2 hlw hcall
  simp -dsimp [go_sem,hN]
  refine qaa hcall ?_
  simp -dsimp [go_sem,hN]
  refine cnd ?_ ?_<;>intro h1<;>simp at h1
  ·
   rw [if_neg h1] at hR
   subst hR
   simp -dsimp [go_sem,hN]
   refine qah 3 mixed (by kernel_rfl) (by kernel_rfl) ?_
   simp -dsimp [go_sem,hN]
  ·
   rw [if_pos h1] at hR
   subst hR
   have hA:=c_ref06_Apply s e.writes (by omega)
   rw [hc1 h1,hc2 h1] at hA
   simp only [Bool.and_self,if_true] at hA
   simp -dsimp [go_sem,hN]
   refine qaa hA ?_
   simp -dsimp [go_sem,hN]
   refine qah 3 mixed (by kernel_rfl) (by kernel_rfl) ?_
   simp -dsimp [go_sem,hN]
theorem c_ref27_Speculate (procs:List Proc) (s:List Pr) (l:List Txn) (hB:BatchIn qbm procs l) (hs:rngL s) (hL:s.length≤60000000000) :
  APure Tryz.prog 18 [.slice (procs.map Proc.c),.slice (s.map Pr.c),.slice (l.map Txn.c)] (.slice ((specS qbm procs s l).map Eff.c)):=by
 refine qak Tryz.func18 Tryz.ntmps18 rfl (by kernel_rfl) rfl rfl fun E h hN hh hu hb=>?_
 simp [go_sem] at hb
 simp -dsimp [go_sem,hN]
 refine qai l.length (fun n=>True) (fun n=>⟨[(0,.slice (procs.map Proc.c)),(1,.slice (s.map Pr.c)),(2,.slice (l.map Txn.c)),(7,.own h.length n),(8,I n)],h++[.arr 45 8 ((specS qbm procs s (l.take n)).map Eff.c)]⟩) trivial ((nil_wk E _ 7 45 8 (by simp [go_sem])).trans ?_) ?_
 ·
  simp [specS]
  exact (Wk.mk (by simp [hh]) (by simp [go_sem]) (by simp [hu,qab hu,go_sem]) (by simp [go_sem]))
 intro n hn _
 have hw:=qav hn (show _≤68719476736 by omega)
 have hsl:(specS qbm procs s (l.take n)).length=n:=by simp [specS];omega
 simp -dsimp [go_sem,hN]
 refine cnd ?_ ?_<;>intro hc<;>simp at hc
 ·
  have hone:=c_ref21_One procs s l[n] (runIn_one hB hs (List.getElem_mem hc)) hL
  have hnx:=spec_next (fmt:=qbm) (procs:=procs) (s:=s) hc
  obtain ⟨O,hO⟩:∃ O,oneS qbm procs s l[n]=O:=⟨_,rfl⟩
  rw [hO] at hnx hone
  simp -dsimp [go_sem,hN,hc,Txn.c]
  refine qaa hone ?_
  simp -dsimp [go_sem,hN,hw,hsl,Eff.c]
  refine ⟨by omega,hc,?_⟩
  rw [hnx]
  exact (Wk.mk (by simp [hh]) (by simp [go_sem]) (by simp [hu,qab hu,go_sem]) (by simp [go_sem,Eff.c]))
 ·
  simp -dsimp [go_sem,hN]
  rw [if_pos hsl,List.take_of_length_le (by omega)]
theorem c_ref27_Round (procs:List Proc) (s:List Pr) (l:List Txn) (hB:BatchIn qbm procs l) (hs:rngL s) (hL:s.length+64 * l.length≤60000000000) :
  APure Tryz.prog 14 [.slice (procs.map Proc.c),.slice (s.map Pr.c),.slice (l.map Txn.c)] (.tuple [.slice ((qdo qbm procs s l).1.map Pr.c),.slice ((qdo qbm procs s l).2.1.map Eff.c),.slice ((qdo qbm procs s l).2.2.map bRow)]):=by
 refine qak Tryz.func14 Tryz.ntmps14 rfl (by kernel_rfl) rfl rfl fun E h hN hh hu hb=>?_
 simp [go_sem] at hb
 obtain ⟨SP,hSP⟩:∃ SP,specS qbm procs s l=SP:=⟨_,rfl⟩
 have hSPl:SP.length=l.length:=by rw [← hSP];exact specS_len l
 have hsp:=c_ref27_Speculate procs s l hB hs (by omega)
 rw [hSP] at hsp
 simp -dsimp [go_sem,hN]
 refine qaa hsp ?_
 simp -dsimp [go_sem,hN]
 refine qai l.length (fun n=>True) (fun n=>⟨[(0,.slice (procs.map Proc.c)),(1,.slice ((qdo qbm procs s (l.take n)).1.map Pr.c)),(2,.slice (l.map Txn.c)),(9,.slice (SP.map Eff.c)),(10,.own h.length n),(11,.own (h.length+1) n),(12,I n)],h++[.arr 45 8 ((qdo qbm procs s (l.take n)).2.1.map Eff.c),.arr 4 1 ((qdo qbm procs s (l.take n)).2.2.map bRow)]⟩) trivial ((nil_wk E _ 10 45 8 (by simp [go_sem])).trans ((nil_wk E _ 11 4 1 (by simp [go_sem])).trans ?_)) ?_
 ·
  simp [qdo]
  exact (Wk.mk (by simp [hh]) (by simp [go_sem]) (by simp [hu,qab hu,go_sem]) (by simp [go_sem]))
 intro n hn _
 have hw:=qav hn (show _≤68719476736 by omega)
 obtain ⟨hrs,hrl⟩:=occ_stepState (fmt:=qbm) hs hB n hn
 obtain ⟨hDl,hMl⟩:=occ_lenN (fmt:=qbm) (procs:=procs) (s:=s) hn
 simp -dsimp [go_sem,hN]
 refine cnd ?_ ?_<;>intro hc<;>simp at hc
 ·
  have hst:=occ_take (fmt:=qbm) (procs:=procs) (s:=s) hc
  have hw0:=(one_ok (procs:=procs) (t:=l[n]) hB.fmt hB.body (hB.args _ (List.getElem_mem hc)) hs).wrs
  have hwO:=(one_ok (procs:=procs) (t:=l[n]) hB.fmt hB.body (hB.args _ (List.getElem_mem hc)) hrs).wrs
  have hone:=c_ref21_One procs (qdo qbm procs s (l.take n)).1 l[n] (runIn_one hB hrs (List.getElem_mem hc)) (by omega)
  have hnS:n<SP.length:=by omega
  have hSn:SP[n]=(oneS qbm procs s l[n]).2:=by subst hSP;simp [specS]
  rw [occStep] at hst
  obtain ⟨N0,hN0⟩:∃ N0,(qdo qbm procs s (l.take n)).1=N0:=⟨_,rfl⟩
  obtain ⟨D,hD⟩:∃ D,(qdo qbm procs s (l.take n)).2.1=D:=⟨_,rfl⟩
  obtain ⟨M,hM⟩:∃ M,(qdo qbm procs s (l.take n)).2.2=M:=⟨_,rfl⟩
  rw [hN0] at hrl hwO hone
  rw [hN0,hD,hM] at hst
  rw [hD] at hDl
  rw [hM] at hMl
  obtain ⟨e0,he0⟩:∃ e,(oneS qbm procs s l[n]).2=e:=⟨_,rfl⟩
  rw [he0] at hst hw0 hSn
  obtain ⟨O,hO⟩:∃ O,oneS qbm procs N0 l[n]=O:=⟨_,rfl⟩
  rw [hO] at hst hwO hone
  simp only [hN0,hD,hM]
  simp -dsimp [go_sem,hN,hc,hnS,hSn,hDl,Eff.c,Txn.c]
  refine qaa (c_ref27_Valid e0 D) ?_
  simp -dsimp [go_sem,hN]
  refine cnd ?_ ?_<;>intro h1<;>simp at h1
  ·
   rw [if_neg (by simp [h1])] at hst
   simp -dsimp [go_sem,hN,hc,Txn.c]
   refine qaa hone ?_
   simp -dsimp [go_sem,hN]
   refine cnd ?_ ?_<;>intro h2<;>simp at h2
   ·
    have hA:=c_ref06_Apply N0 O.2.writes (by omega)
    simp -dsimp [go_sem,hN]
    by_cases hok2:qbb N0=true∧qb0 O.2.writes=true
    ·
     rw [hok2.1,hok2.2] at hA
     simp only [Bool.and_self,if_true] at hA
     refine qaa hA ?_
     simp -dsimp [go_sem,hN,hw,hDl,hMl,Eff.c]
     repeat refine ⟨by omega,?_⟩
     rw [hst,show qb5 N0 O.2=qdr N0 O.2.writes by unfold qb5;rw [if_pos ⟨h2,hok2⟩]]
     exact (Wk.mk (by simp [hh]) (by simp [go_sem,Eff.c,bRow,h1]) (by simp [hu,qab hu,go_sem]) (by simp [go_sem]))
    ·
     rw [if_neg (by simpa using hok2)] at hA
     refine qaa hA ?_
     simp -dsimp [go_sem,hN,hw,hDl,hMl,Eff.c]
     repeat refine ⟨by omega,?_⟩
     rw [hst,show qb5 N0 O.2=N0 by unfold qb5;rw [if_neg (fun g=>hok2 g.2)]]
     exact (Wk.mk (by simp [hh]) (by simp [go_sem,Eff.c,bRow,h1]) (by simp [hu,qab hu,go_sem]) (by simp [go_sem]))
   ·
    simp -dsimp [go_sem,hN,hw,hDl,hMl,Eff.c]
    repeat refine ⟨by omega,?_⟩
    rw [hst,show qb5 N0 O.2=N0 by unfold qb5;rw [if_neg (fun g=>h2 g.1)]]
    exact (Wk.mk (by simp [hh]) (by simp [go_sem,Eff.c,bRow,h1]) (by simp [hu,qab hu,go_sem]) (by simp [go_sem]))
  ·
   rw [if_pos h1] at hst
   simp -dsimp [go_sem,hN]
   refine cnd ?_ ?_<;>intro h2<;>simp at h2
   ·
    have hA:=c_ref06_Apply N0 e0.writes (by omega)
    simp -dsimp [go_sem,hN]
    by_cases hok2:qbb N0=true∧qb0 e0.writes=true
    ·
     rw [hok2.1,hok2.2] at hA
     simp only [Bool.and_self,if_true] at hA
     refine qaa hA ?_
     simp -dsimp [go_sem,hN,hw,hDl,hMl,Eff.c]
     repeat refine ⟨by omega,?_⟩
     rw [hst,show qb5 N0 e0=qdr N0 e0.writes by unfold qb5;rw [if_pos ⟨h2,hok2⟩]]
     exact (Wk.mk (by simp [hh]) (by simp [go_sem,Eff.c,bRow,h1]) (by simp [hu,qab hu,go_sem]) (by simp [go_sem]))
    ·
     rw [if_neg (by simpa using hok2)] at hA
     refine qaa hA ?_
     simp -dsimp [go_sem,hN,hw,hDl,hMl,Eff.c]
     repeat refine ⟨by omega,?_⟩
     rw [hst,show qb5 N0 e0=N0 by unfold qb5;rw [if_neg (fun g=>hok2 g.2)]]
     exact (Wk.mk (by simp [hh]) (by simp [go_sem,Eff.c,bRow,h1]) (by simp [hu,qab hu,go_sem]) (by simp [go_sem]))
   ·
    simp -dsimp [go_sem,hN,hw,hDl,hMl,Eff.c]
    repeat refine ⟨by omega,?_⟩
    rw [hst,show qb5 N0 e0=N0 by unfold qb5;rw [if_neg (fun g=>h2 g.1)]]
    exact (Wk.mk (by simp [hh]) (by simp [go_sem,Eff.c,bRow,h1]) (by simp [hu,qab hu,go_sem]) (by simp [go_sem]))
 ·
  have hn2:n=l.length:=by omega
  subst hn2
  rw [List.take_length] at hDl hMl ⊢
  simp -dsimp [go_sem,hN,hDl,hMl]
end Go.Proofs.YtdbpbpmikpdjcaaGreatDoor
