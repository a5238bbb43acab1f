/- Part 46 of a proof: W63 -/
import Derived.Test.YtdbpbpmikpdjcaaGreatDoorQ13
import Derived.Test.YtdbpbpmikpdjcaaGreatDoorQ17
import Derived.Test.YtdbpbpmikpdjcaaGreatDoorQ38
import Derived.Test.YtdbpbpmikpdjcaaGreatDoorQ39
set_option linter.all false

set_option maxRecDepth 4000
set_option maxHeartbeats 2000000
namespace Go.Proofs.YtdbpbpmikpdjcaaGreatDoor
open Go Go.Abs Go.Cw
theorem c_Clone_M (l:List Param):APure Tryz.prog 108 [.slice (l.map Param.c)] (.slice (l.map Param.c)):=by
 refine qb3 Tryz.func108 rfl (by kernel_rfl) (by simp [Tryz.ntmps108]) rfl ?_
 intro E h hN hh hu hb
 rw [Tryz.ntmps108] at hN
 simp [go_sem] at hb
 refine qa0 (qd3 ?_)
 simp [go_sem,hN]
 refine qa0 (qa0 (qbv [_] _ ?_))
 simp [go_sem,hN]
 intro c a w s k
 refine wp_eqnil s (el:=116) (sz:=2) (x:=.tmp 3) (rows:=l.map Param.c) (d1:=4) rfl rfl (by omega) rfl (by simp [go_sem]) (by simp [go_sem]) (by simp [go_sem]) fun b a' hbn s'=>?_
 refine qa1 _ [_,_] _ rfl ?_ c a' w s' k
 simp [go_sem,hN]
 cases b with
 | true =>
  have hl:l=[]:=by simpa using hbn rfl
  subst hl
  apply qao
  simp -dsimp [go_sem,hN]
 | false =>
  refine qel (x:=.tmp 4) (b:=false) (by simp [go_sem]) (fun h=>by cases h) (fun _=>awp_skip ?_)
  simp only [qdd]
  refine qa0 (qbv [] _ ?_)
  simp [go_sem,hN]
  intro c a w s k
  refine wp_lit0 s k (el:=116) (sz:=2) (d1:=5) rfl rfl (by omega) rfl (by simp [go_sem]) (by simp [go_sem]) (by simp [go_sem]) (by omega) fun c' a' w' s' k'=>?_
  refine qa1 _ [_] _ rfl ?_ c' a' w' s' k'
  simp [go_sem,hN]
  refine ⟨hb.1,?_⟩
  apply qao
  simp -dsimp [go_sem,hN]
theorem c_Clone_E (l:List Ex):APure Tryz.prog 168 [.slice (l.map Ex.c)] (.slice (l.map Ex.c)):=by
 refine qb3 Tryz.func168 rfl (by kernel_rfl) (by simp [Tryz.ntmps168]) rfl ?_
 intro E h hN hh hu hb
 rw [Tryz.ntmps168] at hN
 simp [go_sem] at hb
 refine qa0 (qd3 ?_)
 simp [go_sem,hN]
 refine qa0 (qa0 (qbv [_] _ ?_))
 simp [go_sem,hN]
 intro c a w s k
 refine wp_eqnil s (el:=114) (sz:=4) (x:=.tmp 3) (rows:=l.map Ex.c) (d1:=4) rfl rfl (by omega) rfl (by simp [go_sem]) (by simp [go_sem]) (by simp [go_sem]) fun b a' hbn s'=>?_
 refine qa1 _ [_,_] _ rfl ?_ c a' w s' k
 simp [go_sem,hN]
 cases b with
 | true =>
  have hl:l=[]:=by simpa using hbn rfl
  subst hl
  apply qao
  simp -dsimp [go_sem,hN]
 | false =>
  refine qel (x:=.tmp 4) (b:=false) (by simp [go_sem]) (fun h=>by cases h) (fun _=>awp_skip ?_)
  simp only [qdd]
  refine qa0 (qbv [] _ ?_)
  simp [go_sem,hN]
  intro c a w s k
  refine wp_lit0 s k (el:=114) (sz:=4) (d1:=5) rfl rfl (by omega) rfl (by simp [go_sem]) (by simp [go_sem]) (by simp [go_sem]) (by omega) fun c' a' w' s' k'=>?_
  refine qa1 _ [_] _ rfl ?_ c' a' w' s' k'
  simp [go_sem,hN]
  refine ⟨hb.1,?_⟩
  apply qao
  simp -dsimp [go_sem,hN]
theorem c_Clone_T (l:List St):APure Tryz.prog 137 [.slice (l.map St.c)] (.slice (l.map St.c)):=by
 refine qb3 Tryz.func137 rfl (by kernel_rfl) (by simp [Tryz.ntmps137]) rfl ?_
 intro E h hN hh hu hb
 rw [Tryz.ntmps137] at hN
 simp [go_sem] at hb
 refine qa0 (qd3 ?_)
 simp [go_sem,hN]
 refine qa0 (qa0 (qbv [_] _ ?_))
 simp [go_sem,hN]
 intro c a w s k
 refine wp_eqnil s (el:=118) (sz:=13) (x:=.tmp 3) (rows:=l.map St.c) (d1:=4) rfl rfl (by omega) rfl (by simp [go_sem]) (by simp [go_sem]) (by simp [go_sem]) fun b a' hbn s'=>?_
 refine qa1 _ [_,_] _ rfl ?_ c a' w s' k
 simp [go_sem,hN]
 cases b with
 | true =>
  have hl:l=[]:=by simpa using hbn rfl
  subst hl
  apply qao
  simp -dsimp [go_sem,hN]
 | false =>
  refine qel (x:=.tmp 4) (b:=false) (by simp [go_sem]) (fun h=>by cases h) (fun _=>awp_skip ?_)
  simp only [qdd]
  refine qa0 (qbv [] _ ?_)
  simp [go_sem,hN]
  intro c a w s k
  refine wp_lit0 s k (el:=118) (sz:=13) (d1:=5) rfl rfl (by omega) rfl (by simp [go_sem]) (by simp [go_sem]) (by simp [go_sem]) (by omega) fun c' a' w' s' k'=>?_
  refine qa1 _ [_] _ rfl ?_ c' a' w' s' k'
  simp [go_sem,hN]
  refine ⟨hb.1,?_⟩
  apply qao
  simp -dsimp [go_sem,hN]
theorem c_CloneU_E (l:List Ex) (hl:l≠[]) (h:qac):ACalls Tryz.prog 168 [.slice (l.map Ex.c)] h fun r h'=>r=.ret (.own h.length l.length)∧h'=h++[.uarr 114 4 (l.map Ex.c)]:=by
 refine qem Tryz.func168 rfl (by kernel_rfl) (by simp [Tryz.ntmps168]) ?_
 intro E hN hh hu hb hb' hua
 rw [Tryz.ntmps168] at hN
 simp [go_sem] at hb
 refine qa0 (qd3 ?_)
 simp [go_sem,hN]
 refine qa0 (qa0 (qbv [_] _ ?_))
 simp [go_sem,hN]
 intro c a w s k
 refine wp_eqnil s (el:=114) (sz:=4) (x:=.tmp 3) (rows:=l.map Ex.c) (d1:=4) rfl rfl (by omega) rfl (by simp [go_sem]) (by simp [go_sem]) (by simp [go_sem]) fun b a' hbn s'=>?_
 refine qa1 _ [_,_] _ rfl ?_ c a' w s' k
 simp [go_sem,hN]
 cases b with
 | true =>
  exact (hl (by simpa using hbn rfl)).elim
 | false =>
  refine qel (x:=.tmp 4) (b:=false) (by simp [go_sem]) (fun h=>by cases h) (fun _=>awp_skip ?_)
  simp only [qdd]
  refine qa0 (qbv [] _ ?_)
  simp [go_sem,hN]
  intro c a w s k
  refine wp_lit0u s k (el:=114) (sz:=4) (d1:=5) rfl rfl (by omega) rfl (by simp [go_sem]) (by simp [go_sem]) (by simp [go_sem]) (by omega) fun c' a' w' s' k'=>?_
  refine qa1 _ [_] _ rfl ?_ c' a' w' s' k'
  simp [go_sem,hN]
  refine ⟨hb.1,?_⟩
  apply qao
  simp -dsimp [go_sem,hN]
  exact ⟨_,.refl _,h++[.uarr 114 4 (l.map Ex.c)],by simp [go_sem],hwk.refl _,by simp,by simp [qab hu,go_sem],rfl,rfl⟩
theorem c_CloneU_T (l:List St) (hl:l≠[]) (h:qac):ACalls Tryz.prog 137 [.slice (l.map St.c)] h fun r h'=>r=.ret (.own h.length l.length)∧h'=h++[.uarr 118 13 (l.map St.c)]:=by
 refine qem Tryz.func137 rfl (by kernel_rfl) (by simp [Tryz.ntmps137]) ?_
 intro E hN hh hu hb hb' hua
 rw [Tryz.ntmps137] at hN
 simp [go_sem] at hb
 refine qa0 (qd3 ?_)
 simp [go_sem,hN]
 refine qa0 (qa0 (qbv [_] _ ?_))
 simp [go_sem,hN]
 intro c a w s k
 refine wp_eqnil s (el:=118) (sz:=13) (x:=.tmp 3) (rows:=l.map St.c) (d1:=4) rfl rfl (by omega) rfl (by simp [go_sem]) (by simp [go_sem]) (by simp [go_sem]) fun b a' hbn s'=>?_
 refine qa1 _ [_,_] _ rfl ?_ c a' w s' k
 simp [go_sem,hN]
 cases b with
 | true =>
  exact (hl (by simpa using hbn rfl)).elim
 | false =>
  refine qel (x:=.tmp 4) (b:=false) (by simp [go_sem]) (fun h=>by cases h) (fun _=>awp_skip ?_)
  simp only [qdd]
  refine qa0 (qbv [] _ ?_)
  simp [go_sem,hN]
  intro c a w s k
  refine wp_lit0u s k (el:=118) (sz:=13) (d1:=5) rfl rfl (by omega) rfl (by simp [go_sem]) (by simp [go_sem]) (by simp [go_sem]) (by omega) fun c' a' w' s' k'=>?_
  refine qa1 _ [_] _ rfl ?_ c' a' w' s' k'
  simp [go_sem,hN]
  refine ⟨hb.1,?_⟩
  apply qao
  simp -dsimp [go_sem,hN]
  exact ⟨_,.refl _,h++[.uarr 118 13 (l.map St.c)],by simp [go_sem],hwk.refl _,by simp,by simp [qab hu,go_sem],rfl,rfl⟩
theorem c_serial_expr0 (e:Ex) (ih:∀ x∈e.args,APure Tryz.prog 138 [.agg x.x] (.agg x.x)) (hl:e.args≠[]) (h:qac) :
  ACalls Tryz.prog 138 [.agg e.x] h fun r h'=>r=.ret (.agg [I e.op,I e.n,S e.s,.own (h.length+2) e.args.length])∧h'=h++[.none,.none,.uarr 114 4 (e.args.map Ex.c)]:=by
 refine qas Tryz.func138 Tryz.ntmps138 rfl (by kernel_rfl) rfl fun E hN hh hu hb hb' hua=>?_
 simp [go_sem] at hb
 simp -dsimp [go_sem,hN]
 refine qam (c_CloneU_E e.args hl _) ?_
 rintro r h' ⟨rfl,he⟩
 rw [he]
 simp -dsimp [go_sem,hN]
 refine qah e.args.length (fun n=>True) (fun n=>⟨[(1,P0 h.length),(2,P0 (h.length+1)),(10,.own (h.length+2) e.args.length),(11,I e.args.length),(12,I n)],h++[.cells [I e.op,I e.n,S e.s,.own (h.length+2) e.args.length],.cells [I 0,I 0,S em,.nils],.uarr 114 4 (e.args.map Ex.c)]⟩) trivial ?_ ?_
 · exact (Wk.mk (by simp [hh]) (by simp [go_sem]) (by simp [hu,qab hu,go_sem]) (by simp [go_sem]))
 intro n hn _
 have hw:=qax hn (show _≤68719476736 by omega)
 simp -dsimp [go_sem,hN]
 refine cnd ?_ ?_<;>intro hc<;>simp at hc
 ·
  have hx:e.args[n].c=e.args[n].x:=Ex.c_eq _
  have hself:(e.args.map Ex.c).set n (e.args[n].x)=e.args.map Ex.c:=by
   rw [← hx,show e.args[n].c=(e.args.map Ex.c)[n]'(by simpa using hc) by simp,List.set_getElem_self]
  have hih:=ih e.args[n] (List.getElem_mem hc)
  simp -dsimp [go_sem,hN,hc,hx]
  refine qag 5 mixed (by kernel_rfl) (by kernel_rfl) ?_
  simp -dsimp [go_sem,hN,hc,hx]
  refine qay hih (by simp) ?_
  simp -dsimp [go_sem,hN,hc,hx,hself,hw]
  exact (Wk.mk (by simp [hh]) (by simp [go_sem]) (by simp [hu,qab hu,go_sem]) (by simp [go_sem]))
 ·
  simp -dsimp [go_sem,hN]
  exact ⟨_,.refl _,h++[.none,.none,.uarr 114 4 (e.args.map Ex.c)],by simp [go_sem],by simp [go_sem],by simp,by simp [qab hu,go_sem],rfl,rfl⟩
theorem c_serial_expr1 (e:Ex) (ih:∀ x∈e.args,APure Tryz.prog 138 [.agg x.x] (.agg x.x)):APure Tryz.prog 138 [.agg e.x] (.agg e.x):=by
 by_cases hl:e.args=[]
 ·
  obtain ⟨op,n,s,args⟩:=e
  simp only [Ex.args] at hl
  subst hl
  simp only [Ex.x,Ex.op,Ex.n,Ex.s,Ex.args,List.map_nil]
  refine qaj Tryz.func138 Tryz.ntmps138 rfl (by kernel_rfl) rfl rfl fun E h hN hh hu hb=>?_
  simp -dsimp [go_sem,hN]
  have hcl:=c_Clone_E []
  simp only [List.map_nil] at hcl
  refine qaa hcl ?_
  simp -dsimp [go_sem,hN]
  refine qah 0 (fun n=>True) (fun m=>⟨[(1,P0 h.length),(2,P0 (h.length+1)),(10,.slice []),(11,I 0),(12,I m)],h++[.cells [I op,I n,S s,.slice []],.cells [I 0,I 0,S em,.nils]]⟩) trivial ?_ ?_
  · exact (Wk.mk (by simp [hh]) (by simp [go_sem]) (by simp [hu,qab hu,go_sem]) (by simp [go_sem]))
  intro m hm _
  have hm0:m=0:=by omega
  subst hm0
  simp -dsimp [go_sem,hN]
 ·
  intro h
  have core:=c_serial_expr0 e ih hl h
  refine ⟨core.1,fun cx wx vx hsx hax=>?_⟩
  have hu:=hsx.hUnder
  refine (acalls_ret (fun E hE=>?_) core).2 cx wx vx hsx hax
  refine (qc6 E _ (i:=h.length+2) (t:=114) (sz:=4) (rows:=e.args.map Ex.c) (by simp)).trans ?_
  simp
  refine (norm_wk E _).trans ?_
  exact Wk.mk (by simp [hE]) (by simpa [go_sem] using hwk.app0 _) (by simpa using hu) (by simp [go_sem,AV.norm,qbf,wkT])
mutual
theorem qd1:∀ e:Ex,APure Tryz.prog 138 [.agg e.x] (.agg e.x)
 | .mk op n s args=>c_serial_expr1 (.mk op n s args) (c_serial_exprL args)
theorem c_serial_exprL:∀ l:List Ex,∀ x∈l,APure Tryz.prog 138 [.agg x.x] (.agg x.x)
 | [],_,h=>by cases h
 | e::l,x,h=>by
  rcases List.mem_cons.1 h with h | h
  · rw [h];exact qd1 e
  · exact c_serial_exprL l x h
end
abbrev StmtsP (l:List St):Prop:=APure Tryz.prog 109 [.slice (l.map St.c)] (.slice (l.map St.c))
theorem c_serial_stmts0 (l:List St) (ih:∀ x∈l,StmtsP x.body∧StmtsP x.els) (hl:l≠[]) (h:qac) :
  ACalls Tryz.prog 109 [.slice (l.map St.c)] h fun r h'=>r=.ret (.own h.length l.length)∧h'=h++[.uarr 118 13 (l.map St.c)]:=by
 refine qas Tryz.func109 Tryz.ntmps109 rfl (by kernel_rfl) rfl fun E hN hh hu hb hb' hua=>?_
 simp [go_sem] at hb
 simp -dsimp [go_sem,hN]
 refine qam (c_CloneU_T l hl _) ?_
 rintro r h' ⟨rfl,he⟩
 rw [he]
 simp -dsimp [go_sem,hN]
 refine qah l.length (fun n=>True) (fun n=>⟨[(3,.own h.length l.length),(8,.own h.length l.length),(9,I l.length),(10,I n)],h++[.uarr 118 13 (l.map St.c)]⟩) trivial ?_ ?_
 · exact (Wk.mk (by simp [hh]) (by simp [go_sem]) (by simp [hu,qab hu,go_sem]) (by simp [go_sem]))
 intro n hn _
 have hw:=qax hn (show _≤68719476736 by omega)
 simp -dsimp [go_sem,hN]
 refine cnd ?_ ?_<;>intro hc<;>simp at hc
 ·
  have hx:l[n].c=l[n].x:=St.c_eq _
  have hself:(l.map St.c).set n (l[n].x)=l.map St.c:=by
   rw [← hx,show l[n].c=(l.map St.c)[n]'(by simpa using hc) by simp,List.set_getElem_self]
  have hih:=ih l[n] (List.getElem_mem hc)
  simp -dsimp [go_sem,hN,hc,hx]
  refine qag 7 mixed (by kernel_rfl) (by kernel_rfl) ?_
  simp -dsimp [go_sem,hN,hc,hx]
  refine qay (qd1 l[n].a) (by simp) ?_
  simp -dsimp [go_sem,hN,hc,hx]
  refine qay (qd1 l[n].b) (by simp) ?_
  simp -dsimp [go_sem,hN,hc,hx]
  refine qag 7 mixed (by kernel_rfl) (by kernel_rfl) ?_
  simp -dsimp [go_sem,hN,hc,hx]
  refine qay hih.1 (by simp) ?_
  simp -dsimp [go_sem,hN,hc,hx]
  refine qay hih.2 (by simp) ?_
  simp -dsimp [go_sem,hN,hc,hx,hself,hw]
  exact (Wk.mk (by simp [hh]) (by simp [go_sem]) (by simp [hu,qab hu,go_sem]) (by simp [go_sem]))
 ·
  simp -dsimp [go_sem,hN]
  exact ⟨_,.refl _,h++[.uarr 118 13 (l.map St.c)],by simp [go_sem],hwk.refl _,by simp,by simp [qab hu,go_sem],rfl,rfl⟩
theorem c_serial_stmts1 (l:List St) (ih:∀ x∈l,StmtsP x.body∧StmtsP x.els):StmtsP l:=by
 by_cases hl:l=[]
 ·
  subst hl
  simp only [StmtsP,List.map_nil]
  refine qaj Tryz.func109 Tryz.ntmps109 rfl (by kernel_rfl) rfl rfl fun E h hN hh hu hb=>?_
  simp -dsimp [go_sem,hN]
  have hcl:=c_Clone_T []
  simp only [List.map_nil] at hcl
  refine qaa hcl ?_
  simp -dsimp [go_sem,hN]
  refine qah 0 (fun n=>True) (fun n=>⟨[(3,.slice []),(8,.slice []),(9,I 0),(10,I n)],h⟩) trivial ?_ ?_
  · exact (Wk.mk (by simp [hh]) (by simp [go_sem]) (by simp [hu,qab hu,go_sem]) (by simp [go_sem]))
  intro m hm _
  have hm0:m=0:=by omega
  subst hm0
  simp -dsimp [go_sem,hN]
 ·
  intro h
  have core:=c_serial_stmts0 l ih hl h
  refine ⟨core.1,fun cx wx vx hsx hax=>?_⟩
  have hu:=hsx.hUnder
  refine (acalls_ret (fun E hE=>?_) core).2 cx wx vx hsx hax
  refine (qc6 E _ (i:=h.length) (t:=118) (sz:=13) (rows:=l.map St.c) (by simp)).trans ?_
  simp
  refine (norm_wk E _).trans ?_
  exact Wk.mk (by simp [hE]) (by simpa [go_sem] using hwk.app0 _) (by simpa using hu) (by simp [go_sem,AV.norm,qbf,wkT])
mutual
theorem c_stmtsOf:∀ s:St,StmtsP s.body∧StmtsP s.els
 | .mk _ _ _ _ _ body els=>⟨c_serial_stmts1 body (c_stmtsAll body),c_serial_stmts1 els (c_stmtsAll els)⟩
theorem c_stmtsAll:∀ l:List St,∀ x∈l,StmtsP x.body∧StmtsP x.els
 | [],_,h=>by cases h
 | s::l,x,h=>by
  rcases List.mem_cons.1 h with h | h
  · rw [h];exact c_stmtsOf s
  · exact c_stmtsAll l x h
end
theorem c_serial_statements (l:List St):StmtsP l:=c_serial_stmts1 l (c_stmtsAll l)
theorem c_serial_own (p:Proc):APure Tryz.prog 67 [.agg p.c] (.agg p.c):=by
 refine qaj Tryz.func67 Tryz.ntmps67 rfl (by kernel_rfl) rfl rfl fun E h hN hh hu hb=>?_
 simp -dsimp [go_sem,hN,Proc.c]
 refine qag 8 mixed (by kernel_rfl) (by kernel_rfl) ?_
 simp -dsimp [go_sem,hN,Proc.c]
 refine qay (c_Clone_M p.params) (by simp) ?_
 simp -dsimp [go_sem,hN]
 refine qay (c_serial_statements p.body) (by simp) ?_
 simp -dsimp [go_sem,hN,Proc.c]
theorem c_serial_Find1 (x:Proc) (h:qac) (i:Nat) (name:qad) (hi:h[i]?=some (.cells [S name])):ACalls Tryz.prog 66 [.agg x.c,.ptr i 0] h fun r h'=>r=.ret (Bo (decide (x.name=name)))∧h'=h:=by
 refine qas Tryz.func66 Tryz.ntmps66 rfl (by kernel_rfl) rfl fun E hN hh hu hb hb' hua=>?_
 have hi':i<h.length:=(List.getElem?_eq_some_iff.1 hi).1
 have a1:∀ l,(h++l)[i]?=some (.cells [S name]):=fun l=>by rw [List.getElem?_append_left hi'];exact hi
 simp -dsimp [go_sem,hN,a1,hu]
 exact ⟨_,.refl _,h,by simp [go_sem],by simp [go_sem],by simp,by simp [hu,go_sem],rfl,rfl⟩
theorem c_serial_Find (procs:List Proc) (name:qad):APure Tryz.prog 34 [.slice (procs.map Proc.c),S name] (.tuple [.agg ((findN procs name).getD noProc).c,Bo (findN procs name).isSome]):=by
 refine qaj Tryz.func34 Tryz.ntmps34 rfl (by kernel_rfl) rfl rfl fun E h hN hh hu hb=>?_
 simp [go_sem] at hb
 obtain ⟨R,hR⟩:∃ R,findN procs name=R:=⟨_,rfl⟩
 rw [hR]
 unfold findN at hR
 simp -dsimp [go_sem,hN]
 refine qam (c_IndexFunc_Proc procs _ _ (fun x=>decide (x.name=name)) _ (by simp [qbf,AV.norm]) (fun x=>c_serial_Find1 x _ _ name (by simp))) ?_
 rintro r h' ⟨rfl,rfl⟩
 rcases idxOf_find (fun x:Proc=>decide (x.name=name)) procs with ⟨h1,h2⟩ | ⟨m,hm,h1,h2⟩
 ·
  rw [h2] at hR
  subst hR
  rw [h1]
  simp -dsimp [go_sem,hN,noProc]
 ·
  rw [h2] at hR
  subst hR
  rw [h1]
  simp -dsimp [go_sem,hN,hm]
  refine cnd (fun hx=>absurd (of_decide_eq_true hx) (by omega)) (fun _=>?_)
  simp -dsimp [go_sem,hN,hm]
  refine qaa (c_serial_own procs[m]) ?_
  simp -dsimp [go_sem,hN,hm]
def procsE:Option qad→List Proc→Int
 | _,[]=>0
 | q,p::l=>if qbj p≠0 then qbj p else if after q p.name=false then 16 else procsE (some p.name) l
def procsErr (l:List Proc):Int:=if 16<l.length then 2 else procsE none l
def txnOk (t:Txn):Bool:=!(decide (t.id<1)||decide (t.att<1)||decide (3<t.att)||!qd7 t.ft.all t.ft.reads t.ft.writes||(decide (t.att=3)&&!t.ft.all))
def txnsE:Option Int→List Txn→Int
 | _,[]=>0
 | q,t::l=>if txnOk t=false then 1 else if q.elim false (fun i=>decide (t.id≤i))=true then 16 else txnsE (some t.id) l
def txnsErr (l:List Txn):Int:=if 32<l.length then 2 else txnsE none l
theorem c_serial_ValidProcs (l:List Proc):APure Tryz.prog 37 [.slice (l.map Proc.c)] (I (procsErr l)):=by
 refine qaj Tryz.func37 Tryz.ntmps37 rfl (by kernel_rfl) rfl rfl fun E h hN hh hu hb=>?_
 simp [go_sem] at hb
 simp -dsimp [go_sem,hN]
 refine cnd ?_ ?_<;>intro h0<;>simp at h0
 ·
  simp -dsimp [go_sem,hN,procsErr]
  omega
 simp -dsimp [go_sem,hN]
 have hP:procsErr l=procsE none l:=by rw [procsErr,if_neg (by omega)]
 refine qah l.length (fun n=>procsE ((qaz l n).map Proc.name) (l.drop n)=procsErr l) (fun n=>⟨[(0,.slice (l.map Proc.c)),(9,.slice (l.map Proc.c)),(10,I l.length),(11,I n)],h⟩) (by simp [qaz,hP]) (Wk.mk (by simp [hh]) (by simp [go_sem]) (by simp [hu,qab hu,go_sem]) (by simp [go_sem])) ?_
 intro n hn hI
 have hw:=qax hn (show _≤68719476736 by omega)
 simp -dsimp [go_sem,hN]
 refine cnd ?_ ?_<;>intro hc<;>try simp at hc
 ·
  rw [qaf hc,procsE] at hI
  simp -dsimp [go_sem,hN,hc]
  refine qaa (c_cost_Check l[n]) ?_
  simp -dsimp [go_sem,hN]
  refine cnd ?_ ?_<;>intro h1<;>simp at h1
  ·
   rw [if_pos (by omega)] at hI
   simp -dsimp [go_sem,hN]
   exact hI
  rw [if_neg (by omega)] at hI
  simp -dsimp [go_sem,hN]
  refine qag 11 mixed (by kernel_rfl) (by kernel_rfl) ?_
  cases n with
  | zero =>
   simp -dsimp [go_sem,hN,hc,hw,Proc.c]
   exact ⟨by simpa [qaz,hc,after] using hI,(Wk.mk (by simp [hh]) (by simp [go_sem]) (by simp [hu,qab hu,go_sem]) (by simp [go_sem]))⟩
  | succ m =>
   have hm:m<l.length:=by omega
   have hw2:=wrapN (Nat.le_of_lt hm) hb.1
   simp at hw
   simp -dsimp [go_sem,hN,hc,hm,hw2,Proc.c]
   refine cnd ?_ ?_<;>intro hg<;>simp at hg
   ·
    simp -dsimp [go_sem,hN]
    rw [← hI]
    have h2:=(leS_iff _ _).1 (Or.symm (Or.symm hg))
    simp [qaz,hm,after,h2]
   ·
    have h2:sLt l[m].name l[m+1].name=true:=by
     rcases Bool.eq_false_or_eq_true (sLt l[m].name l[m+1].name) with g | g
     · exact g
     ·
      have:=(leS_iff _ _).2 g
      grind
    simp [qaz,hm,after,h2] at hI
    simp -dsimp [go_sem,hN,hw]
    exact ⟨hc,by simpa [qaz,hc] using hI,(Wk.mk (by simp [hh]) (by simp [go_sem]) (by simp [hu,qab hu,go_sem]) (by simp [go_sem]))⟩
 ·
  rw [List.drop_eq_nil_of_le (by omega),procsE] at hI
  simp -dsimp [go_sem,hN,← hI]
theorem c_serial_ValidTxns (l:List Txn):APure Tryz.prog 39 [.slice (l.map Txn.c)] (I (txnsErr l)):=by
 refine qaj Tryz.func39 Tryz.ntmps39 rfl (by kernel_rfl) rfl rfl fun E h hN hh hu hb=>?_
 simp [go_sem] at hb
 simp -dsimp [go_sem,hN]
 refine cnd ?_ ?_<;>intro h0<;>simp at h0
 ·
  simp -dsimp [go_sem,hN,txnsErr]
  omega
 simp -dsimp [go_sem,hN]
 have hP:txnsErr l=txnsE none l:=by rw [txnsErr,if_neg (by omega)]
 refine qah l.length (fun n=>txnsE ((qaz l n).map Txn.id) (l.drop n)=txnsErr l) (fun n=>⟨[(0,.slice (l.map Txn.c)),(8,.slice (l.map Txn.c)),(9,I l.length),(10,I n)],h⟩) (by simp [qaz,hP]) (Wk.mk (by simp [hh]) (by simp [go_sem]) (by simp [hu,qab hu,go_sem]) (by simp [go_sem])) ?_
 intro n hn hI
 have hw:=qax hn (show _≤68719476736 by omega)
 simp -dsimp [go_sem,hN]
 refine cnd ?_ ?_<;>intro hc<;>try simp at hc
 ·
  rw [qaf hc,txnsE] at hI
  simp -dsimp [go_sem,hN,hc,Txn.c]
  refine qae (c_fp_Valid l[n].ft) (by simp) ?_
  simp -dsimp [go_sem,hN]
  refine ⟨by grind,cnd (fun h1=>?_) (fun h1=>?_)⟩<;>simp at h1
  ·
   rw [if_pos (by unfold txnOk;grind)] at hI
   simp -dsimp [go_sem,hN]
   exact hI
  rw [if_neg (by unfold txnOk;grind)] at hI
  simp -dsimp [go_sem,hN]
  refine qag 11 mixed (by kernel_rfl) (by kernel_rfl) ?_
  cases n with
  | zero =>
   simp -dsimp [go_sem,hN,hc,hw,Txn.c]
   exact ⟨by simpa [qaz,hc] using hI,(Wk.mk (by simp [hh]) (by simp [go_sem]) (by simp [hu,qab hu,go_sem]) (by simp [go_sem]))⟩
  | succ m =>
   have hm:m<l.length:=by omega
   have hw2:=wrapN (Nat.le_of_lt hm) hb.1
   simp at hw
   simp -dsimp [go_sem,hN,hc,hm,hw2,Txn.c]
   refine cnd ?_ ?_<;>intro hg<;>simp at hg
   ·
    simp -dsimp [go_sem,hN]
    rw [← hI]
    simp [qaz,hm,hg]
   ·
    simp [qaz,hm,show ¬ l[m+1].id≤l[m].id by omega] at hI
    simp -dsimp [go_sem,hN,hw]
    exact ⟨hc,by simpa [qaz,hc] using hI,(Wk.mk (by simp [hh]) (by simp [go_sem]) (by simp [hu,qab hu,go_sem]) (by simp [go_sem]))⟩
 ·
  rw [List.drop_eq_nil_of_le (by omega),txnsE] at hI
  simp -dsimp [go_sem,hN,← hI]
end Go.Proofs.YtdbpbpmikpdjcaaGreatDoor
