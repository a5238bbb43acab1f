/- Part 44 of a proof: W42, W42b -/
import Derived.Test.YtdbpbpmikpdjcaaGreatDoorQ43
set_option linter.all false

set_option maxRecDepth 4000
set_option maxHeartbeats 2000000
namespace Go.Proofs.YtdbpbpmikpdjcaaGreatDoor
open Go Go.Abs Go.Cw
def pRow (q:qad×Int):List AV:=[S q.1,I q.2]
section
attribute [local go_sem] pRow
theorem c_ref11_lookup (vars:Vis) (k:qad):APure Tryz.prog 201 [.slice (vars.map pRow),S k] (.tuple [I (varT (qbs vars k)).1,I (varT (qbs vars k)).2]):=by
 refine qak Tryz.func201 Tryz.ntmps201 rfl (by kernel_rfl) rfl rfl fun E h hN hh hu hb=>?_
 simp [go_sem] at hb
 simp -dsimp [go_sem,hN]
 refine qai vars.length (fun n=>qbs (vars.drop n) k=qbs vars k) (fun n=>⟨[(0,.slice (vars.map pRow)),(1,S k),(6,I n)],h⟩) (by simp) (Wk.mk (by simp [hh]) (by simp [go_sem]) (by simp [hu,qab hu,go_sem]) (by simp [go_sem])) ?_
 intro n hn hI
 have hw:=qav hn hb.1.1
 simp -dsimp [go_sem,hN]
 refine cnd ?_ ?_<;>intro hc<;>simp at hc
 ·
  rw [qae hc,qbs] at hI
  simp -dsimp [go_sem,hN,hc]
  refine cnd ?_ ?_<;>intro hg<;>simp at hg
  ·
   rw [if_pos hg] at hI
   simp -dsimp [go_sem,hN,hc]
   repeat refine ⟨by grind,?_⟩
   refine cnd (fun h1=>?_) (fun h1=>?_)
   ·
    simp -dsimp [go_sem,hN]
    rw [← hI,varT,if_pos (by simp at h1;omega)]
    exact ⟨rfl,rfl⟩
   ·
    simp -dsimp [go_sem,hN,hc]
    rw [← hI,varT,if_neg (by simp at h1;omega)]
    exact ⟨rfl,rfl⟩
  ·
   simp -dsimp [go_sem,hN,hw]
   exact ⟨hc,by simpa [hg] using hI,(Wk.mk (by simp [hh]) (by simp [go_sem]) (by simp [hu,qab hu,go_sem]) (by simp [go_sem]))⟩
 ·
  rw [List.drop_eq_nil_of_le (by omega),qbs] at hI
  simp -dsimp [go_sem,hN]
  rw [← hI]
  exact ⟨rfl,rfl⟩
def leafT (vars:Vis) (op:Int) (s:qad):Int×Int:=if op=3 then varT (qbs vars s) else if op=2 then (2,0) else (1,0)
theorem c_ref11_leaf (vars:Vis) (e:Ex):APure Tryz.prog 269 [.agg e.x,.slice (vars.map pRow)] (.tuple [I (leafT vars e.op e.s).1,I (leafT vars e.op e.s).2]):=by
 refine qak Tryz.func269 Tryz.ntmps269 rfl (by kernel_rfl) rfl rfl fun E h hN hh hu hb=>?_
 simp -dsimp [go_sem,hN]
 refine cnd ?_ ?_<;>intro h0<;>simp at h0
 ·
  simp -dsimp [go_sem,hN]
  refine qaa (c_ref11_lookup vars e.s) ?_
  simp -dsimp [go_sem,hN,leafT,h0]
 simp -dsimp [go_sem,hN]
 refine cnd ?_ ?_<;>intro h1<;>simp at h1<;>simp -dsimp [go_sem,hN,leafT,h0,h1]
def unT (op:Int):Int×Int:=if op=9 then (1,1) else if op=18 then (3,3) else if op=20 then (1,2) else if op=21∨op=22 then (2,1) else if op=23 then (2,2) else (2,3)
theorem unT_sig {op:Int} (h:qby op=1):unT op=qcd op:=by
 have hop:op=9∨op=18∨op=20∨op=21∨op=22∨op=23∨op=24:=by
  unfold qby at h
  split at h
  · omega
  split at h
  · omega
  split at h<;>omega
 rcases hop with rfl | rfl | rfl | rfl | rfl | rfl | rfl<;>rfl
theorem c_ref11_unary (op:Int):APure Tryz.prog 270 [I op] (.tuple [I (unT op).1,I (unT op).2]):=by
 refine qak Tryz.func270 Tryz.ntmps270 rfl (by kernel_rfl) rfl rfl fun E h hN hh hu hb=>?_
 by_cases h9:op=9
 · subst h9;simp -dsimp [go_sem,hN,unT]
 by_cases h18:op=18
 · subst h18;simp -dsimp [go_sem,hN,unT]
 by_cases h20:op=20
 · subst h20;simp -dsimp [go_sem,hN,unT]
 by_cases h21:op=21
 · subst h21;simp -dsimp [go_sem,hN,unT]
 by_cases h22:op=22
 · subst h22;simp -dsimp [go_sem,hN,unT]
 by_cases h23:op=23
 · subst h23;simp -dsimp [go_sem,hN,unT]
 simp -dsimp [go_sem,hN,unT,h9,h18,h20,h21,h22,h23]
theorem c_ref11_binary (op a b:Int):APure Tryz.prog 271 [I op,I a,I b] (I (binT op a b)):=by
 refine qak Tryz.func271 Tryz.ntmps271 rfl (by kernel_rfl) rfl rfl fun E h hN hh hu hb=>?_
 simp -dsimp [go_sem,hN]
 refine cnd (fun h0=>?_) (fun h0=>?_)
 ·
  simp -dsimp [go_sem,hN]
  rw [binT,if_pos (by simpa using h0)]
 have h0':¬ a≠b:=by simpa using h0
 simp -dsimp [go_sem,hN]
 repeat refine ⟨by grind,?_⟩
 refine cnd (fun h1=>?_) (fun h1=>?_)
 ·
  simp -dsimp [go_sem,hN]
  rw [binT,if_neg h0',if_pos (by simp at h1;grind)]
 have h1':¬ (4≤op∧op≤8∧a=1):=by simp at h1;grind
 simp -dsimp [go_sem,hN]
 repeat refine ⟨by grind,?_⟩
 refine cnd (fun h2=>?_) (fun h2=>?_)
 ·
  simp -dsimp [go_sem,hN]
  rw [binT,if_neg h0',if_neg h1',if_pos (by simp at h2;grind)]
 have h2':¬ (op=10∨op=11∨(12≤op∧op≤15∧a≠3)∨((op=16∨op=17)∧a=3)):=by simp at h2;grind
 simp -dsimp [go_sem,hN]
 repeat refine ⟨by grind,?_⟩
 refine cnd (fun h3=>?_) (fun h3=>?_)
 ·
  simp -dsimp [go_sem,hN]
  rw [binT,if_neg h0',if_neg h1',if_neg h2',if_pos (by simp at h3;grind)]
 ·
  simp -dsimp [go_sem,hN]
  rw [binT,if_neg h0',if_neg h1',if_neg h2',if_neg (by simp at h3;grind)]
theorem c_ref11_typeOf (vars:Vis) (e:Ex) (d:Nat) (hv:chkE e d=0):APure Tryz.prog 241 [.agg e.x,.slice (vars.map pRow)] (.tuple [I (ofE vars e).1,I (ofE vars e).2]):=by
 have har:=qd0 hv
 refine qak Tryz.func241 Tryz.ntmps241 rfl (by kernel_rfl) rfl rfl fun E h hN hh hu hb=>?_
 simp -dsimp [go_sem,hN]
 refine qaa (c_ref08_Arity e.op) ?_
 simp -dsimp [go_sem,hN]
 refine cnd ?_ ?_<;>intro h0<;>simp at h0
 ·
  have ha:e.args=[]:=List.eq_nil_of_length_eq_zero (by omega)
  have ho:ofE vars e=leafT vars e.op e.s:=ofE_0 vars h0 ha
  rw [ho]
  simp -dsimp [go_sem,hN]
  refine qaa (c_ref11_leaf vars e) ?_
  simp -dsimp [go_sem,hN]
 have hpos:0<e.args.length:=by
  have:e.args.length≠0:=fun g=>h0 (by omega)
  omega
 have hlt0:SizeOf.sizeOf e.args[0]<SizeOf.sizeOf e:=Ex.arg_lt (List.getElem_mem hpos)
 have hv0:=chkE_args hv _ (List.getElem_mem hpos)
 simp -dsimp [go_sem,hN,hpos]
 refine qaa (c_ref11_typeOf vars e.args[0] (d+1) hv0) ?_
 simp -dsimp [go_sem,hN]
 refine cnd ?_ ?_<;>intro h1<;>simp at h1
 ·
  have ho:ofE vars e=((0:Int),(ofE vars e.args[0]).2):=by
   have h12:qby e.op=1∨qby e.op=2:=by have:=arity_le e.op;omega
   rcases h12 with h12 | h12
   ·
    obtain ⟨a,ha⟩:∃ a,e.args=[a]:=by
     match hm:e.args,(show e.args.length=1 by omega) with
     | [a],_=>exact ⟨a,rfl⟩
    rw [ofE_1 vars h12 ha]
    simp only [ha,List.getElem_cons_zero] at h1 ⊢
    rw [if_pos h1]
   ·
    obtain ⟨a,b,ha⟩:∃ a b,e.args=[a,b]:=by
     match hm:e.args,(show e.args.length=2 by omega) with
     | [a,b],_=>exact ⟨a,b,rfl⟩
    rw [ofE_2 vars h12 ha]
    simp only [ha,List.getElem_cons_zero] at h1 ⊢
    rw [if_pos h1]
  rw [ho]
  simp -dsimp [go_sem,hN]
 simp -dsimp [go_sem,hN]
 refine cnd ?_ ?_<;>intro h2<;>simp at h2
 ·
  obtain ⟨a,ha⟩:∃ a,e.args=[a]:=by
   match hm:e.args,(show e.args.length=1 by omega) with
   | [a],_=>exact ⟨a,rfl⟩
  have ho:=ofE_1 vars h2 ha
  simp only [ha,List.getElem_cons_zero] at h1
  rw [if_neg (by simpa using h1)] at ho
  simp -dsimp [go_sem,hN]
  refine qaa (c_ref11_unary e.op) ?_
  simp -dsimp [go_sem,hN,unT_sig h2,ha]
  refine cnd (fun h3=>?_) (fun h3=>?_)
  ·
   simp -dsimp [go_sem,hN]
   rw [ho,if_pos (by simpa using h3)]
   exact ⟨rfl,rfl⟩
  ·
   simp -dsimp [go_sem,hN]
   rw [ho,if_neg (by simpa using h3)]
   exact ⟨rfl,rfl⟩
 have h12:qby e.op=2:=by have:=arity_le e.op;omega
 have hl1:1<e.args.length:=by omega
 have hlt1:SizeOf.sizeOf e.args[1]<SizeOf.sizeOf e:=Ex.arg_lt (List.getElem_mem hl1)
 have hv1:=chkE_args hv _ (List.getElem_mem hl1)
 simp -dsimp [go_sem,hN,hl1]
 refine qaa (c_ref11_typeOf vars e.args[1] (d+1) hv1) ?_
 simp -dsimp [go_sem,hN]
 obtain ⟨a,b,ha⟩:∃ a b,e.args=[a,b]:=by
  match hm:e.args,(show e.args.length=2 by omega) with
  | [a,b],_=>exact ⟨a,b,rfl⟩
 have ho:=ofE_2 vars h12 ha
 have ea:e.args[0]=a:=by simp [ha]
 have eb:e.args[1]=b:=by simp [ha]
 rw [ea] at h1
 rw [if_neg (by simpa using h1)] at ho
 refine cnd (fun h3=>?_) (fun h3=>?_)
 ·
  rw [eb] at h3
  rw [if_pos (by simpa using h3)] at ho
  simp -dsimp [go_sem,hN,eb,ho]
 rw [eb] at h3
 rw [if_neg (by simpa using h3)] at ho
 simp -dsimp [go_sem,hN,ea,eb]
 refine qaa (c_ref11_binary e.op _ _) ?_
 simp -dsimp [go_sem,hN]
 refine cnd (fun h4=>?_) (fun h4=>?_)
 ·
  simp -dsimp [go_sem,hN]
  rw [ho,if_pos (by simpa using h4)]
  exact ⟨rfl,rfl⟩
 ·
  simp -dsimp [go_sem,hN]
  rw [ho,if_neg (by simpa using h4)]
  exact ⟨rfl,rfl⟩
termination_by SizeOf.sizeOf e
theorem c_ref11_Of (vars:Vis) (e:Ex) (hv:chkE e 1=0):APure Tryz.prog 200 [.agg e.x,.slice (vars.map pRow)] (.tuple [I (ofE vars e).1,I (ofE vars e).2]):=by
 refine qak Tryz.func200 Tryz.ntmps200 rfl (by kernel_rfl) rfl rfl fun E h hN hh hu hb=>?_
 simp -dsimp [go_sem,hN]
 refine qaa (qdg e) ?_
 simp -dsimp [go_sem,hN,hv]
 refine qaa (c_ref11_typeOf vars e 1 hv) ?_
 simp -dsimp [go_sem,hN]
theorem c_ref11_wrong (op a b:Int):APure Tryz.prog 162 [I op,I a,I b] (Bo (qbr op a b)):=by
 refine qak Tryz.func162 Tryz.ntmps162 rfl (by kernel_rfl) rfl rfl fun E h hN hh hu hb=>?_
 by_cases h3:op=3
 · subst h3;simp -dsimp [go_sem,hN,qbr]
 by_cases h4:op=4
 · subst h4;simp -dsimp [go_sem,hN,qbr]
 by_cases h5:op=5
 · subst h5;simp -dsimp [go_sem,hN,qbr]
 by_cases h6:op=6
 · subst h6;simp -dsimp [go_sem,hN,qbr]
 by_cases h7:op=7
 · subst h7;simp -dsimp [go_sem,hN,qbr]
 simp -dsimp [go_sem,hN,qbr,h3,h4,h5,h6,h7]
theorem c_ref11_with (vars:Vis) (loops:List qad) (name:qad) (t:Int) (lp:Bool) (hB:vars.length+1≤68719476736) (hB2:loops.length+1≤68719476736):APure Tryz.prog 127 [.agg [.slice (vars.map pRow),.slice (loops.map qbe)],S name,I t,Bo lp] (.agg [.slice ((vars++[(name,t)]).map pRow),.slice ((if lp then loops++[name] else loops).map qbe)]):=by
 refine qak Tryz.func127 Tryz.ntmps127 rfl (by kernel_rfl) rfl rfl fun E h hN hh hu hb=>?_
 simp [go_sem] at hb
 simp -dsimp [go_sem,hN]
 refine ⟨by omega,by omega,by omega,?_⟩
 rcases lp with _ | _
 · simp -dsimp [go_sem,hN]
 ·
  simp -dsimp [go_sem,hN]
  omega
end
end Go.Proofs.YtdbpbpmikpdjcaaGreatDoor

set_option maxRecDepth 4000
set_option maxHeartbeats 4000000
namespace Go.Proofs.YtdbpbpmikpdjcaaGreatDoor
open Go Go.Abs Go.Cw
section
attribute [local go_sem] pRow
theorem c_ref11_operands (vars:Vis) (loops:List qad) (t:St) (d:Nat) (hok:okS t d):APure Tryz.prog 160 [.agg [.slice (vars.map pRow),.slice (loops.map qbe)],.agg t.x] (.tuple [I (qc1 vars t).1,I (qc1 vars t).2.1,I (qc1 vars t).2.2]):=by
 refine qak Tryz.func160 Tryz.ntmps160 rfl (by kernel_rfl) rfl rfl fun E h hN hh hu hb=>?_
 simp -dsimp [go_sem,hN]
 refine cnd ?_ ?_<;>intro h8<;>simp at h8
 · simp -dsimp [go_sem,hN,qc1,h8]
 simp -dsimp [go_sem,hN]
 refine qaa (c_ref11_Of vars t.a (okS_a hok h8)) ?_
 simp -dsimp [go_sem,hN]
 repeat refine ⟨by grind,?_⟩
 refine cnd (fun h1=>?_) (fun h1=>?_)
 ·
  have e:qc1 vars t=((ofE vars t.a).1,0,(ofE vars t.a).2):=by
   unfold qc1
   rw [if_neg h8,if_neg (by simp at h1;omega)]
  simp -dsimp [go_sem,hN,e]
 have h1':(ofE vars t.a).2=0∧(t.op=3∨t.op=6):=by simp at h1;omega
 have e:qc1 vars t=((ofE vars t.a).1,(ofE vars t.b).1,(ofE vars t.b).2):=by
  unfold qc1
  rw [if_neg h8,if_pos h1']
 simp -dsimp [go_sem,hN]
 refine qaa (c_ref11_Of vars t.b (okS_b hok h1'.2)) ?_
 simp -dsimp [go_sem,hN,e]
theorem c_ref11_assign (vars:Vis) (loops:List qad) (name:qad) (ty:Int):APure Tryz.prog 161 [.agg [.slice (vars.map pRow),.slice (loops.map qbe)],S name,I ty] (I (assignT vars loops name ty)):=by
 refine qak Tryz.func161 Tryz.ntmps161 rfl (by kernel_rfl) rfl rfl fun E h hN hh hu hb=>?_
 simp [go_sem] at hb
 simp -dsimp [go_sem,hN]
 refine qaa (c_ref11_lookup vars name) ?_
 simp -dsimp [go_sem,hN]
 refine cnd ?_ ?_<;>intro h0<;>simp at h0
 · simp -dsimp [go_sem,hN,assignT,h0]
 simp -dsimp [go_sem,hN]
 refine qai loops.length (fun n=>hasK (loops.drop n) name=hasK loops name) (fun n=>⟨[(1,S name),(2,I ty),(3,.ptr h.length 0),(7,I (varT (qbs vars name)).1),(9,I n)],h++[.cells [.slice (vars.map pRow),.slice (loops.map qbe)]]⟩) (by simp) (Wk.mk (by simp [hh]) (by simp [go_sem]) (by simp [hu,qab hu,go_sem]) (by simp [go_sem])) ?_
 intro n hn hI
 have hw:=qav hn hb.1.2.1
 simp -dsimp [go_sem,hN]
 refine cnd ?_ ?_<;>intro hc<;>simp at hc
 ·
  rw [qae hc,hasK,anyL] at hI
  simp -dsimp [go_sem,hN,hc]
  refine cnd ?_ ?_<;>intro hg<;>simp at hg
  ·
   have hk:hasK loops name=true:=by rw [← hI];simp [hg]
   simp -dsimp [go_sem,hN,assignT,h0,hk]
  ·
   simp -dsimp [go_sem,hN,hw]
   exact ⟨hc,by simpa [hg,hasK] using hI,(Wk.mk (by simp [hh]) (by simp [go_sem]) (by simp [hu,qab hu,go_sem]) (by simp [go_sem]))⟩
 ·
  rw [List.drop_eq_nil_of_le (by omega)] at hI
  have hk:hasK loops name=false:=by rw [← hI];rfl
  simp -dsimp [go_sem,hN]
  refine cnd ?_ ?_<;>intro hg<;>simp at hg
  · simp -dsimp [go_sem,hN,assignT,h0,hk,hg]
  · simp -dsimp [go_sem,hN,assignT,h0,hk,hg]
abbrev scA (vars:Vis) (loops:List qad):List AV:=[.slice (vars.map pRow),.slice (loops.map qbe)]
theorem c_ref11_body (l:List St) (d:Nat) (vars:Vis) (loops:List qad) (hok:okL l d) (hB:vars.length+(nmL l).length+1≤68719476736) (hL:loops.length≤vars.length):APure Tryz.prog 129 [.agg (scA vars loops),.slice (l.map St.c)] (I (qdn l vars loops)):=by
 refine qak Tryz.func129 Tryz.ntmps129 rfl (by kernel_rfl) rfl rfl fun E h hN hh hu hb=>?_
 simp [go_sem] at hb
 simp -dsimp [go_sem,hN]
 refine qat (α:=Vis) l.length (fun n vs=>qdn (l.drop n) vs loops=qdn l vars loops∧vs.length+(nmL (l.drop n)).length+1≤68719476736∧loops.length≤vs.length) (fun n vs=>⟨[(1,.slice (l.map St.c)),(2,.ptr h.length 0),(5,I n)],h++[.cells (scA vs loops)]⟩) vars ⟨by simp,by simpa using hB,hL⟩ (Wk.mk (by simp [hh]) (by simp [go_sem]) (by simp [hu,qab hu,go_sem]) (by simp [go_sem])) ?_
 clear hB hL
 intro n vs hn ⟨hI,hB,hL⟩
 have hw:=qav hn hb.2.1
 simp -dsimp [go_sem,hN]
 refine cnd ?_ ?_<;>intro hc<;>simp at hc
 rotate_left
 ·
  rw [List.drop_eq_nil_of_le (by omega),qdn] at hI
  simp -dsimp [go_sem,hN,← hI]
 obtain ⟨t,ht⟩:∃ t,l[n]=t:=⟨_,rfl⟩
 have hkt:=hok l[n] (List.getElem_mem hc)
 have hkt':=(qcg _ _).1 hkt
 have hop:=okS_op hkt
 have hlt1:SizeOf.sizeOf l[n].body<SizeOf.sizeOf l:=Nat.lt_trans (St.body_le _) (List.sizeOf_lt_of_mem (List.getElem_mem hc))
 have hlt2:SizeOf.sizeOf l[n].els<SizeOf.sizeOf l:=Nat.lt_trans (St.els_le _) (List.sizeOf_lt_of_mem (List.getElem_mem hc))
 rw [qae hc,qdn] at hI
 rw [qae hc,nmL,nmS_eq] at hB
 simp only [List.length_append] at hB
 simp -dsimp [go_sem,hN,hc]
 refine qaa (c_ref11_operands vs loops l[n] d hkt) ?_
 obtain ⟨oa,ob,oe,ho⟩:∃ oa ob oe,qc1 vs l[n]=(oa,ob,oe):=⟨_,_,_,rfl⟩
 have hr:=rstT_eq l[n] vs loops
 rw [ho] at hr
 simp only at hr
 rw [ho] at hI
 simp -dsimp [go_sem,hN,ho]
 by_cases hz:oe=0
 ·
  subst hz
  have hwrong:=c_ref11_wrong l[n].op oa ob
  rcases hop with ho1 | ho1 | ho1 | ho1 | ho1 | ho1 | ho1 | ho1
  ·
   have e0:rstT l[n] vs loops=0:=by rw [hr];simp [ho1,qbr]
   rw [e0,if_neg (by simp),if_pos ho1] at hI
   rw [if_pos (.inl ho1)] at hB
   simp only [List.length_singleton] at hB
   simp -dsimp [go_sem,hN,ho1]
   rw [ho1] at hwrong
   refine qaf hwrong (by simp) ?_
   simp -dsimp [go_sem,hN,qbr]
   refine qaa (c_ref11_with vs loops l[n].name oa false (by omega) (by omega)) ?_
   simp -dsimp [go_sem,hN,hw]
   refine ⟨hc,vs++[(l[n].name,oa)],⟨hI,by simp;omega,by simp;omega⟩,(Wk.mk (by simp [hh]) (by simp [go_sem]) (by simp [hu,qab hu,go_sem]) (by simp [go_sem]))⟩
  ·
   have e0:rstT l[n] vs loops=assignT vs loops l[n].name oa:=by rw [hr];simp [ho1,qbr]
   rw [e0] at hI
   simp -dsimp [go_sem,hN,ho1]
   refine qaa (c_ref11_assign vs loops l[n].name oa) ?_
   obtain ⟨a1,ha1⟩:∃ a1,assignT vs loops l[n].name oa=a1:=⟨_,rfl⟩
   rw [ha1] at hI ⊢
   by_cases hz1:a1=0
   ·
    subst hz1
    rw [if_neg (by simp),if_neg (by omega)] at hI
    simp -dsimp [go_sem,hN]
    rw [ho1] at hwrong
    refine qaf hwrong (by simp) ?_
    simp -dsimp [go_sem,hN,qbr,hw]
    exact ⟨hc,vs,⟨hI,by omega,hL⟩,(Wk.mk (by simp [hh]) (by simp [go_sem]) (by simp [hu,qab hu,go_sem]) (by simp [go_sem]))⟩
   ·
    rw [if_pos hz1] at hI
    simp -dsimp [go_sem,hN,hz1]
    rw [ho1] at hwrong
    refine qaf hwrong (by simp) ?_
    simp -dsimp [go_sem,hN,qbr,hz1]
    exact hI
  ·
   have e0:rstT l[n] vs loops=if qbr l[n].op oa ob=true then 10 else 0:=by rw [hr];simp [ho1]
   rw [e0] at hI
   simp -dsimp [go_sem,hN,ho1]
   rw [ho1] at hwrong hI
   refine qaf hwrong (by simp) ?_
   rcases hwt:qbr 3 oa ob with _ | _
   ·
    rw [hwt] at hI
    rw [if_neg (by simp),if_neg (by decide)] at hI
    simp -dsimp [go_sem,hN,hw]
    exact ⟨hc,vs,⟨hI,by omega,hL⟩,(Wk.mk (by simp [hh]) (by simp [go_sem]) (by simp [hu,qab hu,go_sem]) (by simp [go_sem]))⟩
   ·
    rw [hwt] at hI
    rw [if_pos (by simp)] at hI
    simp -dsimp [go_sem,hN]
    simpa using hI
  ·
   have e0:rstT l[n] vs loops=if qbr l[n].op oa ob=true then 10 else 0:=by rw [hr];simp [ho1]
   rw [e0] at hI
   simp -dsimp [go_sem,hN,ho1]
   rw [ho1] at hwrong hI
   refine qaf hwrong (by simp) ?_
   rcases hwt:qbr 4 oa ob with _ | _
   ·
    rw [hwt] at hI
    rw [if_neg (by simp),if_neg (by decide)] at hI
    simp -dsimp [go_sem,hN,hw]
    exact ⟨hc,vs,⟨hI,by omega,hL⟩,(Wk.mk (by simp [hh]) (by simp [go_sem]) (by simp [hu,qab hu,go_sem]) (by simp [go_sem]))⟩
   ·
    rw [hwt] at hI
    rw [if_pos (by simp)] at hI
    simp -dsimp [go_sem,hN]
    simpa using hI
  ·
   have e0:rstT l[n] vs loops=if qbr l[n].op oa ob=true then 10 else (if qdn l[n].body vs loops=0 then qdn l[n].els vs loops else qdn l[n].body vs loops):=by
    rw [hr]
    rcases qbr l[n].op oa ob with _ | _<;>simp [ho1]
   rw [e0] at hI
   simp -dsimp [go_sem,hN,ho1]
   rw [ho1] at hwrong hI
   refine qaf hwrong (by simp) ?_
   rcases hwt:qbr 5 oa ob with _ | _
   ·
    rw [hwt] at hI
    rw [if_neg (show ¬ (false=true) by simp)] at hI
    simp -dsimp [go_sem,hN]
    refine qaa (c_ref11_body l[n].body (d+1) vs loops hkt'.2.1 (by omega) hL) ?_
    obtain ⟨b1,hb1⟩:∃ b1,qdn l[n].body vs loops=b1:=⟨_,rfl⟩
    rw [hb1] at hI ⊢
    by_cases hz1:b1=0
    ·
     subst hz1
     rw [if_pos rfl] at hI
     simp -dsimp [go_sem,hN]
     refine qaa (c_ref11_body l[n].els (d+1) vs loops hkt'.2.2 (by omega) hL) ?_
     obtain ⟨b2,hb2⟩:∃ b2,qdn l[n].els vs loops=b2:=⟨_,rfl⟩
     rw [hb2] at hI ⊢
     by_cases hz2:b2=0
     ·
      subst hz2
      rw [if_neg (by simp),if_neg (by decide)] at hI
      simp -dsimp [go_sem,hN,hw]
      exact ⟨hc,vs,⟨hI,by omega,hL⟩,(Wk.mk (by simp [hh]) (by simp [go_sem]) (by simp [hu,qab hu,go_sem]) (by simp [go_sem]))⟩
     ·
      rw [if_pos hz2] at hI
      simp -dsimp [go_sem,hN,hz2]
      exact hI
    ·
     rw [if_neg hz1,if_pos hz1] at hI
     simp -dsimp [go_sem,hN,hz1]
     exact hI
   ·
    rw [hwt] at hI
    rw [if_pos (show true=true from rfl),if_pos (by simp)] at hI
    simp -dsimp [go_sem,hN]
    simpa using hI
  ·
   have e0:rstT l[n] vs loops=if qbr l[n].op oa ob=true then 10 else qdn l[n].body (vs++[(l[n].name,1)]) (loops++[l[n].name]):=by
    rw [hr]
    rcases qbr l[n].op oa ob with _ | _<;>simp [ho1]
   rw [e0] at hI
   rw [if_pos (.inr ho1)] at hB
   simp only [List.length_singleton] at hB
   simp -dsimp [go_sem,hN,ho1]
   rw [ho1] at hwrong hI
   refine qaf hwrong (by simp) ?_
   rcases hwt:qbr 6 oa ob with _ | _
   ·
    rw [hwt] at hI
    rw [if_neg (show ¬ (false=true) by simp)] at hI
    simp -dsimp [go_sem,hN]
    refine qah 6 mixed (by kernel_rfl) (by kernel_rfl) ?_
    simp -dsimp [go_sem,hN]
    refine qay (c_ref11_with vs loops l[n].name 1 true (by omega) (by omega)) (fun _=>trivial) ?_
    simp -dsimp [go_sem,hN]
    have hbd:=c_ref11_body l[n].body (d+1) (vs++[(l[n].name,1)]) (loops++[l[n].name]) hkt'.2.1 (by rw [List.length_append,List.length_singleton];omega) (by rw [List.length_append,List.length_append,List.length_singleton,List.length_singleton];omega)
    unfold scA at hbd
    rw [List.map_append,List.map_append] at hbd
    simp only [List.map_cons,List.map_nil,pRow,qbe] at hbd
    refine qaa hbd ?_
    obtain ⟨b1,hb1⟩:∃ b1,qdn l[n].body (vs++[(l[n].name,1)]) (loops++[l[n].name])=b1:=⟨_,rfl⟩
    rw [hb1] at hI ⊢
    by_cases hz1:b1=0
    ·
     subst hz1
     rw [if_neg (by simp),if_neg (by decide)] at hI
     simp -dsimp [go_sem,hN,hw]
     exact ⟨hc,vs,⟨hI,by omega,hL⟩,(Wk.mk (by simp [hh]) (by simp [go_sem]) (by simp [hu,qab hu,go_sem]) (by simp [go_sem]))⟩
    ·
     rw [if_pos hz1] at hI
     simp -dsimp [go_sem,hN,hz1]
     exact hI
   ·
    rw [hwt] at hI
    rw [if_pos (show true=true from rfl),if_pos (by simp)] at hI
    simp -dsimp [go_sem,hN]
    simpa using hI
  ·
   have e0:rstT l[n] vs loops=if qbr l[n].op oa ob=true then 10 else 0:=by rw [hr];simp [ho1]
   rw [e0] at hI
   simp -dsimp [go_sem,hN,ho1]
   rw [ho1] at hwrong hI
   refine qaf hwrong (by simp) ?_
   rcases hwt:qbr 7 oa ob with _ | _
   ·
    rw [hwt] at hI
    rw [if_neg (by simp),if_neg (by decide)] at hI
    simp -dsimp [go_sem,hN,hw]
    exact ⟨hc,vs,⟨hI,by omega,hL⟩,(Wk.mk (by simp [hh]) (by simp [go_sem]) (by simp [hu,qab hu,go_sem]) (by simp [go_sem]))⟩
   ·
    rw [hwt] at hI
    rw [if_pos (by simp)] at hI
    simp -dsimp [go_sem,hN]
    simpa using hI
  ·
   have e0:rstT l[n] vs loops=if qbr l[n].op oa ob=true then 10 else 0:=by rw [hr];simp [ho1]
   rw [e0] at hI
   simp -dsimp [go_sem,hN,ho1]
   rw [ho1] at hwrong hI
   refine qaf hwrong (by simp) ?_
   rcases hwt:qbr 8 oa ob with _ | _
   ·
    rw [hwt] at hI
    rw [if_neg (by simp),if_neg (by decide)] at hI
    simp -dsimp [go_sem,hN,hw]
    exact ⟨hc,vs,⟨hI,by omega,hL⟩,(Wk.mk (by simp [hh]) (by simp [go_sem]) (by simp [hu,qab hu,go_sem]) (by simp [go_sem]))⟩
   ·
    rw [hwt] at hI
    rw [if_pos (by simp)] at hI
    simp -dsimp [go_sem,hN]
    simpa using hI
 ·
  have e0:rstT l[n] vs loops=oe:=by rw [hr];simp [hz]
  rw [e0,if_pos hz] at hI
  simp -dsimp [go_sem,hN,hz]
  refine qaf (c_ref11_wrong l[n].op oa ob) (by simp) ?_
  simp -dsimp [go_sem,hN,hz]
  exact hI
termination_by SizeOf.sizeOf l
theorem valid_few {p:Proc} (h:qcf p=0):p.params.length≤6:=by
 unfold qcf at h
 split at h
 · cases h
 split at h
 · rename_i h1;exact (h1 h).elim
 ·
  rename_i h1
  simp only [Decidable.not_not] at h1
  unfold paramsE at h1
  split at h1
  · cases h1
  · omega
theorem nm_le {p:Proc} (h:qcf p=0):(nmL p.body).length≤401:=by
 have h1:=namesP_eq h
 rw [namesP_walk] at h1
 have h2:=List.append_cancel_left h1
 have h3:=(wkP_fold (keepS (σ:=Unit)) qbw p ()).1
 have h4:∀ l:List Vt,(nameV l).length≤l.length:=by
  intro l
  induction l with
  | nil=>simp [nameV]
  | cons v l ih=>rw [nameV];split<;>simp<;>omega
 have:=h4 (wkP p)
 rw [← h2]
 omega
theorem c_ref11_Check (p:Proc):APure Tryz.prog 91 [.agg p.c] (I (qcw p)):=by
 refine qak Tryz.func91 Tryz.ntmps91 rfl (by kernel_rfl) rfl rfl fun E h hN hh hu hb=>?_
 rw [← rtypeErr_eq]
 simp -dsimp [go_sem,hN]
 refine qaa (c_ref08_Validate p) ?_
 simp -dsimp [go_sem,hN]
 refine cnd ?_ ?_<;>intro h0<;>simp at h0
 · simp -dsimp [go_sem,hN,rtypeErr,h0]
 have hfew:=valid_few h0
 have hnm:=nm_le h0
 obtain ⟨R,hR⟩:∃ R,rtypeErr p=R:=⟨_,rfl⟩
 have hR':=hR
 unfold rtypeErr at hR'
 rw [if_neg (by simp [h0])] at hR'
 rw [hR]
 obtain ⟨vv,hvv⟩:∃ vv:Nat→Vis,∀ n,vv n=visP (p.params.take n):=⟨_,fun _=>rfl⟩
 have hv0:vv 0=[]:=by rw [hvv];rfl
 have hvl:vv p.params.length=visP p.params:=by rw [hvv,List.take_length]
 have hvn:∀ n,n≤p.params.length→(vv n).length=n:=fun n hn=>by rw [hvv];simp [visP];omega
 rw [← hvl] at hR'
 simp -dsimp [go_sem,hN]
 refine qai p.params.length (fun n=>(p.params.drop n).any (fun x=>decide (x.ty=3))=p.params.any (fun x=>decide (x.ty=3))) (fun n=>⟨[(1,P0 h.length),(4,P0 (h.length+1)),(5,I n)],h++[.cells p.c,.cells (scA (vv n) [])]⟩) (by simp) ?_ ?_
 · exact Wk.mk (by simp [hh]) (by simp [go_sem,hv0]) (by simp [hu,qab hu,go_sem]) (by simp [go_sem,hv0])
 intro n hn hI
 have hw:=qav hn (show _≤68719476736 by omega)
 simp -dsimp [go_sem,hN]
 refine cnd ?_ ?_<;>intro hc<;>simp at hc
 ·
  rw [qae hc,List.any_cons] at hI
  simp -dsimp [go_sem,hN,hc]
  refine cnd ?_ ?_<;>intro h3<;>simp at h3
  ·
   rw [if_pos (by rw [← hI];simp [h3])] at hR'
   simp -dsimp [go_sem,hN,← hR']
  ·
   simp -dsimp [go_sem,hN]
   refine qah 13 mixed (by kernel_rfl) (by kernel_rfl) ?_
   simp -dsimp [go_sem,hN,hc]
   refine qaa (c_ref11_with (vv n) [] p.params[n].name p.params[n].ty false (by rw [hvn n (by omega)];omega) (by simp)) ?_
   have e1:vv n++[(p.params[n].name,p.params[n].ty)]=vv (n+1):=by
    rw [hvv,hvv];unfold visP;rw [List.take_succ_eq_append_getElem hc,List.map_append];rfl
   rw [e1]
   simp -dsimp [go_sem,hN,hw]
   exact ⟨by simpa [h3] using hI,(Wk.mk (by simp [hh]) (by simp [go_sem]) (by simp [hu,qab hu,go_sem]) (by simp [go_sem]))⟩
 rw [List.drop_eq_nil_of_le (by omega)] at hI
 rw [if_neg (by rw [← hI];simp)] at hR'
 obtain rfl:n=p.params.length:=by omega
 simp -dsimp [go_sem,hN]
 refine qaa (c_ref08_Names p (by omega)) ?_
 rw [← namesP_walk]
 obtain ⟨N,hN2⟩:∃ N,qdz p=N:=⟨_,rfl⟩
 rw [hN2] at hR' ⊢
 have hNl:N.length≤407:=by rw [← hN2,namesP_eq h0];simp;omega
 simp -dsimp [go_sem,hN]
 refine qai N.length (fun k=>dupL (N.take k) (N.drop k)=dupL [] N) (fun k=>⟨[(1,P0 h.length),(4,P0 (h.length+1)),(6,.slice (N.map qbe)),(7,I k)],h++[.cells p.c,.cells (scA (vv p.params.length) [])]⟩) (by simp) (Wk.mk (by simp [hh]) (by simp [go_sem]) (by simp [hu,qab hu,go_sem]) (by simp [go_sem])) ?_
 intro k hk hJ
 have hw:=qav hk (show _≤68719476736 by omega)
 simp -dsimp [go_sem,hN]
 refine cnd ?_ ?_<;>intro hd<;>simp at hd
 ·
  rw [qae hd,dupL] at hJ
  simp -dsimp [go_sem,hN]
  refine qai k (fun q=>anyL (fun x=>decide (x=N[k])) ((N.take k).drop q)=anyL (fun x=>decide (x=N[k])) (N.take k)) (fun q=>⟨[(1,P0 h.length),(4,P0 (h.length+1)),(6,.slice (N.map qbe)),(7,I k),(8,I q)],h++[.cells p.c,.cells (scA (vv p.params.length) [])]⟩) (by simp) (Wk.mk (by simp [hh]) (by simp [go_sem]) (by simp [hu,qab hu,go_sem]) (by simp [go_sem])) ?_
  intro q hq hK
  have hw2:=qav hq (show _≤68719476736 by omega)
  simp -dsimp [go_sem,hN]
  refine cnd ?_ ?_<;>intro he<;>simp at he
  ·
   have he2:q<N.length:=by omega
   have hx:q<(N.take k).length:=by simp;omega
   rw [qae hx,anyL] at hK
   simp only [List.getElem_take] at hK
   simp -dsimp [go_sem,hN,he,he2,hd]
   refine qah 8 mixed (by kernel_rfl) (by kernel_rfl) ?_
   simp -dsimp [go_sem,hN,he,he2,hd]
   refine cnd ?_ ?_<;>intro hg<;>simp at hg
   ·
    have h1:hasK (N.take k) N[k]=true:=by unfold hasK;rw [← hK];simp [hg]
    have h2:dupL [] N=true:=by rw [← hJ,h1];rfl
    rw [if_pos h2] at hR'
    simp -dsimp [go_sem,hN,← hR']
   ·
    simp -dsimp [go_sem,hN,hw2]
    exact ⟨he,by simpa [hg] using hK,(Wk.mk (by simp [hh]) (by simp [go_sem]) (by simp [hu,qab hu,go_sem]) (by simp [go_sem]))⟩
  ·
   rw [List.drop_eq_nil_of_le (by simp;omega),anyL] at hK
   have h1:hasK (N.take k) N[k]=false:=by unfold hasK;rw [← hK]
   rw [h1,Bool.false_or] at hJ
   simp -dsimp [go_sem,hN,hw]
   exact ⟨hd,by rw [List.take_succ_eq_append_getElem hd];exact hJ,(Wk.mk (by simp [hh]) (by simp [go_sem]) (by simp [hu,qab hu,go_sem]) (by simp [go_sem]))⟩
 ·
  rw [List.drop_eq_nil_of_le (by omega),dupL] at hJ
  rw [← hJ,if_neg (by simp)] at hR'
  simp -dsimp [go_sem,hN]
  refine qaa (c_ref11_body p.body 1 (vv p.params.length) [] (validP_ok h0) (by rw [hvn _ (Nat.le_refl _)];omega) (by simp)) ?_
  simp -dsimp [go_sem,hN,hR']
theorem c_ref11_fits (x:Param) (v:V) (hx:x.ty=1∨x.ty=2):APure Tryz.prog 92 [.agg v.c,I x.ty] (Bo (argOk x v)):=by
 refine qak Tryz.func92 Tryz.ntmps92 rfl (by kernel_rfl) rfl rfl fun E h hN hh hu hb=>?_
 simp -dsimp [go_sem,hN]
 refine cnd ?_ ?_<;>intro h0<;>simp at h0
 · simp -dsimp [go_sem,hN,argOk,h0]
 simp -dsimp [go_sem,hN]
 refine qaf (c_ref08_Plain v.s) (by simp) ?_
 have h2:x.ty=2:=hx.resolve_left h0
 simp -dsimp [go_sem,hN,argOk,h2]
 try grind
theorem params_12 {p:Proc} (h:qcw p=0):∀ x∈p.params,x.ty=1∨x.ty=2:=by
 rw [← rtypeErr_eq] at h
 unfold rtypeErr at h
 split at h
 · rename_i h1;exact (h1 h).elim
 rename_i h1
 split at h
 · cases h
 rename_i h2
 intro x hx
 have hv:=valid_params (by simpa using h1) x hx
 have h3:x.ty≠3:=fun e=>h2 (List.any_eq_true.2 ⟨x,hx,by simp [e]⟩)
 omega
theorem c_ref11_Args (p:Proc) (args:List V):APure Tryz.prog 49 [.agg p.c,.slice (args.map V.c)] (I (qcz p args)):=by
 refine qak Tryz.func49 Tryz.ntmps49 rfl (by kernel_rfl) rfl rfl fun E h hN hh hu hb=>?_
 simp -dsimp [go_sem,hN]
 refine qaa (c_ref11_Check p) ?_
 simp -dsimp [go_sem,hN]
 repeat refine ⟨by grind,?_⟩
 refine cnd (fun h0=>?_) (fun h0=>?_)
 ·
  simp -dsimp [go_sem,hN]
  unfold qcz
  rw [if_pos (by simp at h0;omega)]
 have h0':qcw p=0∧args.length=p.params.length:=by simp at h0;omega
 have e0:qcz p args=if argsOk p.params args=true then 0 else 10:=by unfold qcz;rw [if_neg (by omega)]
 rw [e0]
 simp -dsimp [go_sem,hN]
 refine qai args.length (fun n=>argsOk (p.params.drop n) (args.drop n)=argsOk p.params args) (fun n=>⟨[(1,.slice (args.map V.c)),(2,P0 h.length),(5,I n)],h++[.cells p.c]⟩) (by simp) (Wk.mk (by simp [hh]) (by simp [go_sem]) (by simp [hu,qab hu,go_sem]) (by simp [go_sem])) ?_
 intro n hn hI
 simp [go_sem] at hb
 have hw:=qav hn (show _≤68719476736 by first | exact hb.2.1 | exact hb.2 | exact hb.1.2.1.1 | omega)
 simp -dsimp [go_sem,hN]
 refine cnd ?_ ?_<;>intro hc<;>simp at hc
 ·
  have hc2:n<p.params.length:=by omega
  rw [qae hc,qae hc2,argsOk] at hI
  simp -dsimp [go_sem,hN,hc,hc2]
  refine qah 10 mixed (by kernel_rfl) (by kernel_rfl) ?_
  simp -dsimp [go_sem,hN,hc,hc2]
  refine qaa (c_ref11_fits p.params[n] args[n] (params_12 h0'.1 _ (List.getElem_mem hc2))) ?_
  simp -dsimp [go_sem,hN]
  refine cnd ?_ ?_<;>intro h1<;>simp at h1
  · simp -dsimp [go_sem,hN,← hI,h1]
  ·
   simp -dsimp [go_sem,hN,hw]
   exact ⟨hc,by simpa [h1] using hI,(Wk.mk (by simp [hh]) (by simp [go_sem]) (by simp [hu,qab hu,go_sem]) (by simp [go_sem]))⟩
 ·
  rw [List.drop_eq_nil_of_le (show p.params.length≤n by omega),List.drop_eq_nil_of_le (show args.length≤n by omega)] at hI
  have hI':argsOk p.params args=true:=by rw [← hI];simp [argsOk]
  rw [if_pos hI'] at e0
  rw [if_pos hI']
  simp -dsimp [go_sem,hN]
end
end Go.Proofs.YtdbpbpmikpdjcaaGreatDoor
