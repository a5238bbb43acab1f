/- Part 39 of a proof: W30, W50, W51 -/
import Derived.Shelf.Small.Strs
import Derived.Shelf.Strconv.Itoa4
import Derived.Lib.ItoaLen
import Derived.Test.YtdbpbpmikpdjcaaGreatDoorQ13
import Derived.Test.YtdbpbpmikpdjcaaGreatDoorQ14
import Derived.Test.YtdbpbpmikpdjcaaGreatDoorQ15
import Derived.Test.YtdbpbpmikpdjcaaGreatDoorQ17
import Derived.Test.YtdbpbpmikpdjcaaGreatDoorQ18
import Derived.Test.YtdbpbpmikpdjcaaGreatDoorQ19
import Derived.Test.YtdbpbpmikpdjcaaGreatDoorQ20
import Derived.Test.YtdbpbpmikpdjcaaGreatDoorQ21
import Derived.Test.YtdbpbpmikpdjcaaGreatDoorQ23
import Derived.Test.YtdbpbpmikpdjcaaGreatDoorQ24
import Derived.Test.YtdbpbpmikpdjcaaGreatDoorQ25
import Derived.Test.YtdbpbpmikpdjcaaGreatDoorQ30
import Derived.Test.YtdbpbpmikpdjcaaGreatDoorQ33
import Derived.Test.YtdbpbpmikpdjcaaGreatDoorQ36
import Derived.Test.YtdbpbpmikpdjcaaGreatDoorQ38
set_option linter.all false

set_option maxRecDepth 4000
set_option maxHeartbeats 2000000
namespace Go.Proofs.YtdbpbpmikpdjcaaGreatDoor
open Go Go.Abs Go.Cw
attribute [local go_sem] mC
theorem kAV_vAV_und (n:Nat) (l:List (qad×V)):(AObj.map (kAV vAV l)).under n=true:=kAV_und (f:=vAV) (fun n a=>by simp [AV.under,V.c,qau]) n l
theorem kAV_u2 (n:Nat) (l:List (qad×V)):(∀ (a b:AV),(a,b)∈kAV vAV l→AV.under n a=true∧AV.under n b=true)=True:=by
 refine eq_true fun a b hab=>?_
 obtain ⟨s,x,rfl,rfl⟩:=kAV_mem hab
 simp [AV.under,V.c,qau]
theorem setArgs_nil (m:List (qad×V)):qdl [] [] m=m:=rfl
theorem MH_run (st:List Pr) (ft:Foot) (fmt:Int→qad) (h A L:qac) {g:Nat} {tb:AObj} {tV tS:Nat} (hg:h[g]?=some tb) (hu:hUnder h.length h=true) (a l:Nat) (hA:A.length=a) (hL:L.length=l) (uA:hUnder (h.length+(a+l+7)) A=true) (uL:hUnder (h.length+(a+l+7)) L=true) :
  MH (cfgR fmt st ft) tb tV tS g (h.length+(a+3)) (h.length+(a+1)) (h.length+(a+2)) (h.length+(a+l+4)) (h.length+(a+l+5)) (h.length+(a+l+6))
   (fun q=>h++(A++(.cells ft.c::.map (kAV vAV q.vars)::.map (kAV vAV q.own)::.cells (mC (cfgR fmt st ft) (h.length+(a+1)) (h.length+(a+2)) (h.length+(a+l+4)) (h.length+(a+l+5)) (h.length+(a+l+6)) q)::(L++[.arr tV 3 (q.out.map V.c),.uarr tS 1 (q.reads.map qbe),.uarr tS 1 (q.puts.map qbe)])))) (h.length+(a+l+7)):=by
 have hgl:g<h.length:=(List.getElem?_eq_some_iff.1 hg).1
 subst hA;subst hL
 have e1:∀ (X:qac) (k:Nat),(h++X)[h.length+k]?=X[k]?:=fun X k=>by rw [List.getElem?_append_right (by omega)];congr 1;omega
 have e2:∀ (X:qac) (k:Nat),(A++X)[A.length+k]?=X[k]?:=fun X k=>by rw [List.getElem?_append_right (by omega)];congr 1;omega
 have e3:∀ (X:qac) (k:Nat),(L++X)[L.length+k]?=X[k]?:=fun X k=>by rw [List.getElem?_append_right (by omega)];congr 1;omega
 have s1:∀ (X:qac) (k:Nat) (y:AObj),(h++X).set (h.length+k) y=h++X.set k y:=fun X k y=>by rw [List.set_append_right _ _ (by omega)];congr 2;omega
 have s2:∀ (X:qac) (k:Nat) (y:AObj),(A++X).set (A.length+k) y=A++X.set k y:=fun X k y=>by rw [List.set_append_right _ _ (by omega)];congr 2;omega
 have s3:∀ (X:qac) (k:Nat) (y:AObj),(L++X).set (L.length+k) y=L++X.set k y:=fun X k y=>by rw [List.set_append_right _ _ (by omega)];congr 2;omega
 have e4:∀ (a b c d:AObj) (X:qac) (k:Nat),(a::b::c::d::(L++X))[L.length+4+k]?=X[k]?:=fun a b c d X k=>by
  rw [show L.length+4+k=(L.length+k)+1+1+1+1 by omega]
  simp only [List.getElem?_cons_succ]
  exact e3 X k
 have s4:∀ (a b c d y:AObj) (X:qac) (k:Nat),(a::b::c::d::(L++X)).set (L.length+4+k) y=a::b::c::d::(L++X.set k y):=fun a b c d y X k=>by
  rw [show L.length+4+k=(L.length+k)+1+1+1+1 by omega]
  simp only [List.set_cons_succ]
  rw [s3]
 have i0:h.length+(A.length+L.length+4)=h.length+(A.length+(L.length+4+0)):=by omega
 have i1:h.length+(A.length+L.length+5)=h.length+(A.length+(L.length+4+1)):=by omega
 have i2:h.length+(A.length+L.length+6)=h.length+(A.length+(L.length+4+2)):=by omega
 constructor
 case lg=>intro q;rw [List.getElem?_append_left hgl];exact hg
 case len=>intro q;simp;omega
 case und =>
  intro q
  rw [qax,qa1 (Nat.le_add_right _ _) hu,qax,uA]
  simp only [hUnder,kAV_vAV_und,qax,uL,Bool.true_and,Bool.and_true]
  simp [AObj.under,AV.under,qau,mC,Foot.c]
  omega
 case lm=>intro q;rw [e1,e2];rfl
 case lv=>intro q;rw [e1,e2];rfl
 case lo=>intro q;rw [e1,e2];rfl
 case lio=>intro q;rw [i0,e1,e2,e4];rfl
 case lir=>intro q;rw [i1,e1,e2,e4];rfl
 case lip=>intro q;rw [i2,e1,e2,e4];rfl
 case sm=>intro q no nr np s;rw [s1,s2];rfl
 case sv=>intro q x;rw [s1,s2];rfl
 case so=>intro q x;rw [s1,s2];rfl
 case sio=>intro q x;simp only [i0,s1,s2,s4];rfl
 case sir=>intro q x;simp only [i1,s1,s2,s4];rfl
 case sip=>intro q x;simp only [i2,s1,s2,s4];rfl
 all_goals omega
variable {C:Cfg} {tT:TypeId} {tx:Nat×Nat} {g m v o io ir ip:Nat} {K:MQ→qac} {n0:Nat}
theorem c_interp_Run1 (hF:C.fmt=qbm) (hC:rngC C) (p:Proc) (hG:∀ x∈p.body,goS x) (Y:MHs C tT tx g m v o io ir ip K n0) (s:MS) (hI:Cw.Inv 0 0 s) {a b:Nat} (ha:∀ q,(K q)[a]?=some (.cells [.ptr m 0])) (hb0:∀ q,(K q)[b]?=some (.cells p.c)) :
  ACalls Tryz.prog 89 [.ptr a 0,.ptr b 0] (K s.q) fun r h'=>r=endU (qdd C p.body s).1∧h'=K (qdd C p.body s).2.q:=by
 refine qa0 Tryz.func89 Tryz.ntmps89 rfl (by kernel_rfl) rfl fun E hN hh hu hb hb' hua=>?_
 simp -dsimp [go_sem,hN,ha,hb0]
 refine qam (qec hF hC p.body hG Y s hI) ?_
 rintro r h' ⟨rfl,rfl⟩
 rcases qdd C p.body s with ⟨z | ⟨⟩,s1⟩<;>simp -dsimp [go_sem,hN,endU]<;>exact ⟨_,.refl _,K s1.q,by simp [go_sem],by first | exact hwk.refl _ | exact hwk.app0 _ | simp [hwk.refl],by simp [Y.len],Y.und' _,by first | rfl | simp,by first | rfl | simp [MS.q]⟩
abbrev effZ:AObj:=.cells [I 0,I 0,.nils,.nils,.nils,.nils,S em,I 0]
def endC:Except Stop Unit→List AV
 | .ok _=>zs
 | .error z=>[I z.status,I z.code,.slice [],S z.miss]
def isE:Except Stop Unit→Bool
 | .ok _=>false
 | .error _=>true
@[simp] theorem norm_endC (H:qac) (x:Except Stop Unit):qbg H (endC x)=endC x:=by cases x<;>rfl
@[simp] theorem under_endC (n:Nat) (x:Except Stop Unit):qau n (endC x)=true:=by cases x<;>rfl
theorem c_run_of {a:AV} {f:FuncId} {caps:List AV} {h h1:qac} {x:Except Stop Unit} (hl:h1.length=h.length) (hu:hUnder h.length h1=true) (hc:∀ H,qbg H caps=caps) (hg:ACalls Tryz.prog f caps (h++[.cells [I 0,I 0,.nils,S em],.cells [Bo false]]) fun r h'=>r=endU x∧h'=h1++[.cells [I 0,I 0,.nils,S em],.cells [Bo false]]) :
  ACalls Tryz.prog 88 [a,.fn (.func f) [] caps] h fun r h'=>r=.ret (.tuple [.agg (endC x),Bo (isE x)])∧h'=h1:=by
 refine c_interp_run a (g:=f) (first:=[]) (caps:=caps) (by rw [List.nil_append,hc];exact hg) ?_ ?_
 ·
  rintro r h' ⟨rfl,rfl⟩ _
  have e1:(h1++[AObj.cells [I 0,I 0,.nils,S em],AObj.cells [Bo false]])[h.length]?=some (.cells [I 0,I 0,.nils,S em]):=by rw [← hl];simp
  have e2:(h1++[AObj.cells [I 0,I 0,.nils,S em],AObj.cells [Bo false]])[h.length+1]?=some (.cells [Bo false]):=by rw [← hl];simp
  have e3:(h1++[AObj.cells [I 0,I 0,.nils,S em],AObj.cells [Bo false]]).take h.length=h1:=by rw [← hl];simp
  refine ⟨⟨_,e1,rfl⟩,⟨_,e2⟩,by rw [e3];exact hu,?_⟩
  rw [e3]
  rcases x with z | u
  · exact ⟨rfl,rfl,by simp [qau,AV.under],rfl,rfl⟩
  · exact ⟨rfl,rfl⟩
 ·
  rintro h' st ⟨h1,_⟩ H
  rcases x with z | u
  ·
   simp only [endU,stopAV,AEnd.panic.injEq,AV.iface.injEq,AV.agg.injEq,true_and] at h1
   subst h1
   rfl
  · cases h1
theorem c_machine_finish {h:qac} (x:Except Stop Unit) (s:MS) (hm:h[m]?=some (.cells (mC C v o io ir ip s.q))) (hio:h[io]?=some (.arr 77 3 (s.out.map V.c))) (hir:h[ir]?=some (.arr 9 1 (s.reads.map qbe))) (hip:h[ip]?=some (.arr 9 1 (s.puts.map qbe)))
  (ho:h[o]?=some (.map (kAV vAV s.own))) (hl:s.puts.length+1≤68719476736) :
  ACalls Tryz.prog 87 [.ptr m 0,.agg (endC x),Bo (isE x)] h fun r h'=>r=.ret (.agg (doneS (x,s)).c)∧h'=h:=by
 rcases x with z | u
 · exact c_machine_finish_stop s.q hm hir hip rfl rfl z
 · exact c_machine_finish_ok s.q hm hio hir hip ho rfl rfl rfl hl
theorem c_interp_Run (p:Proc) (args:List V) (st:List Pr) (ft:Foot) (h:qac) (hg:h[g]?=some (tabO tT tx)) (hI:RunIn qbm p args st) :
  ACalls Tryz.prog 48 [.agg p.c,.slice (args.map V.c),.slice (st.map Pr.c),.agg ft.c] h fun r h'=>r=.ret (.agg (runS qbm p args st ft).c)∧h'=h:=by
 refine qa0 Tryz.func48 Tryz.ntmps48 rfl (by kernel_rfl) rfl fun E hN hh hu hb hb' hua=>?_
 simp [go_sem] at hb
 simp -dsimp [go_sem,hN]
 refine qaa (c_cost_Check p) ?_
 simp -dsimp [go_sem,hN]
 refine qaf (c_types_Args p args) (by simp) ?_
 simp -dsimp [go_sem,hN]
 refine qaf (c_state_Valid st) (by simp) ?_
 simp -dsimp [go_sem,hN]
 refine qaf (c_interp_valid ft.all ft.reads ft.writes) (by simp) ?_
 simp -dsimp [go_sem,hN]
 repeat refine ⟨by grind,?_⟩
 refine cnd ?_ ?_<;>intro h0<;>simp at h0
 ·
  have hno:¬ runOk p args st ft:=by rw [qci];grind
  rw [runS_no hno]
  simp -dsimp [go_sem,hN]
  refine qam (c_interp_wrong _) ?_
  rintro r h' ⟨rfl,rfl⟩
  simp -dsimp [go_sem,hN]
  exact ⟨_,.refl _,h,by simp [go_sem],hwk.app0 _,Nat.le_refl _,hu,rfl,rfl⟩
 have hok:runOk p args st ft:=by rw [qci];grind
 have hok':=(qci _ _ _ _).1 hok
 have hlen:=(argsErr_ok hok'.2.1).1
 rw [qd8 hok]
 simp -dsimp [go_sem,hN]
 refine qam (c_interp_newMachine st ft _) ?_
 rintro r h' ⟨rfl,rfl⟩
 simp -dsimp [go_sem,hN]
 have Y:=MH_run (tb:=tabO tT tx) (tV:=77) (tS:=9) st ft qbm h [.cells p.c,.cells ft.c,effZ] [.cells [.ptr (h.length+6) 0]] hg hu 3 1 rfl rfl (by simp [hUnder,AObj.under,AV.under,qau,Proc.c,Foot.c]) (by simp [hUnder,AObj.under,AV.under,qau])
 simp only [List.cons_append,List.nil_append,Nat.reduceAdd] at Y
 refine qat (α:=List (qad×V)) p.params.length (fun n vs=>qdl (p.params.drop n) (args.drop n) vs=qdl p.params args []) (fun n vs=>⟨[(1,.slice (args.map V.c)),(4,.ptr h.length 0),(8,.ptr (h.length+2) 0),(9,.ptr (h.length+7) 0),(36,.slice (p.params.map Param.c)),(37,I p.params.length),(38,I n)],h++[.cells p.c,.cells ft.c,effZ,.cells ft.c,.map (kAV vAV vs),.map (kAV vAV []),.cells (mC (cfgR qbm st ft) (h.length+4) (h.length+5) (h.length+8) (h.length+9) (h.length+10) ⟨vs,[],[],[],[],0,0,0,0⟩),.cells [.ptr (h.length+6) 0],.arr 77 3 [],.uarr 9 1 [],.uarr 9 1 []]⟩) [] (by simp) ?_ ?_
 ·
  refine (nilc_wk E _ (p:=h.length+6) (j:=8) (t:=77) (sz:=3) (xs:=[.slice (st.map Pr.c),Bo ft.all,.slice (ft.reads.map qbe),.slice (ft.writes.map qbe),.mapr (h.length+4),.mapr (h.length+5),I 0,I 0,.nils,.nils,.nils,.nils,S em,I 0]) (by simp) rfl).trans ?_
  simp
  refine (nilcu_wk E _ (p:=h.length+6) (j:=9) (t:=9) (sz:=1) (xs:=[.slice (st.map Pr.c),Bo ft.all,.slice (ft.reads.map qbe),.slice (ft.writes.map qbe),.mapr (h.length+4),.mapr (h.length+5),I 0,I 0,.own (h.length+8) 0,.nils,.nils,.nils,S em,I 0]) (by simp) rfl).trans ?_
  simp
  refine (nilcu_wk E _ (p:=h.length+6) (j:=10) (t:=9) (sz:=1) (xs:=[.slice (st.map Pr.c),Bo ft.all,.slice (ft.reads.map qbe),.slice (ft.writes.map qbe),.mapr (h.length+4),.mapr (h.length+5),I 0,I 0,.own (h.length+8) 0,.own (h.length+9) 0,.nils,.nils,S em,I 0]) (by simp) rfl).trans ?_
  simp [kAV,qdm]
  exact (Wk.mk (by simp [hh]) (by simp [go_sem]) (by simp [hu,qab hu,go_sem]) (by simp [go_sem]))
 intro n vs hn hI2
 have hw:=qav hn hb.1.2.1.1
 simp -dsimp [go_sem,hN]
 refine cnd ?_ ?_<;>intro hc<;>simp at hc
 ·
  have hc2:n<args.length:=by omega
  simp -dsimp [go_sem,hN,hc]
  refine qah 10 mixed (by kernel_rfl) (by kernel_rfl) ?_
  simp -dsimp [go_sem,hN,hc,hc2,hw]
  refine ⟨qce vs p.params[n].name args[n],?_,Wk.mk (by simp [hh]) (by simp [go_sem]) (by simp [hu,qab hu,go_sem,kAV_u2]) (by simp [go_sem])⟩
  rw [qae hc,qae hc2,qdl] at hI2
  exact hI2
 ·
  rw [List.drop_eq_nil_of_le hc,List.drop_eq_nil_of_le (by omega),setArgs_nil] at hI2
  subst hI2
  obtain ⟨x,s1,hB⟩:∃ x s1,qdd (cfgR qbm st ft) p.body (ms0 p args)=(x,s1):=⟨_,_,rfl⟩
  have hd:=(dl_blk (C:=cfgR qbm st ft) (fun q hq=>hI.st q hq) p.body 1 (ms0 p args) (cost_okL hok'.1) (cost_goS hok'.1 hI.body) (inv0 hI)).pu
  rw [hB] at hd
  have hnl:=cost_nL hok'.1
  have hlim:=cost_lim hok'.1
  simp only [List.length_nil,Nat.zero_add] at hd
  have Y2:=Y.ext [.cells [I 0,I 0,.nils,S em],.cells [Bo false]] (by simp [hUnder,AObj.under,AV.under,qau])
  have hr:=c_interp_Run1 (C:=cfgR qbm st ft) rfl (fun q hq=>hI.st q hq) p (cost_goS hok'.1 hI.body) Y2 (ms0 p args) (inv0 hI) (a:=h.length+7) (b:=h.length) (by intro q;simp) (by intro q;simp)
  rw [hB] at hr
  have hrun:=c_run_of (a:=.ptr (h.length+6) 0) (by simp) (by simp [qax,hu,qa1,qab hu,go_sem,kAV_u2,MS.q]) (fun H=>by simp [qbg,AV.norm]) hr
  simp -dsimp [go_sem,hN]
  refine awp_drawK 6 3 [0] mixed (by kernel_rfl) ?_
  simp -dsimp [go_sem,hN]
  refine tkcall_ret hrun ?_
  simp -dsimp [go_sem,hN]
  obtain ⟨Hd,hHd⟩:∃ Hd:AObj→AObj→qac,∀ u1 u2,Hd u1 u2=h++[.cells p.c,.cells ft.c,effZ,.cells ft.c,.map (kAV vAV s1.vars),.map (kAV vAV s1.own),.cells (mC (cfgR qbm st ft) (h.length+4) (h.length+5) (h.length+8) (h.length+9) (h.length+10) s1.q),.cells [.ptr (h.length+6) 0],.arr 77 3 (s1.out.map V.c),u1,u2]:=⟨fun u1 u2=>_,fun _ _=>rfl⟩
  have hw2:∀ E,Wk E ⟨[],Hd (.uarr 9 1 (s1.reads.map qbe)) (.uarr 9 1 (s1.puts.map qbe))⟩ ⟨[],Hd (.arr 9 1 (s1.reads.map qbe)) (.arr 9 1 (s1.puts.map qbe))⟩:=fun E=>by
   have d1:=demote_wk E ⟨[],Hd (.uarr 9 1 (s1.reads.map qbe)) (.uarr 9 1 (s1.puts.map qbe))⟩ (i:=h.length+9) (t:=9) (sz:=1) (rows:=s1.reads.map qbe) (by simp [hHd])
   have d2:=demote_wk E ⟨[],Hd (.arr 9 1 (s1.reads.map qbe)) (.uarr 9 1 (s1.puts.map qbe))⟩ (i:=h.length+10) (t:=9) (sz:=1) (rows:=s1.puts.map qbe) (by simp [hHd])
   refine d1.trans ?_
   have e1:(Hd (.uarr 9 1 (s1.reads.map qbe)) (.uarr 9 1 (s1.puts.map qbe))).set (h.length+9) (.arr 9 1 (s1.reads.map qbe))=Hd (.arr 9 1 (s1.reads.map qbe)) (.uarr 9 1 (s1.puts.map qbe)):=by simp [hHd]
   have e2:(Hd (.arr 9 1 (s1.reads.map qbe)) (.uarr 9 1 (s1.puts.map qbe))).set (h.length+10) (.arr 9 1 (s1.puts.map qbe))=Hd (.arr 9 1 (s1.reads.map qbe)) (.arr 9 1 (s1.puts.map qbe)):=by simp [hHd]
   rw [e2] at d2
   rw [e1]
   exact d2
  have hfin:=c_machine_finish (C:=cfgR qbm st ft) (m:=h.length+6) (v:=h.length+4) (o:=h.length+5) (io:=h.length+8) (ir:=h.length+9) (ip:=h.length+10) (h:=Hd (.arr 9 1 (s1.reads.map qbe)) (.arr 9 1 (s1.puts.map qbe))) x s1 (by simp [hHd]) (by simp [hHd]) (by simp [hHd]) (by simp [hHd]) (by simp [hHd]) (by omega)
  have hfin2:=acalls_wk hw2 hfin
  rw [hHd,hHd] at hfin2
  refine qam hfin2 ?_
  rintro r h' ⟨rfl,rfl⟩
  simp -dsimp [go_sem,hN]
  rw [hB]
  exact ⟨_,.refl _,h,by simp [go_sem],hwk.app0 _,Nat.le_refl _,hu,rfl,rfl⟩
end Go.Proofs.YtdbpbpmikpdjcaaGreatDoor

set_option maxRecDepth 4000
set_option maxHeartbeats 2000000
namespace Go.Proofs.YtdbpbpmikpdjcaaGreatDoor
open Go Go.Abs Go.Cw
theorem c_serial_find1 (x:Proc) (h:qac) (i:Nat) (t:Txn) (hi:h[i]?=some (.cells t.c)):ACalls Tryz.prog 82 [.agg x.c,.ptr i 0] h fun r h'=>r=.ret (Bo (decide (x.name=t.proc)))∧h'=h:=by
 refine qa0 Tryz.func82 Tryz.ntmps82 rfl (by kernel_rfl) rfl fun E hN hh hu hb hb' hua=>?_
 have hi':i<h.length:=(List.getElem?_eq_some_iff.1 hi).1
 have a1:∀ l,(h++l)[i]?=some (.cells t.c):=fun l=>by rw [List.getElem?_append_left hi'];exact hi
 simp -dsimp [go_sem,hN,a1,hu,Txn.c]
 exact ⟨_,.refl _,h,by simp [go_sem],by simp [go_sem],by simp,by simp [hu,go_sem],rfl,rfl⟩
theorem c_IndexFunc_Proc (l:List Proc) (f:FuncId) (caps:List AV) (q:Proc→Bool) (h:qac) (hcn:qbg h caps=caps) (hp:∀ x:Proc,ACalls Tryz.prog f ([.agg x.c]++caps) h fun r h'=>r=.ret (Bo (q x))∧h'=h) :
  ACalls Tryz.prog 54 [.slice (l.map Proc.c),.fn (.func f) [] caps] h fun r h'=>r=.ret (I (idxOf q l))∧h'=h:=by
 refine qa0 Tryz.func54 Tryz.ntmps54 rfl (by kernel_rfl) rfl fun E hN hh hu hb hb' hua=>?_
 simp [go_sem] at hb
 simp -dsimp [go_sem,hN]
 refine qai l.length (fun n=>qcm q n (l.drop n)=idxOf q l) (fun n=>⟨[(0,.slice (l.map Proc.c)),(1,.fn (.func f) [] caps),(7,I l.length),(8,I n)],h⟩) (by simp [idxOf]) (Wk.mk (by simp [hh]) (by simp) (by simp [hu]) (by simp [go_sem];simpa [go_sem] using hua)) ?_
 intro n hn hI
 have hw:=qav hn hb.1
 simp -dsimp [go_sem,hN]
 refine cnd ?_ ?_<;>intro hc<;>simp at hc
 ·
  rw [qae hc,qcm] at hI
  simp -dsimp [go_sem,hN,hc,hcn]
  refine qam (hp l[n]) ?_
  rintro r h' ⟨rfl,rfl⟩
  simp -dsimp [go_sem,hN]
  refine cnd ?_ ?_<;>intro hg<;>try simp at hg
  ·
   simp -dsimp [go_sem,hN]
   rw [if_pos hg] at hI
   rw [hI]
   exact ⟨_,.refl _,h',by simp [go_sem],by simp [go_sem],by simp,by simp [hu,go_sem],rfl,rfl⟩
  ·
   simp -dsimp [go_sem,hN,hw]
   exact ⟨hc,by simpa [hg] using hI,Wk.mk (by simp [hh]) (by simp) (by simp [hu]) (by simp [go_sem];simpa [go_sem] using hua)⟩
 ·
  rw [List.drop_eq_nil_of_le (by omega),qcm] at hI
  simp -dsimp [go_sem,hN,← hI]
  exact ⟨_,.refl _,h,by simp [go_sem],by simp [go_sem],by simp,by simp [hu,go_sem],rfl,rfl⟩
theorem idxFrom_find {α:Type} (q:α→Bool):∀ (l:List α) (n:Nat),(qcm q n l = -1∧l.find? q=none)∨∃ (m:Nat) (hm:m<l.length),qcm q n l=((n+m:Nat):Int)∧l.find? q=some l[m]
 | [],n=>.inl ⟨by rw [qcm],rfl⟩
 | x::l,n=>by
  rw [qcm]
  by_cases h:q x=true
  ·
   right
   exact ⟨0,by simp,by simp [h],by simp [h]⟩
  ·
   rw [if_neg h]
   rcases idxFrom_find q l (n+1) with ⟨h1,h2⟩ | ⟨m,hm,h1,h2⟩
   · exact .inl ⟨h1,by simp [h,h2]⟩
   ·
    refine .inr ⟨m+1,by simp;omega,?_,?_⟩
    · rw [h1];congr 1;omega
    · simp [h,h2]
theorem idxOf_find {α:Type} (q:α→Bool) (l:List α):(idxOf q l = -1∧l.find? q=none)∨∃ (m:Nat) (hm:m<l.length),idxOf q l=(m:Int)∧l.find? q=some l[m]:=by
 have:=idxFrom_find q l 0
 simpa [idxOf] using this
def noProc:Proc:=⟨em,[],[]⟩
theorem c_serial_find (procs:List Proc) (t:Txn):APure Tryz.prog 46 [.slice (procs.map Proc.c),.agg t.c] (.tuple [.agg ((findP procs t).getD noProc).c,Bo (findP procs t).isSome]):=by
 refine qak Tryz.func46 Tryz.ntmps46 rfl (by kernel_rfl) rfl rfl fun E h hN hh hu hb=>?_
 simp [go_sem] at hb
 obtain ⟨R,hR⟩:∃ R,findP procs t=R:=⟨_,rfl⟩
 rw [hR]
 unfold findP findN at hR
 simp -dsimp [go_sem,hN]
 refine qam (c_IndexFunc_Proc procs _ _ (fun x=>decide (x.name=t.proc)) _ (by simp [qbg,AV.norm]) (fun x=>c_serial_find1 x _ _ t (by simp [Txn.c]))) ?_
 rintro r h' ⟨rfl,rfl⟩
 rcases idxOf_find (fun x:Proc=>decide (x.name=t.proc)) procs with ⟨h1,h2⟩ | ⟨m,hm,h1,h2⟩
 ·
  rw [h2] at hR
  simp only at hR
  subst hR
  rw [h1]
  simp -dsimp [go_sem,hN]
  refine qah 9 mixed (by kernel_rfl) (by kernel_rfl) ?_
  simp -dsimp [go_sem,hN]
  refine qdy ?_
  simp -dsimp [go_sem,hN,noProc]
 ·
  rw [h2] at hR
  simp only at hR
  rw [h1]
  simp -dsimp [go_sem,hN]
  refine qah 9 mixed (by kernel_rfl) (by kernel_rfl) ?_
  simp -dsimp [go_sem,hN,hm,Txn.c]
  refine qaf (c_types_Args procs[m] t.args) (by simp) ?_
  simp -dsimp [go_sem,hN]
  refine cnd ?_ ?_<;>intro h3<;>simp at h3
  ·
   rw [if_neg (by omega)] at hR
   subst hR
   simp -dsimp [go_sem,hN,noProc]
  ·
   rw [if_pos (by omega)] at hR
   subst hR
   simp -dsimp [go_sem,hN,hm]
variable {tT:TypeId} {tx:Nat×Nat} {g:Nat}
theorem c_serial_One (procs:List Proc) (s:List Pr) (t:Txn) (h:qac) (hg:h[g]?=some (tabO tT tx)) (hI:∀ p,findP procs t=some p→RunIn qbm p t.args s) (hL:s.length≤60000000000) :
  ACalls Tryz.prog 20 [.slice (procs.map Proc.c),.slice (s.map Pr.c),.agg t.c] h fun r h'=>r=.ret (.tuple [.slice ((oneS qbm procs s t).1.map Pr.c),.agg (oneS qbm procs s t).2.c])∧h'=h:=by
 refine qa0 Tryz.func20 Tryz.ntmps20 rfl (by kernel_rfl) rfl fun E hN hh hu hb hb' hua=>?_
 have hgl:g<h.length:=(List.getElem?_eq_some_iff.1 hg).1
 have hg':∀ l:qac,(h++l)[g]?=some (tabO tT tx):=fun l=>by rw [List.getElem?_append_left hgl];exact hg
 simp [go_sem] at hb
 obtain ⟨R,hR⟩:∃ R,oneS qbm procs s t=R:=⟨_,rfl⟩
 rw [hR]
 unfold oneS at hR
 simp -dsimp [go_sem,hN,Txn.c]
 refine qaa (c_serial_find procs t) ?_
 rcases hF:findP procs t with _ | p
 ·
  rw [hF] at hR
  simp only at hR
  subst hR
  simp -dsimp [go_sem,hN,noProc]
  refine qaa (c_Clone_P s) ?_
  simp -dsimp [go_sem,hN,wrongE]
  exact ⟨_,.refl _,h,by simp [go_sem],hwk.app0 _,Nat.le_refl _,hu,rfl,rfl⟩
 ·
  rw [hF] at hR
  simp only at hR
  have hRun:=hI p hF
  have hc1:=fun h=>run_commit_ok (fmt:=qbm) (p:=p) (args:=t.args) (s:=s) (ft:=t.ft) h
  have hc2:=fun h=>(run_commit (ft:=t.ft) hRun h).2.2
  have hlw:=run_lenW (ft:=t.ft) hRun
  have hcall:=fun H hH=>c_interp_Run (g:=g) (tT:=tT) (tx:=tx) p t.args s t.ft H hH hRun
  obtain ⟨e,he⟩:∃ e,runS qbm p t.args s t.ft=e:=⟨_,rfl⟩
  rw [he] at hR hc1 hc2 hlw
  simp only [he] at hcall
  simp -dsimp [go_sem,hN]
  refine qam (hcall _ (hg' _)) ?_
  rintro r h' ⟨rfl,rfl⟩
  simp -dsimp [go_sem,hN]
  refine cnd ?_ ?_<;>intro h0<;>simp at h0
  ·
   rw [if_pos h0] at hR
   subst hR
   have hA:=c_state_Apply s e.writes (by omega)
   rw [hc1 h0,hc2 h0] at hA
   simp only [Bool.and_self,if_true] at hA
   simp -dsimp [go_sem,hN]
   refine qaa hA ?_
   simp -dsimp [go_sem,hN]
   refine qah 3 mixed (by kernel_rfl) (by kernel_rfl) ?_
   simp -dsimp [go_sem,hN]
   exact ⟨_,.refl _,h,by simp [go_sem],hwk.app0 _,Nat.le_refl _,hu,rfl,rfl⟩
  ·
   rw [if_neg h0] at hR
   subst hR
   simp -dsimp [go_sem,hN]
   refine qah 4 mixed (by kernel_rfl) (by kernel_rfl) ?_
   simp -dsimp [go_sem,hN]
   refine qay (c_Clone_P s) (by simp) ?_
   simp -dsimp [go_sem,hN]
   exact ⟨_,.refl _,h,by simp [go_sem],hwk.app0 _,Nat.le_refl _,hu,rfl,rfl⟩
end Go.Proofs.YtdbpbpmikpdjcaaGreatDoor

set_option maxRecDepth 4000
set_option maxHeartbeats 2000000
namespace Go.Proofs.YtdbpbpmikpdjcaaGreatDoor
open Go Go.Abs Go.Cw
theorem c_occ_writes (e:Eff) (k:qad):APure Tryz.prog 72 [.agg e.c,S k] (Bo (wroteS e k)):=by
 refine qak Tryz.func72 Tryz.ntmps72 rfl (by kernel_rfl) rfl rfl fun E h hN hh hu hb=>?_
 simp [go_sem,Eff.c] at hb
 simp -dsimp [go_sem,hN,Eff.c]
 refine cnd ?_ ?_<;>intro h0<;>simp at h0
 ·
  simp -dsimp [go_sem,hN]
  simp [wroteS,h0]
 simp -dsimp [go_sem,hN]
 refine qai e.writes.length (fun n=>anyL (fun p:Pr=>decide (p.key=k)) (e.writes.drop n)=hasP e.writes k) (fun n=>⟨[(1,S k),(12,.slice (e.writes.map Pr.c)),(13,I e.writes.length),(14,I n)],h++[.cells e.c]⟩) (by simp [hasP]) (Wk.mk (by simp [hh]) (by simp [go_sem]) (by simp [hu,qab hu,go_sem]) (by simp [go_sem,Eff.c])) ?_
 intro n hn hI
 have hw:=qav hn (show _≤68719476736 by omega)
 simp -dsimp [go_sem,hN]
 refine cnd ?_ ?_<;>intro hc<;>simp at hc
 ·
  rw [qae hc,anyL] at hI
  simp -dsimp [go_sem,hN,hc]
  refine cnd ?_ ?_<;>intro h1<;>simp at h1
  ·
   simp -dsimp [go_sem,hN]
   simp [wroteS,h0,← hI,h1]
  ·
   simp -dsimp [go_sem,hN,hw]
   exact ⟨hc,by simpa [h1] using hI,(Wk.mk (by simp [hh]) (by simp [go_sem]) (by simp [hu,qab hu,go_sem]) (by simp [go_sem]))⟩
 ·
  rw [List.drop_eq_nil_of_le (by omega),anyL] at hI
  simp -dsimp [go_sem,hN]
  simp [wroteS,h0,← hI]
theorem c_occ_Valid (e:Eff) (l:List Eff):APure Tryz.prog 41 [.agg e.c,.slice (l.map Eff.c)] (Bo (validO e l)):=by
 refine qak Tryz.func41 Tryz.ntmps41 rfl (by kernel_rfl) rfl rfl fun E h hN hh hu hb=>?_
 simp [go_sem,Eff.c] at hb
 simp -dsimp [go_sem,hN,Eff.c]
 refine qai e.reads.length (fun n=>(!((e.reads.drop n).any fun k=>l.any fun x=>wroteS x k))=validO e l) (fun n=>⟨[(1,.slice (l.map Eff.c)),(10,.slice (e.reads.map qbe)),(11,I e.reads.length),(12,I n)],h++[.cells e.c]⟩) (by simp [validO]) (Wk.mk (by simp [hh]) (by simp [go_sem]) (by simp [hu,qab hu,go_sem]) (by simp [go_sem,Eff.c])) ?_
 intro n hn hI
 have hw:=qav hn (show _≤68719476736 by omega)
 simp -dsimp [go_sem,hN]
 refine cnd ?_ ?_<;>intro hc<;>simp at hc
 ·
  rw [qae hc,List.any_cons] at hI
  simp -dsimp [go_sem,hN,hc]
  refine qai l.length (fun m=>((l.drop m).any fun x=>wroteS x e.reads[n])=(l.any fun x=>wroteS x e.reads[n])) (fun m=>⟨[(1,.slice (l.map Eff.c)),(6,S e.reads[n]),(10,.slice (e.reads.map qbe)),(11,I e.reads.length),(12,I n),(16,.slice (l.map Eff.c)),(17,I l.length),(18,I m)],h++[.cells e.c]⟩) (by simp) (Wk.mk (by simp [hh]) (by simp [go_sem]) (by simp [hu,qab hu,go_sem]) (by simp [go_sem,Eff.c])) ?_
  intro m hm hJ
  have hw2:=qav hm (show _≤68719476736 by omega)
  simp -dsimp [go_sem,hN]
  refine cnd ?_ ?_<;>intro hd<;>simp at hd
  ·
   rw [qae hd,List.any_cons] at hJ
   simp -dsimp [go_sem,hN,hd,Eff.c]
   refine qaa (c_occ_writes l[m] e.reads[n]) ?_
   simp -dsimp [go_sem,hN]
   refine cnd ?_ ?_<;>intro h1<;>try simp at h1
   ·
    simp -dsimp [go_sem,hN]
    rw [h1] at hJ
    rw [← hI,← hJ]
    simp
   ·
    simp -dsimp [go_sem,hN,hw2]
    exact ⟨hd,by simpa [h1] using hJ,(Wk.mk (by simp [hh]) (by simp [go_sem]) (by simp [hu,qab hu,go_sem]) (by simp [go_sem,Eff.c]))⟩
  ·
   rw [List.drop_eq_nil_of_le (by omega),List.any_nil] at hJ
   simp -dsimp [go_sem,hN,hw]
   exact ⟨hc,by rw [← hI,← hJ];simp,(Wk.mk (by simp [hh]) (by simp [go_sem]) (by simp [hu,qab hu,go_sem]) (by simp [go_sem]))⟩
 ·
  rw [List.drop_eq_nil_of_le (by omega)] at hI
  simp -dsimp [go_sem,hN]
  rw [← hI]
  simp
variable {tT:TypeId} {tx:Nat×Nat} {g:Nat}
theorem c_occ_Speculate (procs:List Proc) (s:List Pr) (l:List Txn) (h:qac) (hg:h[g]?=some (tabO tT tx)) (hB:BatchIn qbm procs l) (hs:rngL s) (hL:s.length≤60000000000) :
  ACalls Tryz.prog 17 [.slice (procs.map Proc.c),.slice (s.map Pr.c),.slice (l.map Txn.c)] h fun r h'=>r=.ret (.slice ((specS qbm procs s l).map Eff.c))∧h'=h:=by
 refine qa0 Tryz.func17 Tryz.ntmps17 rfl (by kernel_rfl) rfl fun E hN hh hu hb hb' hua=>?_
 have hgl:g<h.length:=(List.getElem?_eq_some_iff.1 hg).1
 have hg':∀ l:qac,(h++l)[g]?=some (tabO tT tx):=fun l=>by rw [List.getElem?_append_left hgl];exact hg
 simp [go_sem] at hb
 simp -dsimp [go_sem,hN]
 refine qai l.length (fun n=>True) (fun n=>⟨[(0,.slice (procs.map Proc.c)),(1,.slice (s.map Pr.c)),(7,.own h.length n),(12,.slice (l.map Txn.c)),(13,I l.length),(14,I n)],h++[.arr 45 8 ((specS qbm procs s (l.take n)).map Eff.c)]⟩) trivial ((nil_wk E _ 7 45 8 (by simp [go_sem])).trans ?_) ?_
 ·
  simp [specS]
  exact (Wk.mk (by simp [hh]) (by simp [go_sem]) (by simp [hu,qab hu,go_sem]) (by simp [go_sem]))
 intro n hn _
 have hw:=qav hn (show _≤68719476736 by omega)
 have hsl:(specS qbm procs s (l.take n)).length=n:=by simp [specS];omega
 simp -dsimp [go_sem,hN]
 refine cnd ?_ ?_<;>intro hc<;>simp at hc
 ·
  have hone:=fun H hH=>c_serial_One (g:=g) (tT:=tT) (tx:=tx) procs s l[n] H hH (runIn_one hB hs (List.getElem_mem hc)) hL
  have hnx:=spec_next (fmt:=qbm) (procs:=procs) (s:=s) hc
  obtain ⟨O,hO⟩:∃ O,oneS qbm procs s l[n]=O:=⟨_,rfl⟩
  rw [hO] at hnx
  simp only [hO] at hone
  simp -dsimp [go_sem,hN,hc,Txn.c]
  refine qam (hone _ (hg' _)) ?_
  rintro r h' ⟨rfl,rfl⟩
  simp -dsimp [go_sem,hN,hw,hsl,Eff.c]
  refine ⟨by omega,hc,?_⟩
  rw [hnx]
  exact (Wk.mk (by simp [hh]) (by simp [go_sem]) (by simp [hu,qab hu,go_sem]) (by simp [go_sem,Eff.c]))
 ·
  simp -dsimp [go_sem,hN]
  rw [if_pos hsl,List.take_of_length_le (by omega)]
  exact ⟨_,.refl _,h,by simp [go_sem],hwk.app0 _,Nat.le_refl _,hu,rfl,rfl⟩
theorem c_occ_Round0 (procs:List Proc) (s:List Pr) (l:List Txn) (h:qac) (hg:h[g]?=some (tabO tT tx)) (hB:BatchIn qbm procs l) (hs:rngL s) (hL:s.length+64 * l.length≤60000000000) :
  ACalls Tryz.prog 13 [.slice (procs.map Proc.c),.slice (s.map Pr.c),.slice (l.map Txn.c)] h fun r h'=>r=.ret (.tuple [.slice ((qdo qbm procs s l).1.map Pr.c),.own h.length l.length,.own (h.length+1) l.length])∧h'=h++[.uarr 45 8 ((qdo qbm procs s l).2.1.map Eff.c),.uarr 4 1 ((qdo qbm procs s l).2.2.map bRow)]:=by
 refine acalls_introB Tryz.func13 rfl (by kernel_rfl) (by simp [Tryz.ntmps13]) ?_
 intro E hN hh hu hb hb' hua
 rw [Tryz.ntmps13] at hN
 have hgl:g<h.length:=(List.getElem?_eq_some_iff.1 hg).1
 have hg':∀ l:qac,(h++l)[g]?=some (tabO tT tx):=fun l=>by rw [List.getElem?_append_left hgl];exact hg
 simp [go_sem] at hb
 refine qcu (awp_ops ?_)
 simp [go_sem,hN]
 refine qcu (qa3 _ _ _ ?_)
 simp -dsimp [go_sem,hN]
 refine qam (c_occ_Speculate procs s l _ hg hB hs (by omega)) ?_
 rintro r h' ⟨rfl,he⟩
 rw [he]
 simp -dsimp [go_sem,hN]
 refine qcu (awp_opsT [_,_] _ ?_)
 simp [go_sem,hN]
 intro c a w sm k
 refine wp_makeT sm k (el:=45) (x:=.tmp 22) (d1:=23) (n:=l.length) (sz:=8) (zr:=[I 0,I 0,.slice [],.slice [],.slice [],.slice [],S em,I 0]) rfl rfl (by omega) rfl (by simp [go_sem]) (by simp [go_sem]) (by simp [go_sem]) (by omega) (by simp [go_sem]) (by simp [go_sem]) (by simp [go_sem,nilz]) (by simp [go_sem]) (by simp [go_sem]) (by omega) fun c' a' w' s' k'=>?_
 refine qcr _ [_,_,_] _ rfl ?_ c' a' w' s' k'
 simp [go_sem,hN]
 refine qcu (awp_opsT [_,_] _ ?_)
 simp [go_sem,hN]
 intro c a w sm k
 refine wp_copyA sm k (el:=45) (sz:=8) (i:=h.length) (n:=l.length) (d1:=26) (x:=.tmp 24) (y:=.tmp 25) (rows:=List.replicate l.length [I 0,I 0,.slice [],.slice [],.slice [],.slice [],S em,I 0]) (rows2:=(specS qbm procs s l).map Eff.c) rfl rfl (by omega) rfl (by simp [go_sem]) (by simp [go_sem]) (by simp [go_sem]) (by omega) (by simp [go_sem]) (by simp [go_sem]) (by simp [go_sem]) (by simp) (by simp) (by simp [specS]) (by intro r hr;simp only [List.mem_map] at hr;obtain ⟨e,_,rfl⟩:=hr;rfl) fun a' w' s' k'=>?_
 refine qcr _ [_,_,_] _ rfl ?_ _ a' w' s' k'
 simp [go_sem,hN]
 refine qcu (awp_opsT [_,_] _ ?_)
 simp [go_sem,hN]
 intro c a w sm k
 refine wp_makeT sm k (el:=4) (x:=.tmp 28) (d1:=29) (n:=l.length) (sz:=1) (zr:=[Bo false]) rfl rfl (by omega) rfl (by simp [go_sem]) (by simp [go_sem]) (by simp [go_sem]) (by omega) (by simp [go_sem]) (by simp [go_sem]) (by simp [go_sem,nilz]) (by simp [go_sem]) (by simp [go_sem]) (by omega) fun c' a' w' s' k'=>?_
 refine qcr _ [_,_,_] _ rfl ?_ c' a' w' s' k'
 simp [go_sem,hN]
 apply qa3
 simp -dsimp [go_sem,hN]
 refine ⟨by omega,?_⟩
 refine qai l.length (fun n=>True) (fun n=>⟨[(0,.slice (procs.map Proc.c)),(10,.own h.length l.length),(11,.own (h.length+1) l.length),(12,.slice ((qdo qbm procs s (l.take n)).1.map Pr.c)),(32,.slice (l.map Txn.c)),(33,I l.length),(34,I n)],h++[.uarr 45 8 ((occF qbm procs s l n).map Eff.c),.uarr 4 1 ((occG qbm procs s l n).map bRow)]⟩) trivial ?_ ?_
 ·
  simp [occF_0,occG_0,qdo,bRow]
  exact ((norm_wk E _).trans (Wk.mk (by simp [hh]) (by simp [go_sem]) (by simp [hu,qab hu,go_sem]) (by simp [go_sem,bRow])))
 intro n hn _
 have hw:=qav hn (show _≤68719476736 by omega)
 obtain ⟨hrs,hrl⟩:=occ_stepState (fmt:=qbm) hs hB n hn
 simp -dsimp [go_sem,hN]
 refine cnd ?_ ?_<;>intro hc<;>simp at hc
 ·
  have hF1:=occF_get (fmt:=qbm) (procs:=procs) (s:=s) hc
  have hF2:=occF_take (fmt:=qbm) (procs:=procs) (s:=s) hn
  have hFl:=occF_len (fmt:=qbm) (procs:=procs) (s:=s) hn
  have hGl:=occG_len (fmt:=qbm) (procs:=procs) (s:=s) hn
  have hok:=occ_stepOk (fmt:=qbm) (procs:=procs) (s:=s) hc
  have hag:=occ_stepAgain (fmt:=qbm) (procs:=procs) (s:=s) hc
  have hw0:=(one_ok (procs:=procs) (t:=l[n]) hB.fmt hB.body (hB.args _ (List.getElem_mem hc)) hs).wrs
  have hwO:=(one_ok (procs:=procs) (t:=l[n]) hB.fmt hB.body (hB.args _ (List.getElem_mem hc)) hrs).wrs
  have hone:=fun H hH=>c_serial_One (g:=g) (tT:=tT) (tx:=tx) procs (qdo qbm procs s (l.take n)).1 l[n] H hH (runIn_one hB hrs (List.getElem_mem hc)) (by omega)
  obtain ⟨F,hF⟩:∃ F,occF qbm procs s l n=F:=⟨_,rfl⟩
  obtain ⟨G,hG⟩:∃ G,occG qbm procs s l n=G:=⟨_,rfl⟩
  obtain ⟨e0,he0⟩:∃ e,(oneS qbm procs s l[n]).2=e:=⟨_,rfl⟩
  obtain ⟨D,hD⟩:∃ D,(qdo qbm procs s (l.take n)).2.1=D:=⟨_,rfl⟩
  rw [hF] at hF1 hF2 hFl hok hag
  rw [hG] at hGl hok hag
  rw [he0] at hF1 hok hag hw0
  rw [hD] at hF2 hok hag
  obtain ⟨N0,hN0⟩:∃ N0,(qdo qbm procs s (l.take n)).1=N0:=⟨_,rfl⟩
  rw [hN0] at hrl hok hag hwO
  simp only [hN0] at hone
  obtain ⟨O,hO⟩:∃ O,oneS qbm procs N0 l[n]=O:=⟨_,rfl⟩
  rw [hO] at hag hwO
  simp only [hO] at hone
  simp only [hF,hG,hN0]
  have hnF:n<F.length:=by omega
  have hFn:F[n]=e0:=by have:=hF1;rw [List.getElem?_eq_getElem hnF] at this;exact Option.some.inj this
  have hnG:n<G.length:=by omega
  have hgs:∀ X:List AV,((F.map Eff.c).set n X)[n]?=some X:=fun X=>by simp [hnF]
  simp -dsimp [go_sem,hN,hc,Txn.c]
  refine awp_lendQ 7 mixed (by kernel_rfl) (by kernel_rfl) (i:=h.length) (t:=45) (sz:=8) (r:=47) (rows:=F.map Eff.c) (bv:=.bool (!validO e0 D)) [(10,.slice (F.map Eff.c)),(13,I n)] (by simp) ?_ ?_ ?_ ?_
  ·
   intro p hp
   simp only [List.mem_cons,List.not_mem_nil,or_false] at hp
   rcases hp with rfl | rfl
   ·
    right
    simp [go_sem,hFl]
   ·
    left
    simp [go_sem]
  · simp [go_sem]
  ·
   intro E' hE'
   have hN':=hE'.trans hN
   have hF3:(F.map Eff.c).take n=D.map Eff.c:=by rw [← hF2,List.map_take]
   simp -dsimp [go_sem,hN',hFn,hnF,hF3,Eff.c]
   refine ⟨by omega,?_⟩
   refine qaa (c_occ_Valid e0 D) ?_
   simp -dsimp [go_sem,hN']
  simp -dsimp [go_sem,hN]
  refine cnd ?_ ?_<;>intro h1<;>simp at h1
  ·
   obtain ⟨hF1',hG1',hN1'⟩:=hag (by simp [h1])
   simp -dsimp [go_sem,hN,hnG,hc,bRow]
   refine ⟨hGl,?_⟩
   refine qam (hone _ (hg' _)) ?_
   rintro r h' ⟨rfl,rfl⟩
   simp -dsimp [go_sem,hN,hnF,hFl,hgs,hF1,Eff.c]
   repeat refine ⟨by omega,?_⟩
   refine cnd ?_ ?_<;>intro h2<;>simp at h2
   ·
    simp -dsimp [go_sem,hN,hw]
    rw [hF1',hG1',hN1',show qb5 N0 O.2=N0 by unfold qb5;rw [if_neg (fun g=>h2 g.1)]]
    exact ⟨hc,(Wk.mk (by simp [hh]) (by simp [go_sem,Eff.c,bRow]) (by simp [hu,qab hu,go_sem]) (by simp [go_sem]))⟩
   have hA:=c_state_Apply N0 O.2.writes (by omega)
   simp -dsimp [go_sem,hN,hnF,hFl,hgs,hF1,Eff.c]
   repeat refine ⟨by omega,?_⟩
   by_cases hok2:qbb N0=true∧qb0 O.2.writes=true
   ·
    rw [hok2.1,hok2.2] at hA
    simp only [Bool.and_self,if_true] at hA
    refine qaa hA ?_
    simp -dsimp [go_sem,hN,hw]
    rw [hF1',hG1',hN1',show qb5 N0 O.2=qdr N0 O.2.writes by unfold qb5;rw [if_pos ⟨h2,hok2⟩]]
    exact ⟨hc,(Wk.mk (by simp [hh]) (by simp [go_sem,Eff.c,bRow]) (by simp [hu,qab hu,go_sem]) (by simp [go_sem]))⟩
   ·
    rw [if_neg (by simpa using hok2)] at hA
    refine qaa hA ?_
    simp -dsimp [go_sem,hN,hw]
    rw [hF1',hG1',hN1',show qb5 N0 O.2=N0 by unfold qb5;rw [if_neg (fun g=>hok2 g.2)]]
    exact ⟨hc,(Wk.mk (by simp [hh]) (by simp [go_sem,Eff.c,bRow]) (by simp [hu,qab hu,go_sem]) (by simp [go_sem]))⟩
  ·
   obtain ⟨hF1',hG1',hN1'⟩:=hok h1
   simp -dsimp [go_sem,hN,hnF,hFl,hgs,hF1,hFn,Eff.c]
   repeat refine ⟨by omega,?_⟩
   refine cnd ?_ ?_<;>intro h2<;>simp at h2
   ·
    simp -dsimp [go_sem,hN,hw]
    rw [hF1',hG1',hN1',show qb5 N0 e0=N0 by unfold qb5;rw [if_neg (fun g=>h2 g.1)]]
    exact ⟨hc,(Wk.mk (by simp [hh]) (by simp [go_sem,Eff.c,bRow]) (by simp [hu,qab hu,go_sem]) (by simp [go_sem]))⟩
   have hA:=c_state_Apply N0 e0.writes (by omega)
   simp -dsimp [go_sem,hN,hnF,hFl,hgs,hF1,hFn,Eff.c]
   repeat refine ⟨by omega,?_⟩
   by_cases hok2:qbb N0=true∧qb0 e0.writes=true
   ·
    rw [hok2.1,hok2.2] at hA
    simp only [Bool.and_self,if_true] at hA
    refine qaa hA ?_
    simp -dsimp [go_sem,hN,hw]
    rw [hF1',hG1',hN1',show qb5 N0 e0=qdr N0 e0.writes by unfold qb5;rw [if_pos ⟨h2,hok2⟩]]
    exact ⟨hc,(Wk.mk (by simp [hh]) (by simp [go_sem,Eff.c,bRow]) (by simp [hu,qab hu,go_sem]) (by simp [go_sem]))⟩
   ·
    rw [if_neg (by simpa using hok2)] at hA
    refine qaa hA ?_
    simp -dsimp [go_sem,hN,hw]
    rw [hF1',hG1',hN1',show qb5 N0 e0=N0 by unfold qb5;rw [if_neg (fun g=>hok2 g.2)]]
    exact ⟨hc,(Wk.mk (by simp [hh]) (by simp [go_sem,Eff.c,bRow]) (by simp [hu,qab hu,go_sem]) (by simp [go_sem]))⟩
 ·
  have hn2:n=l.length:=by omega
  subst hn2
  rw [occF_end,occG_end,List.take_length]
  simp -dsimp [go_sem,hN]
  exact ⟨_,.refl _,h++[.uarr 45 8 ((qdo qbm procs s l).2.1.map Eff.c),.uarr 4 1 ((qdo qbm procs s l).2.2.map bRow)],by simp [go_sem],hwk.refl _,by simp,by simp [qab hu,go_sem],rfl,rfl⟩
theorem c_occ_Round (procs:List Proc) (s:List Pr) (l:List Txn) (h:qac) (hg:h[g]?=some (tabO tT tx)) (hB:BatchIn qbm procs l) (hs:rngL s) (hL:s.length+64 * l.length≤60000000000) :
  ACalls Tryz.prog 13 [.slice (procs.map Proc.c),.slice (s.map Pr.c),.slice (l.map Txn.c)] h fun r h'=>r=.ret (.tuple [.slice ((qdo qbm procs s l).1.map Pr.c),.slice ((qdo qbm procs s l).2.1.map Eff.c),.slice ((qdo qbm procs s l).2.2.map bRow)])∧h'=h:=by
 obtain ⟨hEl,hMl⟩:=occ_len (fmt:=qbm) (procs:=procs) (s:=s) l
 refine ⟨(c_occ_Round0 procs s l h hg hB hs hL).1,fun cx wx vx hsx hax=>?_⟩
 have hu:=hsx.hUnder
 refine (acalls_ret (fun E hE=>?_) (c_occ_Round0 procs s l h hg hB hs hL)).2 cx wx vx hsx hax
 refine (demote_wk E _ (i:=h.length) (t:=45) (sz:=8) (rows:=(qdo qbm procs s l).2.1.map Eff.c) (by simp)).trans ?_
 simp
 refine (demote_wk E _ (i:=h.length+1) (t:=4) (sz:=1) (rows:=(qdo qbm procs s l).2.2.map bRow) (by simp)).trans ?_
 simp
 refine (norm_wk E _).trans ?_
 exact Wk.mk (by simp [hE]) (by simpa [go_sem] using hwk.app0 _) (by simpa using hu) (by simp [go_sem,AV.norm,qbg,wkT,hEl,hMl])
end Go.Proofs.YtdbpbpmikpdjcaaGreatDoor
