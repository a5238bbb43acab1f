/- Part 20 of a proof: W30, W50, W54, W52, W31, W61, W64, W32 -/
import Derived.Shelf.Small.Strs
import Derived.Shelf.Strconv.Itoa4
import Derived.Lib.ItoaLen
import Derived.Test.YtdbpbpmikpdjcaaGreatDoorQ08
import Derived.Test.YtdbpbpmikpdjcaaGreatDoorQ09
import Derived.Test.YtdbpbpmikpdjcaaGreatDoorQ10
import Derived.Test.YtdbpbpmikpdjcaaGreatDoorQ11
import Derived.Test.YtdbpbpmikpdjcaaGreatDoorQ12
import Derived.Test.YtdbpbpmikpdjcaaGreatDoorQ13
import Derived.Test.YtdbpbpmikpdjcaaGreatDoorQ14
import Derived.Test.YtdbpbpmikpdjcaaGreatDoorQ15
import Derived.Test.YtdbpbpmikpdjcaaGreatDoorQ16
import Derived.Test.YtdbpbpmikpdjcaaGreatDoorQ17
import Derived.Test.YtdbpbpmikpdjcaaGreatDoorQ18
import Derived.Test.YtdbpbpmikpdjcaaGreatDoorQ19
set_option linter.all false

set_option maxRecDepth 4000
set_option maxHeartbeats 2000000
namespace Go.Proofs.YtdbpbpmikpdjcaaGreatDoor
open Go Go.Abs Go.Cw
attribute [local go_sem] mC
theorem kAV_vAV_und (n:Nat) (l:List (qad×V)):(AObj.map (kAV vAV l)).under n=true:=kAV_und (f:=vAV) (fun n a=>by simp [AV.under,V.c,qat]) n l
theorem kAV_u2 (n:Nat) (l:List (qad×V)):(∀ (a b:AV),(a,b)∈kAV vAV l→AV.under n a=true∧AV.under n b=true)=True:=by
 refine eq_true fun a b hab=>?_
 obtain ⟨s,x,rfl,rfl⟩:=kAV_mem hab
 simp [AV.under,V.c,qat]
theorem setArgs_nil (m:List (qad×V)):setArgs [] [] m=m:=rfl
theorem MH_run (st:List Pr) (ft:Foot) (fmt:Int→qad) (h A L:qaa) {g:Nat} {tb:AObj} {tV tS:Nat} (hg:h[g]?=some tb) (hu:hUnder h.length h=true) (a l:Nat) (hA:A.length=a) (hL:L.length=l) (uA:hUnder (h.length+(a+l+7)) A=true) (uL:hUnder (h.length+(a+l+7)) L=true) :
  MH (cfgR fmt st ft) tb tV tS g (h.length+(a+3)) (h.length+(a+1)) (h.length+(a+2)) (h.length+(a+l+4)) (h.length+(a+l+5)) (h.length+(a+l+6))
   (fun q=>h++(A++(.cells ft.c::.map (kAV vAV q.vars)::.map (kAV vAV q.own)::.cells (mC (cfgR fmt st ft) (h.length+(a+1)) (h.length+(a+2)) (h.length+(a+l+4)) (h.length+(a+l+5)) (h.length+(a+l+6)) q)::(L++[.arr tV 3 (q.out.map V.c),.uarr tS 1 (q.reads.map qbg),.uarr tS 1 (q.puts.map qbg)])))) (h.length+(a+l+7)):=by
 have hgl:g<h.length:=(List.getElem?_eq_some_iff.1 hg).1
 subst hA;subst hL
 have e1:∀ (X:qaa) (k:Nat),(h++X)[h.length+k]?=X[k]?:=fun X k=>by rw [List.getElem?_append_right (by omega)];congr 1;omega
 have e2:∀ (X:qaa) (k:Nat),(A++X)[A.length+k]?=X[k]?:=fun X k=>by rw [List.getElem?_append_right (by omega)];congr 1;omega
 have e3:∀ (X:qaa) (k:Nat),(L++X)[L.length+k]?=X[k]?:=fun X k=>by rw [List.getElem?_append_right (by omega)];congr 1;omega
 have s1:∀ (X:qaa) (k:Nat) (y:AObj),(h++X).set (h.length+k) y=h++X.set k y:=fun X k y=>by rw [List.set_append_right _ _ (by omega)];congr 2;omega
 have s2:∀ (X:qaa) (k:Nat) (y:AObj),(A++X).set (A.length+k) y=A++X.set k y:=fun X k y=>by rw [List.set_append_right _ _ (by omega)];congr 2;omega
 have s3:∀ (X:qaa) (k:Nat) (y:AObj),(L++X).set (L.length+k) y=L++X.set k y:=fun X k y=>by rw [List.set_append_right _ _ (by omega)];congr 2;omega
 have e4:∀ (a b c d:AObj) (X:qaa) (k:Nat),(a::b::c::d::(L++X))[L.length+4+k]?=X[k]?:=fun a b c d X k=>by
  rw [show L.length+4+k=(L.length+k)+1+1+1+1 by omega]
  simp only [List.getElem?_cons_succ]
  exact e3 X k
 have s4:∀ (a b c d y:AObj) (X:qaa) (k:Nat),(a::b::c::d::(L++X)).set (L.length+4+k) y=a::b::c::d::(L++X.set k y):=fun a b c d y X k=>by
  rw [show L.length+4+k=(L.length+k)+1+1+1+1 by omega]
  simp only [List.set_cons_succ]
  rw [s3]
 have i0:h.length+(A.length+L.length+4)=h.length+(A.length+(L.length+4+0)):=by omega
 have i1:h.length+(A.length+L.length+5)=h.length+(A.length+(L.length+4+1)):=by omega
 have i2:h.length+(A.length+L.length+6)=h.length+(A.length+(L.length+4+2)):=by omega
 constructor
 case lg=>intro q;rw [List.getElem?_append_left hgl];exact hg
 case len=>intro q;simp;omega
 case und =>
  intro q
  rw [qaw,qa1 (Nat.le_add_right _ _) hu,qaw,uA]
  simp only [hUnder,kAV_vAV_und,qaw,uL,Bool.true_and,Bool.and_true]
  simp [AObj.under,AV.under,qat,mC,Foot.c]
  omega
 case lm=>intro q;rw [e1,e2];rfl
 case lv=>intro q;rw [e1,e2];rfl
 case lo=>intro q;rw [e1,e2];rfl
 case lio=>intro q;rw [i0,e1,e2,e4];rfl
 case lir=>intro q;rw [i1,e1,e2,e4];rfl
 case lip=>intro q;rw [i2,e1,e2,e4];rfl
 case sm=>intro q no nr np s;rw [s1,s2];rfl
 case sv=>intro q x;rw [s1,s2];rfl
 case so=>intro q x;rw [s1,s2];rfl
 case sio=>intro q x;simp only [i0,s1,s2,s4];rfl
 case sir=>intro q x;simp only [i1,s1,s2,s4];rfl
 case sip=>intro q x;simp only [i2,s1,s2,s4];rfl
 all_goals omega
variable {C:Cfg} {tT:TypeId} {tx:Nat×Nat} {g m v o io ir ip:Nat} {K:MQ→qaa} {n0:Nat}
theorem c_interp_Run1 (hF:C.fmt=qbh) (hC:rngC C) (p:Proc) (hG:∀ x∈p.body,goS x) (Y:MHs C tT tx g m v o io ir ip K n0) (s:MS) (hI:Cw.Inv 0 0 s) {a b:Nat} (ha:∀ q,(K q)[a]?=some (.cells [.ptr m 0])) (hb0:∀ q,(K q)[b]?=some (.cells p.c)) :
  ACalls Tryz.prog 89 [.ptr a 0,.ptr b 0] (K s.q) fun r h'=>r=endU (qcl C p.body s).1∧h'=K (qcl C p.body s).2.q:=by
 refine qav Tryz.func89 Tryz.ntmps89 rfl (by kernel_rfl) rfl fun E hN hh hu hb hb' hua=>?_
 simp -dsimp [go_sem,hN,ha,hb0]
 refine qai (qc0 hF hC p.body hG Y s hI) ?_
 rintro r h' ⟨rfl,rfl⟩
 rcases qcl C p.body s with ⟨z | ⟨⟩,s1⟩<;>simp -dsimp [go_sem,hN,endU]<;>exact ⟨_,.refl _,K s1.q,by simp [go_sem],by first | exact hwk.refl _ | exact hwk.app0 _ | simp [hwk.refl],by simp [Y.len],Y.und' _,by first | rfl | simp,by first | rfl | simp [MS.q]⟩
abbrev effZ:AObj:=.cells [I 0,I 0,.nils,.nils,.nils,.nils,S em,I 0]
def endC:Except Stop Unit→List AV
 | .ok _=>zs
 | .error z=>[I z.status,I z.code,.slice [],S z.miss]
def isE:Except Stop Unit→Bool
 | .ok _=>false
 | .error _=>true
@[simp] theorem norm_endC (H:qaa) (x:Except Stop Unit):qa4 H (endC x)=endC x:=by cases x<;>rfl
@[simp] theorem under_endC (n:Nat) (x:Except Stop Unit):qat n (endC x)=true:=by cases x<;>rfl
theorem c_run_of {a:AV} {f:FuncId} {caps:List AV} {h h1:qaa} {x:Except Stop Unit} (hl:h1.length=h.length) (hu:hUnder h.length h1=true) (hc:∀ H,qa4 H caps=caps) (hg:ACalls Tryz.prog f caps (h++[.cells [I 0,I 0,.nils,S em],.cells [Bo false]]) fun r h'=>r=endU x∧h'=h1++[.cells [I 0,I 0,.nils,S em],.cells [Bo false]]) :
  ACalls Tryz.prog 88 [a,.fn (.func f) [] caps] h fun r h'=>r=.ret (.tuple [.agg (endC x),Bo (isE x)])∧h'=h1:=by
 refine c_interp_run a (g:=f) (first:=[]) (caps:=caps) (by rw [List.nil_append,hc];exact hg) ?_ ?_
 ·
  rintro r h' ⟨rfl,rfl⟩ _
  have e1:(h1++[AObj.cells [I 0,I 0,.nils,S em],AObj.cells [Bo false]])[h.length]?=some (.cells [I 0,I 0,.nils,S em]):=by rw [← hl];simp
  have e2:(h1++[AObj.cells [I 0,I 0,.nils,S em],AObj.cells [Bo false]])[h.length+1]?=some (.cells [Bo false]):=by rw [← hl];simp
  have e3:(h1++[AObj.cells [I 0,I 0,.nils,S em],AObj.cells [Bo false]]).take h.length=h1:=by rw [← hl];simp
  refine ⟨⟨_,e1,rfl⟩,⟨_,e2⟩,by rw [e3];exact hu,?_⟩
  rw [e3]
  rcases x with z | u
  · exact ⟨rfl,rfl,by simp [qat,AV.under],rfl,rfl⟩
  · exact ⟨rfl,rfl⟩
 ·
  rintro h' st ⟨h1,_⟩ H
  rcases x with z | u
  ·
   simp only [endU,stopAV,AEnd.panic.injEq,AV.iface.injEq,AV.agg.injEq,true_and] at h1
   subst h1
   rfl
  · cases h1
theorem c_machine_finish {h:qaa} (x:Except Stop Unit) (s:MS) (hm:h[m]?=some (.cells (mC C v o io ir ip s.q))) (hio:h[io]?=some (.arr 77 3 (s.out.map V.c))) (hir:h[ir]?=some (.arr 9 1 (s.reads.map qbg))) (hip:h[ip]?=some (.arr 9 1 (s.puts.map qbg)))
  (ho:h[o]?=some (.map (kAV vAV s.own))) (hl:s.puts.length+1≤68719476736) :
  ACalls Tryz.prog 87 [.ptr m 0,.agg (endC x),Bo (isE x)] h fun r h'=>r=.ret (.agg (doneS (x,s)).c)∧h'=h:=by
 rcases x with z | u
 · exact c_machine_finish_stop s.q hm hir hip rfl rfl z
 · exact c_machine_finish_ok s.q hm hio hir hip ho rfl rfl rfl hl
theorem c_interp_Run (p:Proc) (args:List V) (st:List Pr) (ft:Foot) (h:qaa) (hg:h[g]?=some (tabO tT tx)) (hI:RunIn qbh p args st) :
  ACalls Tryz.prog 48 [.agg p.c,.slice (args.map V.c),.slice (st.map Pr.c),.agg ft.c] h fun r h'=>r=.ret (.agg (runS qbh p args st ft).c)∧h'=h:=by
 refine qav Tryz.func48 Tryz.ntmps48 rfl (by kernel_rfl) rfl fun E hN hh hu hb hb' hua=>?_
 simp [go_sem] at hb
 simp -dsimp [go_sem,hN]
 refine qac (c_cost_Check p) ?_
 simp -dsimp [go_sem,hN]
 refine qaj (c_types_Args p args) (by simp) ?_
 simp -dsimp [go_sem,hN]
 refine qaj (c_state_Valid st) (by simp) ?_
 simp -dsimp [go_sem,hN]
 refine qaj (c_interp_valid ft.all ft.reads ft.writes) (by simp) ?_
 simp -dsimp [go_sem,hN]
 repeat refine ⟨by grind,?_⟩
 refine cnd ?_ ?_<;>intro h0<;>simp at h0
 ·
  have hno:¬ runOk p args st ft:=by rw [qb1];grind
  rw [runS_no hno]
  simp -dsimp [go_sem,hN]
  refine qai (c_interp_wrong _) ?_
  rintro r h' ⟨rfl,rfl⟩
  simp -dsimp [go_sem,hN]
  exact ⟨_,.refl _,h,by simp [go_sem],hwk.app0 _,Nat.le_refl _,hu,rfl,rfl⟩
 have hok:runOk p args st ft:=by rw [qb1];grind
 have hok':=(qb1 _ _ _ _).1 hok
 have hlen:=(argsErr_ok hok'.2.1).1
 rw [qcy hok]
 simp -dsimp [go_sem,hN]
 refine qai (c_interp_newMachine st ft _) ?_
 rintro r h' ⟨rfl,rfl⟩
 simp -dsimp [go_sem,hN]
 have Y:=MH_run (tb:=tabO tT tx) (tV:=77) (tS:=9) st ft qbh h [.cells p.c,.cells ft.c,effZ] [.cells [.ptr (h.length+6) 0]] hg hu 3 1 rfl rfl (by simp [hUnder,AObj.under,AV.under,qat,Proc.c,Foot.c]) (by simp [hUnder,AObj.under,AV.under,qat])
 simp only [List.cons_append,List.nil_append,Nat.reduceAdd] at Y
 refine qa7 (α:=List (qad×V)) p.params.length (fun n vs=>setArgs (p.params.drop n) (args.drop n) vs=setArgs p.params args []) (fun n vs=>⟨[(1,.slice (args.map V.c)),(4,.ptr h.length 0),(8,.ptr (h.length+2) 0),(9,.ptr (h.length+7) 0),(36,.slice (p.params.map Param.c)),(37,I p.params.length),(38,I n)],h++[.cells p.c,.cells ft.c,effZ,.cells ft.c,.map (kAV vAV vs),.map (kAV vAV []),.cells (mC (cfgR qbh st ft) (h.length+4) (h.length+5) (h.length+8) (h.length+9) (h.length+10) ⟨vs,[],[],[],[],0,0,0,0⟩),.cells [.ptr (h.length+6) 0],.arr 77 3 [],.uarr 9 1 [],.uarr 9 1 []]⟩) [] (by simp) ?_ ?_
 ·
  refine (nilc_wk E _ (p:=h.length+6) (j:=8) (t:=77) (sz:=3) (xs:=[.slice (st.map Pr.c),Bo ft.all,.slice (ft.reads.map qbg),.slice (ft.writes.map qbg),.mapr (h.length+4),.mapr (h.length+5),I 0,I 0,.nils,.nils,.nils,.nils,S em,I 0]) (by simp) rfl).trans ?_
  simp
  refine (nilcu_wk E _ (p:=h.length+6) (j:=9) (t:=9) (sz:=1) (xs:=[.slice (st.map Pr.c),Bo ft.all,.slice (ft.reads.map qbg),.slice (ft.writes.map qbg),.mapr (h.length+4),.mapr (h.length+5),I 0,I 0,.own (h.length+8) 0,.nils,.nils,.nils,S em,I 0]) (by simp) rfl).trans ?_
  simp
  refine (nilcu_wk E _ (p:=h.length+6) (j:=10) (t:=9) (sz:=1) (xs:=[.slice (st.map Pr.c),Bo ft.all,.slice (ft.reads.map qbg),.slice (ft.writes.map qbg),.mapr (h.length+4),.mapr (h.length+5),I 0,I 0,.own (h.length+8) 0,.own (h.length+9) 0,.nils,.nils,S em,I 0]) (by simp) rfl).trans ?_
  simp [kAV,qch]
  exact (Wk.mk (by simp [hh]) (by simp [go_sem]) (by simp [hu,qab hu,go_sem]) (by simp [go_sem]))
 intro n vs hn hI2
 have hw:=qbe hn hb.1.2.1.1
 simp -dsimp [go_sem,hN]
 refine cnd ?_ ?_<;>intro hc<;>simp at hc
 ·
  have hc2:n<args.length:=by omega
  simp -dsimp [go_sem,hN,hc]
  refine qak 10 mixed (by kernel_rfl) (by kernel_rfl) ?_
  simp -dsimp [go_sem,hN,hc,hc2,hw]
  refine ⟨kSet vs p.params[n].name args[n],?_,Wk.mk (by simp [hh]) (by simp [go_sem]) (by simp [hu,qab hu,go_sem,kAV_u2]) (by simp [go_sem])⟩
  rw [qag hc,qag hc2,setArgs] at hI2
  exact hI2
 ·
  rw [List.drop_eq_nil_of_le hc,List.drop_eq_nil_of_le (by omega),setArgs_nil] at hI2
  subst hI2
  obtain ⟨x,s1,hB⟩:∃ x s1,qcl (cfgR qbh st ft) p.body (ms0 p args)=(x,s1):=⟨_,_,rfl⟩
  have hd:=(dl_blk (C:=cfgR qbh st ft) (fun q hq=>hI.st q hq) p.body 1 (ms0 p args) (cost_okL hok'.1) (cost_goS hok'.1 hI.body) (inv0 hI)).pu
  rw [hB] at hd
  have hnl:=cost_nL hok'.1
  have hlim:=cost_lim hok'.1
  simp only [List.length_nil,Nat.zero_add] at hd
  have Y2:=Y.ext [.cells [I 0,I 0,.nils,S em],.cells [Bo false]] (by simp [hUnder,AObj.under,AV.under,qat])
  have hr:=c_interp_Run1 (C:=cfgR qbh st ft) rfl (fun q hq=>hI.st q hq) p (cost_goS hok'.1 hI.body) Y2 (ms0 p args) (inv0 hI) (a:=h.length+7) (b:=h.length) (by intro q;simp) (by intro q;simp)
  rw [hB] at hr
  have hrun:=c_run_of (a:=.ptr (h.length+6) 0) (by simp) (by simp [qaw,hu,qa1,qab hu,go_sem,kAV_u2,MS.q]) (fun H=>by simp [qa4,AV.norm]) hr
  simp -dsimp [go_sem,hN]
  refine awp_drawK 6 3 [0] mixed (by kernel_rfl) ?_
  simp -dsimp [go_sem,hN]
  refine tkcall_ret hrun ?_
  simp -dsimp [go_sem,hN]
  obtain ⟨Hd,hHd⟩:∃ Hd:AObj→AObj→qaa,∀ u1 u2,Hd u1 u2=h++[.cells p.c,.cells ft.c,effZ,.cells ft.c,.map (kAV vAV s1.vars),.map (kAV vAV s1.own),.cells (mC (cfgR qbh st ft) (h.length+4) (h.length+5) (h.length+8) (h.length+9) (h.length+10) s1.q),.cells [.ptr (h.length+6) 0],.arr 77 3 (s1.out.map V.c),u1,u2]:=⟨fun u1 u2=>_,fun _ _=>rfl⟩
  have hw2:∀ E,Wk E ⟨[],Hd (.uarr 9 1 (s1.reads.map qbg)) (.uarr 9 1 (s1.puts.map qbg))⟩ ⟨[],Hd (.arr 9 1 (s1.reads.map qbg)) (.arr 9 1 (s1.puts.map qbg))⟩:=fun E=>by
   have d1:=demote_wk E ⟨[],Hd (.uarr 9 1 (s1.reads.map qbg)) (.uarr 9 1 (s1.puts.map qbg))⟩ (i:=h.length+9) (t:=9) (sz:=1) (rows:=s1.reads.map qbg) (by simp [hHd])
   have d2:=demote_wk E ⟨[],Hd (.arr 9 1 (s1.reads.map qbg)) (.uarr 9 1 (s1.puts.map qbg))⟩ (i:=h.length+10) (t:=9) (sz:=1) (rows:=s1.puts.map qbg) (by simp [hHd])
   refine d1.trans ?_
   have e1:(Hd (.uarr 9 1 (s1.reads.map qbg)) (.uarr 9 1 (s1.puts.map qbg))).set (h.length+9) (.arr 9 1 (s1.reads.map qbg))=Hd (.arr 9 1 (s1.reads.map qbg)) (.uarr 9 1 (s1.puts.map qbg)):=by simp [hHd]
   have e2:(Hd (.arr 9 1 (s1.reads.map qbg)) (.uarr 9 1 (s1.puts.map qbg))).set (h.length+10) (.arr 9 1 (s1.puts.map qbg))=Hd (.arr 9 1 (s1.reads.map qbg)) (.arr 9 1 (s1.puts.map qbg)):=by simp [hHd]
   rw [e2] at d2
   rw [e1]
   exact d2
  have hfin:=c_machine_finish (C:=cfgR qbh st ft) (m:=h.length+6) (v:=h.length+4) (o:=h.length+5) (io:=h.length+8) (ir:=h.length+9) (ip:=h.length+10) (h:=Hd (.arr 9 1 (s1.reads.map qbg)) (.arr 9 1 (s1.puts.map qbg))) x s1 (by simp [hHd]) (by simp [hHd]) (by simp [hHd]) (by simp [hHd]) (by simp [hHd]) (by omega)
  have hfin2:=acalls_wk hw2 hfin
  rw [hHd,hHd] at hfin2
  refine qai hfin2 ?_
  rintro r h' ⟨rfl,rfl⟩
  simp -dsimp [go_sem,hN]
  rw [hB]
  exact ⟨_,.refl _,h,by simp [go_sem],hwk.app0 _,Nat.le_refl _,hu,rfl,rfl⟩
theorem c_interp_Free (p:Proc) (args:List V) (st:List Pr) (h:qaa) (hg:h[g]?=some (tabO tT tx)) (hI:RunIn qbh p args st) :
  ACalls Tryz.prog 102 [.agg p.c,.slice (args.map V.c),.slice (st.map Pr.c)] h fun r h'=>r=.ret (.agg (runS qbh p args st ⟨true,[],[]⟩).c)∧h'=h:=by
 refine qav Tryz.func102 Tryz.ntmps102 rfl (by kernel_rfl) rfl fun E hN hh hu hb hb' hua=>?_
 have hgl:g<h.length:=(List.getElem?_eq_some_iff.1 hg).1
 simp -dsimp [go_sem,hN]
 refine qai (c_interp_Run p args st ⟨true,[],[]⟩ _ (g:=g) (tT:=tT) (tx:=tx) (by rw [List.getElem?_append_left hgl];exact hg) hI) ?_
 rintro r h' ⟨rfl,rfl⟩
 simp -dsimp [go_sem,hN]
 exact ⟨_,.refl _,h,by simp [go_sem],hwk.app0 _,Nat.le_refl _,hu,rfl,rfl⟩
end Go.Proofs.YtdbpbpmikpdjcaaGreatDoor

set_option maxRecDepth 4000
set_option maxHeartbeats 2000000
namespace Go.Proofs.YtdbpbpmikpdjcaaGreatDoor
open Go Go.Abs Go.Cw
theorem c_serial_find1 (x:Proc) (h:qaa) (i:Nat) (t:Txn) (hi:h[i]?=some (.cells t.c)):ACalls Tryz.prog 82 [.agg x.c,.ptr i 0] h fun r h'=>r=.ret (Bo (decide (x.name=t.proc)))∧h'=h:=by
 refine qav Tryz.func82 Tryz.ntmps82 rfl (by kernel_rfl) rfl fun E hN hh hu hb hb' hua=>?_
 have hi':i<h.length:=(List.getElem?_eq_some_iff.1 hi).1
 have a1:∀ l,(h++l)[i]?=some (.cells t.c):=fun l=>by rw [List.getElem?_append_left hi'];exact hi
 simp -dsimp [go_sem,hN,a1,hu,Txn.c]
 exact ⟨_,.refl _,h,by simp [go_sem],by simp [go_sem],by simp,by simp [hu,go_sem],rfl,rfl⟩
theorem c_IndexFunc_Proc (l:List Proc) (f:FuncId) (caps:List AV) (q:Proc→Bool) (h:qaa) (hcn:qa4 h caps=caps) (hp:∀ x:Proc,ACalls Tryz.prog f ([.agg x.c]++caps) h fun r h'=>r=.ret (Bo (q x))∧h'=h) :
  ACalls Tryz.prog 54 [.slice (l.map Proc.c),.fn (.func f) [] caps] h fun r h'=>r=.ret (I (idxOf q l))∧h'=h:=by
 refine qav Tryz.func54 Tryz.ntmps54 rfl (by kernel_rfl) rfl fun E hN hh hu hb hb' hua=>?_
 simp [go_sem] at hb
 simp -dsimp [go_sem,hN]
 refine qap l.length (fun n=>qbr q n (l.drop n)=idxOf q l) (fun n=>⟨[(0,.slice (l.map Proc.c)),(1,.fn (.func f) [] caps),(7,I l.length),(8,I n)],h⟩) (by simp [idxOf]) (Wk.mk (by simp [hh]) (by simp) (by simp [hu]) (by simp [go_sem];simpa [go_sem] using hua)) ?_
 intro n hn hI
 have hw:=qbe hn hb.1
 simp -dsimp [go_sem,hN]
 refine cnd ?_ ?_<;>intro hc<;>simp at hc
 ·
  rw [qag hc,qbr] at hI
  simp -dsimp [go_sem,hN,hc,hcn]
  refine qai (hp l[n]) ?_
  rintro r h' ⟨rfl,rfl⟩
  simp -dsimp [go_sem,hN]
  refine cnd ?_ ?_<;>intro hg<;>try simp at hg
  ·
   simp -dsimp [go_sem,hN]
   rw [if_pos hg] at hI
   rw [hI]
   exact ⟨_,.refl _,h',by simp [go_sem],by simp [go_sem],by simp,by simp [hu,go_sem],rfl,rfl⟩
  ·
   simp -dsimp [go_sem,hN,hw]
   exact ⟨hc,by simpa [hg] using hI,Wk.mk (by simp [hh]) (by simp) (by simp [hu]) (by simp [go_sem];simpa [go_sem] using hua)⟩
 ·
  rw [List.drop_eq_nil_of_le (by omega),qbr] at hI
  simp -dsimp [go_sem,hN,← hI]
  exact ⟨_,.refl _,h,by simp [go_sem],by simp [go_sem],by simp,by simp [hu,go_sem],rfl,rfl⟩
theorem idxFrom_find {α:Type} (q:α→Bool):∀ (l:List α) (n:Nat),(qbr q n l = -1∧l.find? q=none)∨∃ (m:Nat) (hm:m<l.length),qbr q n l=((n+m:Nat):Int)∧l.find? q=some l[m]
 | [],n=>.inl ⟨by rw [qbr],rfl⟩
 | x::l,n=>by
  rw [qbr]
  by_cases h:q x=true
  ·
   right
   exact ⟨0,by simp,by simp [h],by simp [h]⟩
  ·
   rw [if_neg h]
   rcases idxFrom_find q l (n+1) with ⟨h1,h2⟩ | ⟨m,hm,h1,h2⟩
   · exact .inl ⟨h1,by simp [h,h2]⟩
   ·
    refine .inr ⟨m+1,by simp;omega,?_,?_⟩
    · rw [h1];congr 1;omega
    · simp [h,h2]
theorem idxOf_find {α:Type} (q:α→Bool) (l:List α):(idxOf q l = -1∧l.find? q=none)∨∃ (m:Nat) (hm:m<l.length),idxOf q l=(m:Int)∧l.find? q=some l[m]:=by
 have:=idxFrom_find q l 0
 simpa [idxOf] using this
def noProc:Proc:=⟨em,[],[]⟩
theorem c_serial_find (procs:List Proc) (t:Txn):APure Tryz.prog 46 [.slice (procs.map Proc.c),.agg t.c] (.tuple [.agg ((findP procs t).getD noProc).c,Bo (findP procs t).isSome]):=by
 refine qaz Tryz.func46 Tryz.ntmps46 rfl (by kernel_rfl) rfl rfl fun E h hN hh hu hb=>?_
 simp [go_sem] at hb
 obtain ⟨R,hR⟩:∃ R,findP procs t=R:=⟨_,rfl⟩
 rw [hR]
 unfold findP findN at hR
 simp -dsimp [go_sem,hN]
 refine qai (c_IndexFunc_Proc procs _ _ (fun x=>decide (x.name=t.proc)) _ (by simp [qa4,AV.norm]) (fun x=>c_serial_find1 x _ _ t (by simp [Txn.c]))) ?_
 rintro r h' ⟨rfl,rfl⟩
 rcases idxOf_find (fun x:Proc=>decide (x.name=t.proc)) procs with ⟨h1,h2⟩ | ⟨m,hm,h1,h2⟩
 ·
  rw [h2] at hR
  simp only at hR
  subst hR
  rw [h1]
  simp -dsimp [go_sem,hN]
  refine qak 9 mixed (by kernel_rfl) (by kernel_rfl) ?_
  simp -dsimp [go_sem,hN]
  refine tgcall_false ?_
  simp -dsimp [go_sem,hN,noProc]
 ·
  rw [h2] at hR
  simp only at hR
  rw [h1]
  simp -dsimp [go_sem,hN]
  refine qak 9 mixed (by kernel_rfl) (by kernel_rfl) ?_
  simp -dsimp [go_sem,hN,hm,Txn.c]
  refine qaj (c_types_Args procs[m] t.args) (by simp) ?_
  simp -dsimp [go_sem,hN]
  refine cnd ?_ ?_<;>intro h3<;>simp at h3
  ·
   rw [if_neg (by omega)] at hR
   subst hR
   simp -dsimp [go_sem,hN,noProc]
  ·
   rw [if_pos (by omega)] at hR
   subst hR
   simp -dsimp [go_sem,hN,hm]
variable {tT:TypeId} {tx:Nat×Nat} {g:Nat}
theorem c_serial_One (procs:List Proc) (s:List Pr) (t:Txn) (h:qaa) (hg:h[g]?=some (tabO tT tx)) (hI:∀ p,findP procs t=some p→RunIn qbh p t.args s) (hL:s.length≤60000000000) :
  ACalls Tryz.prog 20 [.slice (procs.map Proc.c),.slice (s.map Pr.c),.agg t.c] h fun r h'=>r=.ret (.tuple [.slice ((oneS qbh procs s t).1.map Pr.c),.agg (oneS qbh procs s t).2.c])∧h'=h:=by
 refine qav Tryz.func20 Tryz.ntmps20 rfl (by kernel_rfl) rfl fun E hN hh hu hb hb' hua=>?_
 have hgl:g<h.length:=(List.getElem?_eq_some_iff.1 hg).1
 have hg':∀ l:qaa,(h++l)[g]?=some (tabO tT tx):=fun l=>by rw [List.getElem?_append_left hgl];exact hg
 simp [go_sem] at hb
 obtain ⟨R,hR⟩:∃ R,oneS qbh procs s t=R:=⟨_,rfl⟩
 rw [hR]
 unfold oneS at hR
 simp -dsimp [go_sem,hN,Txn.c]
 refine qac (c_serial_find procs t) ?_
 rcases hF:findP procs t with _ | p
 ·
  rw [hF] at hR
  simp only at hR
  subst hR
  simp -dsimp [go_sem,hN,noProc]
  refine qac (c_Clone_P s) ?_
  simp -dsimp [go_sem,hN,wrongE]
  exact ⟨_,.refl _,h,by simp [go_sem],hwk.app0 _,Nat.le_refl _,hu,rfl,rfl⟩
 ·
  rw [hF] at hR
  simp only at hR
  have hRun:=hI p hF
  have hc1:=fun h=>run_commit_ok (fmt:=qbh) (p:=p) (args:=t.args) (s:=s) (ft:=t.ft) h
  have hc2:=fun h=>(run_commit (ft:=t.ft) hRun h).2.2
  have hlw:=run_lenW (ft:=t.ft) hRun
  have hcall:=fun H hH=>c_interp_Run (g:=g) (tT:=tT) (tx:=tx) p t.args s t.ft H hH hRun
  obtain ⟨e,he⟩:∃ e,runS qbh p t.args s t.ft=e:=⟨_,rfl⟩
  rw [he] at hR hc1 hc2 hlw
  simp only [he] at hcall
  simp -dsimp [go_sem,hN]
  refine qai (hcall _ (hg' _)) ?_
  rintro r h' ⟨rfl,rfl⟩
  simp -dsimp [go_sem,hN]
  refine cnd ?_ ?_<;>intro h0<;>simp at h0
  ·
   rw [if_pos h0] at hR
   subst hR
   have hA:=c_state_Apply s e.writes (by omega)
   rw [hc1 h0,hc2 h0] at hA
   simp only [Bool.and_self,if_true] at hA
   simp -dsimp [go_sem,hN]
   refine qac hA ?_
   simp -dsimp [go_sem,hN]
   refine qak 3 mixed (by kernel_rfl) (by kernel_rfl) ?_
   simp -dsimp [go_sem,hN]
   exact ⟨_,.refl _,h,by simp [go_sem],hwk.app0 _,Nat.le_refl _,hu,rfl,rfl⟩
  ·
   rw [if_neg h0] at hR
   subst hR
   simp -dsimp [go_sem,hN]
   refine qak 4 mixed (by kernel_rfl) (by kernel_rfl) ?_
   simp -dsimp [go_sem,hN]
   refine tdcall (c_Clone_P s) (by simp) ?_
   simp -dsimp [go_sem,hN]
   exact ⟨_,.refl _,h,by simp [go_sem],hwk.app0 _,Nat.le_refl _,hu,rfl,rfl⟩
end Go.Proofs.YtdbpbpmikpdjcaaGreatDoor

set_option maxRecDepth 4000
set_option maxHeartbeats 2000000
namespace Go.Proofs.YtdbpbpmikpdjcaaGreatDoor
open Go Go.Abs Go.Cw
variable {tT:TypeId} {tx:Nat×Nat} {g:Nat}
theorem c_serial_with (procs:List Proc) (h:qaa) :
  ACalls Tryz.prog 59 [.slice (procs.map Proc.c)] h fun r h'=>r=.ret (.agg [.fn (.func 105) [] [.ptr h.length 0]])∧h'=h++[.cells [.slice (procs.map Proc.c)]]:=by
 refine qav Tryz.func59 Tryz.ntmps59 rfl (by kernel_rfl) rfl fun E hN hh hu hb hb' hua=>?_
 simp -dsimp [go_sem,hN]
 exact ⟨_,.refl _,h++[.cells [.slice (procs.map Proc.c)]],by simp [go_sem],hwk.app (l:=[_,_]) (l':=[_]) ⟨ObjWk.refl _,trivial⟩ h,by simp,by simp [qab hu,go_sem],rfl,rfl⟩
theorem c_serial_with1 (procs:List Proc) (s:List Pr) (t:Txn) (h:qaa) (b:Nat) (hb0:h[b]?=some (.cells [.slice (procs.map Proc.c)])) (hg:h[g]?=some (tabO tT tx)) (hI:∀ p,findP procs t=some p→RunIn qbh p t.args s) (hL:s.length≤60000000000) :
  ACalls Tryz.prog 105 [.slice (s.map Pr.c),.agg t.c,.ptr b 0] h fun r h'=>r=.ret (.tuple [.slice ((oneS qbh procs s t).1.map Pr.c),.agg (oneS qbh procs s t).2.c])∧h'=h:=by
 refine qav Tryz.func105 Tryz.ntmps105 rfl (by kernel_rfl) rfl fun E hN hh hu hb hb' hua=>?_
 have hgl:g<h.length:=(List.getElem?_eq_some_iff.1 hg).1
 have hg':∀ l:qaa,(h++l)[g]?=some (tabO tT tx):=fun l=>by rw [List.getElem?_append_left hgl];exact hg
 have hbl:b<h.length:=(List.getElem?_eq_some_iff.1 hb0).1
 have hb1:∀ l:qaa,(h++l)[b]?=some (.cells [.slice (procs.map Proc.c)]):=fun l=>by rw [List.getElem?_append_left hbl];exact hb0
 have hone:=fun H hH=>c_serial_One (g:=g) (tT:=tT) (tx:=tx) procs s t H hH hI hL
 obtain ⟨O,hO⟩:∃ O,oneS qbh procs s t=O:=⟨_,rfl⟩
 simp only [hO] at hone ⊢
 simp -dsimp [go_sem,hN,hb1,Txn.c]
 refine qai (hone _ (hg' _)) ?_
 rintro r h' ⟨rfl,rfl⟩
 simp -dsimp [go_sem,hN,Eff.c]
 exact ⟨_,.refl _,h,by simp [go_sem],hwk.app0 _,Nat.le_refl _,hu,rfl,rfl⟩
theorem c_engine_round (procs:List Proc) (s:List Pr) (l:List Txn) (h:qaa) (b:Nat) (hb0:h[b]?=some (.cells [.slice (procs.map Proc.c)])) (hg:h[g]?=some (tabO tT tx)) (hB:BatchIn qbh procs l) (hs:rngL s) (hL:s.length+64 * l.length≤60000000000) :
  ACalls Tryz.prog 60 [.agg [.fn (.func 105) [] [.ptr b 0]],.slice (s.map Pr.c),.slice (l.map Txn.c)] h fun r h'=>r=.ret (.tuple [.slice ((qau qbh procs s l).1.map Pr.c),.slice ((qau qbh procs s l).2.map Eff.c)])∧h'=h:=by
 refine qav Tryz.func60 Tryz.ntmps60 rfl (by kernel_rfl) rfl fun E hN hh hu hb hb' hua=>?_
 have hgl:g<h.length:=(List.getElem?_eq_some_iff.1 hg).1
 have hg':∀ l:qaa,(h++l)[g]?=some (tabO tT tx):=fun l=>by rw [List.getElem?_append_left hgl];exact hg
 have hbl:b<h.length:=(List.getElem?_eq_some_iff.1 hb0).1
 have hb1:∀ l:qaa,(h++l)[b]?=some (.cells [.slice (procs.map Proc.c)]):=fun l=>by rw [List.getElem?_append_left hbl];exact hb0
 simp [go_sem] at hb
 simp -dsimp [go_sem,hN]
 refine qap l.length (fun n=>True) (fun n=>⟨[(1,.slice ((qau qbh procs s (l.take n)).1.map Pr.c)),(3,P0 h.length),(8,.own (h.length+1) n),(12,.slice (l.map Txn.c)),(13,I l.length),(14,I n)],h++[.cells [.fn (.func 105) [] [.ptr b 0]],.arr 45 8 ((qau qbh procs s (l.take n)).2.map Eff.c)]⟩) trivial ((nil_wk E _ 8 45 8 (by simp [go_sem])).trans ?_) ?_
 ·
  simp [qau]
  exact (Wk.mk (by simp [hh]) (by simp [go_sem]) (by simp [hu,qab hu,go_sem];omega) (by simp [go_sem]))
 intro n hn _
 have hw:=qbe hn (show _≤68719476736 by omega)
 obtain ⟨hrs,hrl,hrc⟩:=qcz (fmt:=qbh) (procs:=procs) hs hB n hn
 simp -dsimp [go_sem,hN]
 refine cnd ?_ ?_<;>intro hc<;>simp at hc
 ·
  have hnx:=round_next (fmt:=qbh) (procs:=procs) (s:=s) hc
  have hone:=fun H hH hH2=>c_serial_with1 (g:=g) (tT:=tT) (tx:=tx) procs (qau qbh procs s (l.take n)).1 l[n] H b hH hH2 (runIn_one hB hrs (List.getElem_mem hc)) (by omega)
  obtain ⟨X,hX⟩:∃ X,qau qbh procs s (l.take n)=X:=⟨_,rfl⟩
  rw [hX] at hnx hrs hrl hrc
  simp only [hX] at hone ⊢
  obtain ⟨O,hO⟩:∃ O,oneS qbh procs X.1 l[n]=O:=⟨_,rfl⟩
  rw [hO] at hnx
  simp only [hO] at hone
  simp -dsimp [go_sem,hN,hc,Txn.c]
  refine qai (hone _ (hb1 _) (hg' _)) ?_
  rintro r h' ⟨rfl,rfl⟩
  simp -dsimp [go_sem,hN,hw,hrc,Eff.c]
  refine ⟨by omega,hc,?_⟩
  rw [hnx]
  exact (Wk.mk (by simp [hh]) (by simp [go_sem,Eff.c]) (by simp [hu,qab hu,go_sem];omega) (by simp [go_sem]))
 ·
  simp -dsimp [go_sem,hN]
  rw [if_pos hrc,List.take_of_length_le (by omega)]
  exact ⟨_,.refl _,h,by simp [go_sem],hwk.app0 _,Nat.le_refl _,hu,rfl,rfl⟩
theorem c_serial_Round (procs:List Proc) (s:List Pr) (l:List Txn) (h:qaa) (hg:h[g]?=some (tabO tT tx)) (hB:BatchIn qbh procs l) (hs:rngL s) (hL:s.length+64 * l.length≤60000000000) :
  ACalls Tryz.prog 31 [.slice (procs.map Proc.c),.slice (s.map Pr.c),.slice (l.map Txn.c)] h fun r h'=>r=.ret (.tuple [.slice ((qau qbh procs s l).1.map Pr.c),.slice ((qau qbh procs s l).2.map Eff.c)])∧h'=h:=by
 refine qav Tryz.func31 Tryz.ntmps31 rfl (by kernel_rfl) rfl fun E hN hh hu hb hb' hua=>?_
 have hgl:g<h.length:=(List.getElem?_eq_some_iff.1 hg).1
 have hg':∀ l:qaa,(h++l)[g]?=some (tabO tT tx):=fun l=>by rw [List.getElem?_append_left hgl];exact hg
 obtain ⟨X,hX⟩:∃ X,qau qbh procs s l=X:=⟨_,rfl⟩
 have hr:=fun H b h1 h2=>c_engine_round (g:=g) (tT:=tT) (tx:=tx) procs s l H b h1 h2 hB hs hL
 simp only [hX] at hr ⊢
 simp -dsimp [go_sem,hN]
 refine qai (c_serial_with procs h) ?_
 rintro r h' ⟨rfl,rfl⟩
 simp -dsimp [go_sem,hN]
 refine qai (hr _ h.length (by simp) (hg' _)) ?_
 rintro r h' ⟨rfl,rfl⟩
 simp -dsimp [go_sem,hN]
 refine qac (c_Clone_P X.1) ?_
 simp -dsimp [go_sem,hN]
 exact ⟨_,.refl _,h,by simp [go_sem],hwk.app0 _,Nat.le_refl _,hu,rfl,rfl⟩
end Go.Proofs.YtdbpbpmikpdjcaaGreatDoor

set_option maxRecDepth 4000
set_option maxHeartbeats 2000000
namespace Go.Proofs.YtdbpbpmikpdjcaaGreatDoor
open Go Go.Abs Go.Cw
end Go.Proofs.YtdbpbpmikpdjcaaGreatDoor

set_option maxRecDepth 8000
set_option maxHeartbeats 2000000
namespace Go.Proofs.YtdbpbpmikpdjcaaGreatDoor
open Go Go.Abs Go.Cw
def bk:qad:=⟨#[107]⟩
def bn:qad:=⟨#[110]⟩
def bx:qad:=⟨#[120]⟩
def addP:Proc:=⟨⟨#[97,100,100]⟩,[⟨bk,2⟩,⟨bn,1⟩],[.mk 3 em 0 (.mk 3 0 bk []) (.mk 4 0 em [.mk 22 0 em [.mk 3 0 bk []],.mk 3 0 bn []]) [] []]⟩
theorem at_tab {tT:TypeId} {tx:Nat×Nat} {g:Nat} {f:FuncId} {args:List AV} {r:AV} {h:qaa} (H:∀ h,h[g]?=some (tabO tT tx)→ACalls Tryz.prog f args h fun e h'=>e=.ret r∧h'=h) (hg:h[g]?=some (tabO tT tx)):APureAt Tryz.prog f args r h:=fun h' hs=>H h' (hs g _ _ _ hg)
def exSt:List Pr:=[⟨bx,vI 5⟩]
def exArgs:List V:=[vS bx,vI 2]
theorem ok_digit (k:Nat) (h:k<10):okB (UInt8.ofNat (48+k))=true:=by
 have:∀ k:Fin 10,okB (UInt8.ofNat (48+k.val))=true:=by decide
 exact this ⟨k,h⟩
theorem ok_digits:∀ (u:Nat),∀ b∈Lib.decDigits u,okB b=true:=by
 intro u
 induction u using Nat.strongRecOn with
 | ind u ih =>
  intro b hb
  rw [Lib.decDigits] at hb
  split at hb
  ·
   rename_i h
   simp only [List.mem_singleton] at hb
   subst hb
   exact ok_digit _ h
  ·
   rename_i h
   rw [List.mem_append] at hb
   rcases hb with hb | hb
   · exact ih (u / 10) (by omega) b hb
   ·
    simp only [List.mem_singleton] at hb
    subst hb
    exact ok_digit _ (Nat.mod_lt _ (by decide))
theorem plain_itoa (n:Int) (hn:i64 n):qbk (qbh n)=true:=by
 have hl:=Lib.itoa_length_le n hn.1 hn.2
 unfold qbk
 rw [Bool.and_eq_true,decide_eq_true_eq,allL_iff]
 refine ⟨fun b hb=>?_,?_⟩
 ·
  have hb:b∈Lib.itoa n:=by simpa [bl,qbh] using hb
  unfold Lib.itoa at hb
  split at hb
  ·
   rcases List.mem_cons.1 hb with rfl | hb
   · decide
   · exact ok_digits _ b hb
  · exact ok_digits _ b hb
 ·
  show (((Lib.itoa n).toArray.size:Nat):Int)≤64
  rw [List.size_toArray]
  omega
section
variable {tT:TypeId} {tx:Nat×Nat} {g:Nat}
end
end Go.Proofs.YtdbpbpmikpdjcaaGreatDoor

set_option maxRecDepth 4000
set_option maxHeartbeats 2000000
namespace Go.Proofs.YtdbpbpmikpdjcaaGreatDoor
open Go Go.Abs Go.Cw
theorem c_Clone_V (l:List V):APure Tryz.prog 53 [.slice (l.map V.c)] (.slice (l.map V.c)):=by
 refine qcu Tryz.func53 rfl (by kernel_rfl) (by simp [Tryz.ntmps53]) rfl ?_
 intro E h hN hh hu hb
 rw [Tryz.ntmps53] at hN
 simp [go_sem] at hb
 refine qa6 (awp_ops ?_)
 simp [go_sem,hN]
 refine qa6 (qa6 (awp_opsT [_] _ ?_))
 simp [go_sem,hN]
 intro c a w s k
 refine wp_eqnil s (el:=77) (sz:=3) (x:=.tmp 3) (rows:=l.map V.c) (d1:=4) rfl rfl (by omega) rfl (by simp [go_sem]) (by simp [go_sem]) (by simp [go_sem]) fun b a' hbn s'=>?_
 refine qbo _ [_,_] _ rfl ?_ c a' w s' k
 simp [go_sem,hN]
 cases b with
 | true =>
  have hl:l=[]:=by simpa using hbn rfl
  subst hl
  apply qao
  simp -dsimp [go_sem,hN]
 | false =>
  refine awp_cond (x:=.tmp 4) (b:=false) (by simp [go_sem]) (fun h=>by cases h) (fun _=>awp_skip ?_)
  simp only [then_normal]
  refine qa6 (awp_opsT [] _ ?_)
  simp [go_sem,hN]
  intro c a w s k
  refine wp_lit0 s k (el:=77) (sz:=3) (d1:=5) rfl rfl (by omega) rfl (by simp [go_sem]) (by simp [go_sem]) (by simp [go_sem]) (by omega) fun c' a' w' s' k'=>?_
  refine qbo _ [_] _ rfl ?_ c' a' w' s' k'
  simp [go_sem,hN]
  refine ⟨hb.1,?_⟩
  apply qao
  simp -dsimp [go_sem,hN]
theorem c_Clone_S (l:List qad):APure Tryz.prog 134 [.slice (l.map qbg)] (.slice (l.map qbg)):=by
 refine qcu Tryz.func134 rfl (by kernel_rfl) (by simp [Tryz.ntmps134]) rfl ?_
 intro E h hN hh hu hb
 rw [Tryz.ntmps134] at hN
 simp [go_sem] at hb
 refine qa6 (awp_ops ?_)
 simp [go_sem,hN]
 refine qa6 (qa6 (awp_opsT [_] _ ?_))
 simp [go_sem,hN]
 intro c a w s k
 refine wp_eqnil s (el:=9) (sz:=1) (x:=.tmp 3) (rows:=l.map qbg) (d1:=4) rfl rfl (by omega) rfl (by simp [go_sem]) (by simp [go_sem]) (by simp [go_sem]) fun b a' hbn s'=>?_
 refine qbo _ [_,_] _ rfl ?_ c a' w s' k
 simp [go_sem,hN]
 cases b with
 | true =>
  have hl:l=[]:=by simpa using hbn rfl
  subst hl
  apply qao
  simp -dsimp [go_sem,hN]
 | false =>
  refine awp_cond (x:=.tmp 4) (b:=false) (by simp [go_sem]) (fun h=>by cases h) (fun _=>awp_skip ?_)
  simp only [then_normal]
  refine qa6 (awp_opsT [] _ ?_)
  simp [go_sem,hN]
  intro c a w s k
  refine wp_lit0 s k (el:=9) (sz:=1) (d1:=5) rfl rfl (by omega) rfl (by simp [go_sem]) (by simp [go_sem]) (by simp [go_sem]) (by omega) fun c' a' w' s' k'=>?_
  refine qbo _ [_] _ rfl ?_ c' a' w' s' k'
  simp [go_sem,hN]
  refine ⟨hb.1,?_⟩
  apply qao
  simp -dsimp [go_sem,hN]
theorem c_fp_Of (e:Eff):APure Tryz.prog 101 [.agg e.c] (.agg (ftOf e).c):=by
 refine qaz Tryz.func101 Tryz.ntmps101 rfl (by kernel_rfl) rfl rfl fun E h hN hh hu hb=>?_
 simp -dsimp [go_sem,hN,Eff.c]
 refine qak 5 mixed (by kernel_rfl) (by kernel_rfl) ?_
 simp -dsimp [go_sem,hN,Eff.c]
 refine tdcall (c_Clone_S e.reads) (by simp) ?_
 simp -dsimp [go_sem,hN]
 refine qac (c_Clone_S e.puts) ?_
 simp -dsimp [go_sem,hN,Foot.c]
theorem c_predict_fits (p:Proc) (args:List V):APure Tryz.prog 100 [.agg p.c,.slice (args.map V.c)] (Bo (decide (qbs p=0)&&decide (qci p args=0))):=by
 refine qaz Tryz.func100 Tryz.ntmps100 rfl (by kernel_rfl) rfl rfl fun E h hN hh hu hb=>?_
 simp -dsimp [go_sem,hN]
 refine qac (c_cost_Check p) ?_
 simp -dsimp [go_sem,hN]
 refine qaj (c_types_Args p args) (by simp) ?_
 simp -dsimp [go_sem,hN]
variable {tT:TypeId} {tx:Nat×Nat} {g:Nat}
theorem c_predict_Recon (p:Proc) (args:List V) (st:List Pr) (h:qaa) (hg:h[g]?=some (tabO tT tx)) (hI:RunIn qbh p args st) :
  ACalls Tryz.prog 56 [.agg p.c,.slice (args.map V.c),.slice (st.map Pr.c)] h fun r h'=>r=.ret (.tuple [.agg (reconS qbh p args st).1.c,I (reconS qbh p args st).2])∧h'=h:=by
 refine qav Tryz.func56 Tryz.ntmps56 rfl (by kernel_rfl) rfl fun E hN hh hu hb hb' hua=>?_
 have hgl:g<h.length:=(List.getElem?_eq_some_iff.1 hg).1
 have hg':∀ l:qaa,(h++l)[g]?=some (tabO tT tx):=fun l=>by rw [List.getElem?_append_left hgl];exact hg
 have hfree:=fun H hH=>c_interp_Free (g:=g) (tT:=tT) (tx:=tx) p args st H hH hI
 obtain ⟨X,hX⟩:∃ X,runS qbh p args st ⟨true,[],[]⟩=X:=⟨_,rfl⟩
 have hR:reconS qbh p args st=if qbs p≠0∨qci p args≠0∨qbc st=false then (⟨false,[],[]⟩,1) else (ftOf X,0):=by rw [← hX];rfl
 simp only [hX] at hfree
 obtain ⟨R,hR2⟩:∃ R,reconS qbh p args st=R:=⟨_,rfl⟩
 rw [hR2] at hR ⊢
 simp -dsimp [go_sem,hN]
 refine qac (c_predict_fits p args) ?_
 simp -dsimp [go_sem,hN]
 refine qaj (c_state_Valid st) (by simp) ?_
 simp -dsimp [go_sem,hN]
 refine cnd ?_ ?_<;>intro h0<;>simp at h0
 ·
  rw [if_pos (by grind)] at hR
  subst hR
  simp -dsimp [go_sem,hN,Foot.c]
  exact ⟨_,.refl _,h,by simp [go_sem],hwk.app0 _,Nat.le_refl _,hu,rfl,rfl⟩
 ·
  rw [if_neg (by grind)] at hR
  subst hR
  simp -dsimp [go_sem,hN]
  refine qai (hfree _ (hg' _)) ?_
  rintro r h' ⟨rfl,rfl⟩
  simp -dsimp [go_sem,hN]
  refine qac (c_fp_Of X) ?_
  simp -dsimp [go_sem,hN,Foot.c]
  exact ⟨_,.refl _,h,by simp [go_sem],hwk.app0 _,Nat.le_refl _,hu,rfl,rfl⟩
theorem c_serial_Retry1 (x:Proc) (h:qaa) (i:Nat) (t:Txn) (hi:h[i]?=some (.cells t.c)):ACalls Tryz.prog 55 [.agg x.c,.ptr i 0] h fun r h'=>r=.ret (Bo (decide (x.name=t.proc)))∧h'=h:=by
 refine qav Tryz.func55 Tryz.ntmps55 rfl (by kernel_rfl) rfl fun E hN hh hu hb hb' hua=>?_
 have hi':i<h.length:=(List.getElem?_eq_some_iff.1 hi).1
 have a1:∀ l,(h++l)[i]?=some (.cells t.c):=fun l=>by rw [List.getElem?_append_left hi'];exact hi
 simp -dsimp [go_sem,hN,a1,hu,Txn.c]
 exact ⟨_,.refl _,h,by simp [go_sem],by simp [go_sem],by simp,by simp [hu,go_sem],rfl,rfl⟩
theorem c_serial_Retry (procs:List Proc) (s:List Pr) (t:Txn) (h:qaa) (hg:h[g]?=some (tabO tT tx)) (hI:∀ p∈procs,RunIn qbh p t.args s) :
  ACalls Tryz.prog 24 [.slice (procs.map Proc.c),.slice (s.map Pr.c),.agg t.c] h fun r h'=>r=.ret (.agg (qct qbh procs s t).c)∧h'=h:=by
 refine qav Tryz.func24 Tryz.ntmps24 rfl (by kernel_rfl) rfl fun E hN hh hu hb hb' hua=>?_
 have hgl:g<h.length:=(List.getElem?_eq_some_iff.1 hg).1
 have hg':∀ l:qaa,(h++l)[g]?=some (tabO tT tx):=fun l=>by rw [List.getElem?_append_left hgl];exact hg
 simp [go_sem] at hb
 obtain ⟨R,hR⟩:∃ R,qct qbh procs s t=R:=⟨_,rfl⟩
 rw [hR]
 unfold qct at hR
 simp -dsimp [go_sem,hN,Txn.c]
 refine qak 10 mixed (by kernel_rfl) (by kernel_rfl) ?_
 simp -dsimp [go_sem,hN,Txn.c]
 refine tdcall (c_Clone_V t.args) (by simp) ?_
 simp -dsimp [go_sem,hN]
 refine cnd ?_ ?_<;>intro h0<;>simp at h0
 ·
  rw [if_pos h0] at hR
  subst hR
  simp -dsimp [go_sem,hN,Txn.c]
  exact ⟨_,.refl _,h,by simp [go_sem],hwk.app0 _,Nat.le_refl _,hu,rfl,rfl⟩
 rw [if_neg (by omega)] at hR
 simp -dsimp [go_sem,hN]
 refine qai (c_IndexFunc_Proc procs _ _ (fun x=>decide (x.name=t.proc)) _ (by simp [qa4,AV.norm]) (fun x=>c_serial_Retry1 x _ _ t (by simp [Txn.c]))) ?_
 rintro r h' ⟨rfl,rfl⟩
 rcases idxOf_find (fun x:Proc=>decide (x.name=t.proc)) procs with ⟨h1,h2⟩ | ⟨m,hm,h1,h2⟩
 ·
  rw [show findN procs t.proc=none from h2] at hR
  simp only at hR
  subst hR
  rw [h1]
  simp -dsimp [go_sem,hN,Txn.c]
  exact ⟨_,.refl _,h,by simp [go_sem],hwk.app0 _,Nat.le_refl _,hu,rfl,rfl⟩
 ·
  rw [show findN procs t.proc=some procs[m] from h2] at hR
  simp only at hR
  have hrec:=fun H hH=>c_predict_Recon (g:=g) (tT:=tT) (tx:=tx) procs[m] t.args s H hH (hI _ (List.getElem_mem hm))
  obtain ⟨X,hX⟩:∃ X,reconS qbh procs[m] t.args s=X:=⟨_,rfl⟩
  rw [hX] at hR
  simp only [hX] at hrec
  rw [h1]
  simp -dsimp [go_sem,hN,hm]
  refine cnd (fun hx=>absurd (of_decide_eq_true hx) (by omega)) (fun _=>?_)
  simp -dsimp [go_sem,hN]
  refine awp_drawG 13 mixed (by kernel_rfl) ?_
  simp -dsimp [go_sem,hN,hm,Txn.c]
  refine tdcall_at (fun _=>at_tab (fun h hg=>hrec h hg) (hg' _)) (by simp) ?_
  simp -dsimp [go_sem,hN]
  refine ⟨by simp [sepD,List.zipIdx],?_⟩
  refine cnd ?_ ?_<;>intro h3<;>simp at h3
  ·
   rw [if_pos (by omega)] at hR
   subst hR
   simp -dsimp [go_sem,hN,Txn.c,Foot.c]
   exact ⟨_,.refl _,h,by simp [go_sem],hwk.app0 _,Nat.le_refl _,hu,rfl,rfl⟩
  ·
   rw [if_neg (by omega)] at hR
   subst hR
   simp -dsimp [go_sem,hN,Txn.c,Foot.c]
   exact ⟨_,.refl _,h,by simp [go_sem],hwk.app0 _,Nat.le_refl _,hu,rfl,rfl⟩
end Go.Proofs.YtdbpbpmikpdjcaaGreatDoor

set_option maxRecDepth 4000
set_option maxHeartbeats 2000000
namespace Go.Proofs.YtdbpbpmikpdjcaaGreatDoor
open Go Go.Abs Go.Cw
def nRow (k:Nat):List AV:=[I (k:Int)]
def atN (L n:Nat):List (List AV):=(List.range n++List.replicate (L - n) 0).map nRow
theorem atN_len {L n:Nat} (h:n≤L):(atN L n).length=L:=by simp [atN];omega
theorem atN_0 (L:Nat):atN L 0=List.replicate L [I 0]:=by simp [atN,nRow]
theorem atN_end (L:Nat):atN L L=(List.range L).map nRow:=by simp [atN]
theorem atN_set {L n:Nat} (h:n<L):(atN L n).set n [I (n:Int)]=atN L (n+1):=by
 unfold atN
 obtain ⟨k,hk⟩:∃ k,L - n=k+1:=⟨L - n - 1,by omega⟩
 rw [show [I (n:Int)]=nRow n from rfl,← List.map_set,hk,show L - (n+1)=k by omega,List.range_succ,List.replicate_succ]
 simp [List.set_append]
theorem atN_get {L n:Nat} (h:n<L) (h':n<(atN L n).length):(atN L n)[n]=[I 0]:=by
 unfold atN
 obtain ⟨k,hk⟩:∃ k,L - n=k+1:=⟨L - n - 1,by omega⟩
 simp [hk,List.replicate_succ,nRow]
theorem map_set {α β:Type} (f:α→β) (l:List α) (i:Nat) (x:α):(l.map f).set i (f x)=(l.set i x).map f:=by rw [List.map_set]
variable {tT:TypeId} {tx:Nat×Nat} {g:Nat}
theorem c_serial_Batch0 (procs:List Proc) (s:List Pr) (l:List Txn) (h:qaa) (hg:h[g]?=some (tabO tT tx)) (hB:BatchIn qbh procs l) (hs:rngL s) (hL:s.length+192 * l.length≤60000000000) :
  ACalls Tryz.prog 27 [.slice (procs.map Proc.c),.slice (s.map Pr.c),.slice (l.map Txn.c)] h fun r h'=>r=.ret (.tuple [.slice ((batchS qbh procs s l).1.map Pr.c),.own (h.length+2) l.length])∧h'=h++[.none,.none,.uarr 61 5 ((batchS qbh procs s l).2.map Res.c)]:=by
 refine acalls_introB Tryz.func27 rfl (by kernel_rfl) (by simp [Tryz.ntmps27]) ?_
 intro E hN hh hu hb hb' hua
 rw [Tryz.ntmps27] at hN
 have hgl:g<h.length:=(List.getElem?_eq_some_iff.1 hg).1
 have hg':∀ l:qaa,(h++l)[g]?=some (tabO tT tx):=fun l=>by rw [List.getElem?_append_left hgl];exact hg
 simp [go_sem] at hb
 refine qa6 (awp_ops ?_)
 simp [go_sem,hN]
 refine qa6 (qao _ _ _ ?_)
 simp -dsimp [go_sem,hN]
 refine qai (c_serial_with procs h) ?_
 rintro r h' ⟨rfl,he⟩
 rw [he]
 simp -dsimp [go_sem,hN]
 refine qa6 (awp_opsT [_,_] _ ?_)
 simp [go_sem,hN]
 intro c a w sm k
 refine wp_makeT sm k (el:=61) (x:=.tmp 21) (d1:=22) (n:=l.length) (sz:=5) (zr:=[I 0,I 0,I 0,I 0,.slice []]) rfl rfl (by omega) rfl (by simp [go_sem]) (by simp [go_sem]) (by simp [go_sem]) (by omega) (by simp [go_sem]) (by simp [go_sem]) (by simp [go_sem,nilz]) (by simp [go_sem]) (by simp [go_sem]) (by omega) fun c' a' w' s' k'=>?_
 refine qbo _ [_,_,_] _ rfl ?_ c' a' w' s' k'
 simp [go_sem,hN]
 refine qa6 (awp_opsT [_,_] _ ?_)
 simp [go_sem,hN]
 intro c a w sm k
 refine wp_makeT sm k (el:=3) (x:=.tmp 24) (d1:=25) (n:=l.length) (sz:=1) (zr:=[I 0]) rfl rfl (by omega) rfl (by simp [go_sem]) (by simp [go_sem]) (by simp [go_sem]) (by omega) (by simp [go_sem]) (by simp [go_sem]) (by simp [go_sem,nilz]) (by simp [go_sem]) (by simp [go_sem]) (by omega) fun c' a' w' s' k'=>?_
 refine qbo _ [_,_,_] _ rfl ?_ c' a' w' s' k'
 simp [go_sem,hN]
 apply qao
 simp -dsimp [go_sem,hN]
 refine qap l.length (fun n=>True) (fun n=>⟨[(0,.slice (procs.map Proc.c)),(1,.slice (s.map Pr.c)),(2,.slice (l.map Txn.c)),(8,P0 (h.length+1)),(9,.own (h.length+2) l.length),(10,.own (h.length+3) l.length),(27,I l.length),(28,I n)],h++[.cells [.slice (procs.map Proc.c)],.cells [.fn (.func 105) [] [.ptr h.length 0]],.uarr 61 5 ((List.replicate l.length Res.z).map Res.c),.uarr 3 1 (atN l.length n)]⟩) trivial ?_ ?_
 ·
  rw [atN_0,List.map_replicate]
  exact (Wk.mk (by simp [hh]) (by simp [go_sem,Res.z,Res.c]) (by simp [hu,qab hu,go_sem]) (by simp [go_sem]))
 ·
  intro n hn _
  have hw:=qbe hn (show _≤68719476736 by omega)
  have hal:=atN_len hn
  simp -dsimp [go_sem,hN]
  refine cnd ?_ ?_<;>intro hc<;>simp at hc
  ·
   have hset:=atN_set hc
   have hat:=fun h'=>atN_get hc h'
   simp -dsimp [go_sem,hN,hc,hal,hat,hset,hw]
   exact (Wk.mk (by simp [hh]) (by simp [go_sem]) (by simp [hu,qab hu,go_sem]) (by simp [go_sem]))
  ·
   have hn2:n=l.length:=by omega
   subst hn2
   rw [atN_end]
   simp -dsimp [go_sem,hN]
   refine awp_loopM (α:=BSt) (fun x=>BOk qbh procs s l x) (fun x=>⟨[(0,.slice (procs.map Proc.c)),(1,.slice (x.s.map Pr.c)),(8,P0 (h.length+1)),(9,.own (h.length+2) l.length),(10,.slice (x.is.map nRow)),(12,.slice (x.l.map Txn.c))],h++[.cells [.slice (procs.map Proc.c)],.cells [.fn (.func 105) [] [.ptr h.length 0]],.uarr 61 5 (x.out.map Res.c)]⟩) (fun x=>x.k) (b0 s l) (b0_ok hB hs hL) ?_ ?_
   ·
    refine (demote_wk E _ (i:=h.length+3) (t:=3) (sz:=1) (rows:=(List.range l.length).map nRow) (by simp)).trans ?_
    simp
    refine (norm_wk E _).trans ?_
    exact Wk.mk (by simp [hh]) (by simp [go_sem,b0]) (by simp [hu,qab hu,go_sem]) (by simp [go_sem,AV.norm,qa4,wkT,b0])
   intro x hx
   have hxl:x.l.length≤68719476736:=by have:=hx.ll;omega
   simp -dsimp [go_sem,hN]
   refine cnd ?_ ?_<;>intro hc<;>simp at hc
   ·
    have hne:x.l≠[]:=fun e=>by rw [e] at hc;simp at hc
    obtain ⟨hnx,hlt⟩:=bNext_ok hx hne
    have hsl:=hx.sl
    have hll:=hx.ll
    have hk1:0<x.k:=by omega
    have hmul:l.length≤l.length * x.k:=Nat.le_mul_of_pos_right _ hk1
    have hround:=fun H h1 h2=>c_engine_round (g:=g) (tT:=tT) (tx:=tx) procs x.s x.l H h.length h1 h2 hx.inn hx.rng (by omega)
    have hcnt:=round_cnt (fmt:=qbh) procs x.s x.l
    have hrr:=(qcz (fmt:=qbh) (procs:=procs) (l:=x.l) hx.rng hx.inn x.l.length (Nat.le_refl _)).1
    rw [List.take_length] at hrr
    unfold bNext at hnx hlt
    obtain ⟨R,hR⟩:∃ R,qau qbh procs x.s x.l=R:=⟨_,rfl⟩
    rw [hR] at hcnt hrr
    simp only [hR] at hround hnx hlt
    simp -dsimp [go_sem,hN]
    refine qai (hround _ (by simp) (hg' _)) ?_
    rintro r h' ⟨rfl,rfl⟩
    simp -dsimp [go_sem,hN]
    obtain ⟨Y,hY⟩:∃ Y,qb0 qbh procs R.1 x.l R.2 x.is (x.out,[],[])=Y:=⟨_,rfl⟩
    rw [hY] at hnx
    refine qa7 (α:=List Res×List Txn×List Nat) x.l.length (fun n y=>qb0 qbh procs R.1 (x.l.drop n) (R.2.drop n) (x.is.drop n) y=Y∧y.1.length=l.length∧y.2.1.length≤n∧y.2.2.length=y.2.1.length) (fun n y=>⟨[(0,.slice (procs.map Proc.c)),(1,.slice (R.1.map Pr.c)),(8,P0 (h.length+1)),(9,.own (h.length+2) l.length),(10,.slice (x.is.map nRow)),(13,.slice (R.2.map Eff.c)),(14,.own (h.length+3) y.2.1.length),(15,.own (h.length+4) y.2.2.length),(47,.slice (x.l.map Txn.c)),(48,I x.l.length),(49,I n)],h++[.cells [.slice (procs.map Proc.c)],.cells [.fn (.func 105) [] [.ptr h.length 0]],.uarr 61 5 (y.1.map Res.c),.arr 41 7 (y.2.1.map Txn.c),.arr 3 1 (y.2.2.map nRow)]⟩) (x.out,[],[]) ⟨by simpa using hY,hx.ol,by simp,rfl⟩ ((nil_wk E _ 14 41 7 (by simp [go_sem])).trans ((nil_wk E _ 15 3 1 (by simp [go_sem])).trans ?_)) ?_
    · exact (Wk.mk (by simp [hh]) (by simp [go_sem]) (by simp [hu,qab hu,go_sem]) (by simp [go_sem]))
    rintro n ⟨out,nx,lf⟩ hn ⟨hI,ho,hnl,hlf⟩
    have hw2:=qbe hn (show _≤68719476736 by omega)
    dsimp only at ho hnl hlf ⊢
    simp -dsimp [go_sem,hN]
    refine cnd ?_ ?_<;>intro hd<;>simp at hd
    ·
     have hd2:n<R.2.length:=by omega
     have hd3:n<x.is.length:=by rw [hx.len];exact hd
     have hil:x.is[n]<l.length:=hx.lt _ (List.getElem_mem hd3)
     have hil2:x.is[n]<out.length:=by omega
     rw [qag hd,qag hd2,qag hd3,qb0] at hI
     have hres:(out.map Res.c).set x.is[n] [I x.l[n].id,I x.l[n].att,I R.2[n].status,I R.2[n].code,.slice (R.2[n].out.map V.c)]=(out.set x.is[n] (resOf x.l[n] R.2[n])).map Res.c:=map_set Res.c out _ (resOf x.l[n] R.2[n])
     have hretry:=fun H hH=>c_serial_Retry (g:=g) (tT:=tT) (tx:=tx) procs R.1 x.l[n] H hH (fun p hp=>⟨hx.inn.fmt,hx.inn.body p hp,hx.inn.args _ (List.getElem_mem hd),hrr⟩)
     obtain ⟨t2,ht2⟩:∃ t2,qct qbh procs R.1 x.l[n]=t2:=⟨_,rfl⟩
     rw [ht2] at hI
     simp only [ht2] at hretry
     simp -dsimp [go_sem,hN,hd,Txn.c]
     refine qak 15 mixed (by kernel_rfl) (by kernel_rfl) ?_
     simp -dsimp [go_sem,hN,hd,hd2,hd3,hil,hil2,ho,Txn.c,Eff.c,nRow,hres]
     refine cnd ?_ ?_<;>intro h1<;>simp at h1
     ·
      rw [if_pos h1] at hI
      simp -dsimp [go_sem,hN,Txn.c]
      refine qai (hretry _ (hg' _)) ?_
      rintro r h' ⟨rfl,rfl⟩
      simp -dsimp [go_sem,hN,hd3,hw2,Txn.c,nRow]
      exact ⟨by omega,by omega,hd,out.set x.is[n] (resOf x.l[n] R.2[n]),nx++[t2],lf++[x.is[n]],⟨hI,by simpa using ho,by simp;omega,by simp [hlf]⟩,(Wk.mk (by simp [hh]) (by simp [go_sem,Res.c,resOf,Txn.c,nRow]) (by simp [hu,qab hu,go_sem]) (by simp [go_sem]))⟩
     ·
      rw [if_neg h1] at hI
      simp -dsimp [go_sem,hN,hw2]
      exact ⟨hd,out.set x.is[n] (resOf x.l[n] R.2[n]),nx,lf,⟨hI,by simpa using ho,by omega,hlf⟩,(Wk.mk (by simp [hh]) (by simp [go_sem,Res.c,resOf,Txn.c,nRow]) (by simp [hu,qab hu,go_sem]) (by simp [go_sem]))⟩
    ·
     have hn2:n=x.l.length:=by omega
     subst hn2
     rw [List.drop_length,qb0] at hI
     ·
      subst hI
      simp -dsimp [go_sem,hN]
      refine ⟨_,hnx,hlt,(norm_wk E _).trans (Wk.mk (by simp [hh]) (by simp [go_sem]) (by simp [hu,qab hu,go_sem]) (by simp [go_sem,AV.norm,qa4,wkT]))⟩
     · simp
   ·
    have hl0:x.l=[]:=hc
    have hfin:=hx.eq
    rw [hl0,batch_done] at hfin
    rw [← hfin]
    simp -dsimp [go_sem,hN]
    refine qac (c_Clone_P x.s) ?_
    simp -dsimp [go_sem,hN]
    exact ⟨_,.refl _,h++[.none,.none,.uarr 61 5 (x.out.map Res.c)],by simp [go_sem],by simp [go_sem],by simp,by simp [qab hu,go_sem],rfl,rfl⟩
theorem c_serial_Batch (procs:List Proc) (s:List Pr) (l:List Txn) (h:qaa) (hg:h[g]?=some (tabO tT tx)) (hB:BatchIn qbh procs l) (hs:rngL s) (hL:s.length+192 * l.length≤60000000000) :
  ACalls Tryz.prog 27 [.slice (procs.map Proc.c),.slice (s.map Pr.c),.slice (l.map Txn.c)] h fun r h'=>r=.ret (.tuple [.slice ((batchS qbh procs s l).1.map Pr.c),.slice ((batchS qbh procs s l).2.map Res.c)])∧h'=h:=by
 have hlen:=(batch_ends (fmt:=qbh) (procs:=procs) (s:=s) l).1
 have core:=c_serial_Batch0 (g:=g) (tT:=tT) (tx:=tx) procs s l h hg hB hs hL
 refine ⟨core.1,fun cx wx vx hsx hax=>?_⟩
 have hu:=hsx.hUnder
 refine (acalls_ret (fun E hE=>?_) core).2 cx wx vx hsx hax
 refine (demote_wk E _ (i:=h.length+2) (t:=61) (sz:=5) (rows:=(batchS qbh procs s l).2.map Res.c) (by simp)).trans ?_
 simp
 refine (norm_wk E _).trans ?_
 exact Wk.mk (by simp [hE]) (by simpa [go_sem] using hwk.app0 _) (by simpa using hu) (by simp [go_sem,AV.norm,qa4,wkT,hlen])
end Go.Proofs.YtdbpbpmikpdjcaaGreatDoor

set_option maxRecDepth 8000
set_option maxHeartbeats 2000000
namespace Go.Proofs.YtdbpbpmikpdjcaaGreatDoor
open Go Go.Abs Go.Cw
theorem sameL_refl {α:Type} {f:α→α→Bool} (hf:∀ x,f x x=true):∀ l,qcb f l l=true
 | []=>rfl
 | x::l=>by simp [qcb,hf,sameL_refl hf l]
theorem sameE_refl (e:Eff):sameE e e=true:=by
 simp [sameE,sameL_refl (f:=eqVal) (fun x=>by simp [eqVal]),sameL_refl (f:=eqB) (fun x=>by simp [eqB]),sameL_refl (f:=eqP) (fun x=>by simp [eqP,eqVal])]
variable {tT:TypeId} {tx:Nat×Nat} {g:Nat}
end Go.Proofs.YtdbpbpmikpdjcaaGreatDoor
