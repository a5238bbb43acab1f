/- Part 43 of a proof: W30, W50, W119, W98, W97, W99 -/
import Derived.Shelf.Small.Strs
import Derived.Shelf.Strconv.Itoa4
import Derived.Lib.ItoaLen
import Derived.Test.YtbimdamecieomaaGreatDoorProg
import Derived.Shelf.Slices.In.SortNone
import Derived.Shelf.Sort.Plain
import Derived.Shelf.Slices.CompactI
import Derived.Lib.SlicesCompact
import Derived.Test.YtbimdamecieomaaGreatDoorQ14
import Derived.Test.YtbimdamecieomaaGreatDoorQ15
import Derived.Test.YtbimdamecieomaaGreatDoorQ16
import Derived.Test.YtbimdamecieomaaGreatDoorQ17
import Derived.Test.YtbimdamecieomaaGreatDoorQ19
import Derived.Test.YtbimdamecieomaaGreatDoorQ21
import Derived.Test.YtbimdamecieomaaGreatDoorQ22
import Derived.Test.YtbimdamecieomaaGreatDoorQ23
import Derived.Test.YtbimdamecieomaaGreatDoorQ25
import Derived.Test.YtbimdamecieomaaGreatDoorQ26
import Derived.Test.YtbimdamecieomaaGreatDoorQ28
import Derived.Test.YtbimdamecieomaaGreatDoorQ29
import Derived.Test.YtbimdamecieomaaGreatDoorQ31
import Derived.Test.YtbimdamecieomaaGreatDoorQ38
import Derived.Test.YtbimdamecieomaaGreatDoorQ39
import Derived.Test.YtbimdamecieomaaGreatDoorQ40
import Derived.Test.YtbimdamecieomaaGreatDoorQ42
set_option linter.all false

set_option maxRecDepth 4000
set_option maxHeartbeats 2000000
namespace Go.Proofs.YtbimdamecieomaaGreatDoor
open Go Go.Abs Go.Cw
attribute [local go_sem] mC
theorem kAV_vAV_und (n:Nat) (l:List (qac×V)):(AObj.map (kAV vAV l)).under n=true:=kAV_und (f:=vAV) (fun n a=>by simp [AV.under,V.c,qav]) n l
theorem kAV_u2 (n:Nat) (l:List (qac×V)):(∀ (a b:AV),(a,b)∈kAV vAV l→AV.under n a=true∧AV.under n b=true)=True:=by
 refine eq_true fun a b hab=>?_;obtain ⟨s,x,rfl,rfl⟩:=kAV_mem hab;simp [AV.under,V.c,qav]
theorem setArgs_nil (m:List (qac×V)):setArgs [] [] m=m:=rfl
theorem MH_run (st:List Pr) (ft:Foot) (fmt:Int→qac) (h A L:qaa) {g:Nat} {tb:AObj} {tV tS:Nat} (hg:h[g]?=some tb) (hu:hUnder h.length h=true) (a l:Nat) (hA:A.length=a) (hL:L.length=l) (uA:hUnder (h.length+(a+l+7)) A=true) (uL:hUnder (h.length+(a+l+7)) L=true) :
  MH (cfgR fmt st ft) tb tV tS g (h.length+(a+3)) (h.length+(a+1)) (h.length+(a+2)) (h.length+(a+l+4)) (h.length+(a+l+5)) (h.length+(a+l+6))
   (fun q=>h++(A++(.cells ft.c::.map (kAV vAV q.vars)::.map (kAV vAV q.own)::.cells (mC (cfgR fmt st ft) (h.length+(a+1)) (h.length+(a+2)) (h.length+(a+l+4)) (h.length+(a+l+5)) (h.length+(a+l+6)) q)::(L++[.arr tV 3 (q.out.map V.c),.uarr tS 1 (q.reads.map qbf),.uarr tS 1 (q.puts.map qbf)])))) (h.length+(a+l+7)):=by
 have hgl:g<h.length:=(List.getElem?_eq_some_iff.1 hg).1;subst hA;subst hL;have e1:∀ (X:qaa) (k:Nat),(h++X)[h.length+k]?=X[k]?:=fun X k=>by rw [List.getElem?_append_right (by omega)];congr 1;omega
 have e2:∀ (X:qaa) (k:Nat),(A++X)[A.length+k]?=X[k]?:=fun X k=>by rw [List.getElem?_append_right (by omega)];congr 1;omega
 have e3:∀ (X:qaa) (k:Nat),(L++X)[L.length+k]?=X[k]?:=fun X k=>by rw [List.getElem?_append_right (by omega)];congr 1;omega
 have s1:∀ (X:qaa) (k:Nat) (y:AObj),(h++X).set (h.length+k) y=h++X.set k y:=fun X k y=>by rw [List.set_append_right _ _ (by omega)];congr 2;omega
 have s2:∀ (X:qaa) (k:Nat) (y:AObj),(A++X).set (A.length+k) y=A++X.set k y:=fun X k y=>by rw [List.set_append_right _ _ (by omega)];congr 2;omega
 have s3:∀ (X:qaa) (k:Nat) (y:AObj),(L++X).set (L.length+k) y=L++X.set k y:=fun X k y=>by rw [List.set_append_right _ _ (by omega)];congr 2;omega
 have e4:∀ (a b c d:AObj) (X:qaa) (k:Nat),(a::b::c::d::(L++X))[L.length+4+k]?=X[k]?:=fun a b c d X k=>by
  rw [show L.length+4+k=(L.length+k)+1+1+1+1 by omega];simp only [List.getElem?_cons_succ];exact e3 X k
 have s4:∀ (a b c d y:AObj) (X:qaa) (k:Nat),(a::b::c::d::(L++X)).set (L.length+4+k) y=a::b::c::d::(L++X.set k y):=fun a b c d y X k=>by
  rw [show L.length+4+k=(L.length+k)+1+1+1+1 by omega];simp only [List.set_cons_succ];rw [s3]
 have i0:h.length+(A.length+L.length+4)=h.length+(A.length+(L.length+4+0)):=by omega
 have i1:h.length+(A.length+L.length+5)=h.length+(A.length+(L.length+4+1)):=by omega
 have i2:h.length+(A.length+L.length+6)=h.length+(A.length+(L.length+4+2)):=by omega
 constructor
 case lg=>intro q;rw [List.getElem?_append_left hgl];exact hg
 case len=>intro q;simp;omega
 case und =>
  intro q;rw [qax,qa1 (Nat.le_add_right _ _) hu,qax,uA];simp only [hUnder,kAV_vAV_und,qax,uL,Bool.true_and,Bool.and_true];simp [AObj.under,AV.under,qav,mC,Foot.c];omega
 case lm=>intro q;rw [e1,e2];rfl
 case lv=>intro q;rw [e1,e2];rfl
 case lo=>intro q;rw [e1,e2];rfl
 case lio=>intro q;rw [i0,e1,e2,e4];rfl
 case lir=>intro q;rw [i1,e1,e2,e4];rfl
 case lip=>intro q;rw [i2,e1,e2,e4];rfl
 case sm=>intro q no nr np s;rw [s1,s2];rfl
 case sv=>intro q x;rw [s1,s2];rfl
 case so=>intro q x;rw [s1,s2];rfl
 case sio=>intro q x;simp only [i0,s1,s2,s4];rfl
 case sir=>intro q x;simp only [i1,s1,s2,s4];rfl
 case sip=>intro q x;simp only [i2,s1,s2,s4];rfl
 all_goals omega
variable {C:Cfg} {tT:TypeId} {tx:Nat×Nat} {g m v o io ir ip:Nat} {K:MQ→qaa} {n0:Nat}
theorem c_interp_Run1 (hF:C.fmt=qb6) (hC:rngC C) (p:Proc) (hG:∀ x∈p.body,goS x) (Y:MHs C tT tx g m v o io ir ip K n0) (s:MS) (hI:Cw.Inv 0 0 s) {a b:Nat} (ha:∀ q,(K q)[a]?=some (.cells [.ptr m 0])) (hb0:∀ q,(K q)[b]?=some (.cells p.c)) :
  ACalls Tryz.prog 92 [.ptr a 0,.ptr b 0] (K s.q) fun r h'=>r=endU (qdq C p.body s).1∧h'=K (qdq C p.body s).2.q:=by
 refine qa0 Tryz.func92 Tryz.ntmps92 rfl (by kernel_rfl) rfl fun E hN hh hu hb hb' hua=>?_;simp -dsimp [go_sem,hN,ha,hb0];refine qam (qd2 hF hC p.body hG Y s hI) ?_;rintro r h' ⟨rfl,rfl⟩;rcases qdq C p.body s with ⟨z | ⟨⟩,s1⟩<;>simp -dsimp [go_sem,hN,endU]<;>exact ⟨_,.refl _,K s1.q,by simp [go_sem],by first | exact hwk.refl _ | exact hwk.app0 _ | simp [hwk.refl],by simp [Y.len],Y.und' _,by first | rfl | simp,by first | rfl | simp [MS.q]⟩
abbrev effZ:AObj:=.cells [I 0,I 0,.nils,.nils,.nils,.nils,S em,I 0]
def endC:Except Stop Unit→List AV
 | .ok _=>zs
 | .error z=>[I z.status,I z.code,.slice [],S z.miss]
def isE:Except Stop Unit→Bool
 | .ok _=>false
 | .error _=>true
@[simp] theorem norm_endC (H:qaa) (x:Except Stop Unit):qa4 H (endC x)=endC x:=by cases x<;>rfl
@[simp] theorem under_endC (n:Nat) (x:Except Stop Unit):qav n (endC x)=true:=by cases x<;>rfl
theorem c_run_of {a:AV} {f:FuncId} {caps:List AV} {h h1:qaa} {x:Except Stop Unit} (hl:h1.length=h.length) (hu:hUnder h.length h1=true) (hc:∀ H,qa4 H caps=caps) (hg:ACalls Tryz.prog f caps (h++[.cells [I 0,I 0,.nils,S em],.cells [Bo false]]) fun r h'=>r=endU x∧h'=h1++[.cells [I 0,I 0,.nils,S em],.cells [Bo false]]) :
  ACalls Tryz.prog 91 [a,.fn (.func f) [] caps] h fun r h'=>r=.ret (.tuple [.agg (endC x),Bo (isE x)])∧h'=h1:=by
 refine c_interp_run a (g:=f) (first:=[]) (caps:=caps) (by rw [List.nil_append,hc];exact hg) ?_ ?_
 ·
  rintro r h' ⟨rfl,rfl⟩ _;have e1:(h1++[AObj.cells [I 0,I 0,.nils,S em],AObj.cells [Bo false]])[h.length]?=some (.cells [I 0,I 0,.nils,S em]):=by rw [← hl];simp
  have e2:(h1++[AObj.cells [I 0,I 0,.nils,S em],AObj.cells [Bo false]])[h.length+1]?=some (.cells [Bo false]):=by rw [← hl];simp
  have e3:(h1++[AObj.cells [I 0,I 0,.nils,S em],AObj.cells [Bo false]]).take h.length=h1:=by rw [← hl];simp
  refine ⟨⟨_,e1,rfl⟩,⟨_,e2⟩,by rw [e3];exact hu,?_⟩;rw [e3];rcases x with z | u
  · exact ⟨rfl,rfl,by simp [qav,AV.under],rfl,rfl⟩
  · exact ⟨rfl,rfl⟩
 ·
  rintro h' st ⟨h1,_⟩ H;rcases x with z | u
  ·
   simp only [endU,stopAV,AEnd.panic.injEq,AV.iface.injEq,AV.agg.injEq,true_and] at h1;subst h1;rfl
  · cases h1
theorem c_machine_finish {h:qaa} (x:Except Stop Unit) (s:MS) (hm:h[m]?=some (.cells (mC C v o io ir ip s.q))) (hio:h[io]?=some (.arr 71 3 (s.out.map V.c))) (hir:h[ir]?=some (.arr 9 1 (s.reads.map qbf))) (hip:h[ip]?=some (.arr 9 1 (s.puts.map qbf)))
  (ho:h[o]?=some (.map (kAV vAV s.own))) (hl:s.puts.length+1≤68719476736) :
  ACalls Tryz.prog 90 [.ptr m 0,.agg (endC x),Bo (isE x)] h fun r h'=>r=.ret (.agg (doneS (x,s)).c)∧h'=h:=by
 rcases x with z | u
 · exact c_machine_finish_stop s.q hm hir hip rfl rfl z
 · exact c_machine_finish_ok s.q hm hio hir hip ho rfl rfl rfl hl
theorem c_interp_Run (p:Proc) (args:List V) (st:List Pr) (ft:Foot) (h:qaa) (hg:h[g]?=some (tabO tT tx)) (hI:RunIn qb6 p args st) :
  ACalls Tryz.prog 51 [.agg p.c,.slice (args.map V.c),.slice (st.map Pr.c),.agg ft.c] h fun r h'=>r=.ret (.agg (runS qb6 p args st ft).c)∧h'=h:=by
 refine qa0 Tryz.func51 Tryz.ntmps51 rfl (by kernel_rfl) rfl fun E hN hh hu hb hb' hua=>?_;simp [go_sem] at hb;simp -dsimp [go_sem,hN];refine qab (c_cost_Check p) ?_;simp -dsimp [go_sem,hN];refine qag (c_types_Args p args) (by simp) ?_;simp -dsimp [go_sem,hN];refine qag (c_state_Valid st) (by simp) ?_;simp -dsimp [go_sem,hN];refine qag (c_interp_valid ft.all ft.reads ft.writes) (by simp) ?_;simp -dsimp [go_sem,hN]
 repeat refine ⟨by grind,?_⟩
 refine cnd ?_ ?_<;>intro h0<;>simp at h0
 ·
  have hno:¬ runOk p args st ft:=by rw [qb2];grind
  rw [qdu hno];simp -dsimp [go_sem,hN];refine qam (c_interp_wrong _) ?_;rintro r h' ⟨rfl,rfl⟩;simp -dsimp [go_sem,hN];exact ⟨_,.refl _,h,by simp [go_sem],hwk.app0 _,Nat.le_refl _,hu,rfl,rfl⟩
 have hok:runOk p args st ft:=by rw [qb2];grind
 have hok':=(qb2 _ _ _ _).1 hok;have hlen:=(argsErr_ok hok'.2.1).1;rw [qdt hok];simp -dsimp [go_sem,hN];refine qam (c_interp_newMachine st ft _) ?_;rintro r h' ⟨rfl,rfl⟩;simp -dsimp [go_sem,hN];have Y:=MH_run (tb:=tabO tT tx) (tV:=71) (tS:=9) st ft qb6 h [.cells p.c,.cells ft.c,effZ] [.cells [.ptr (h.length+6) 0]] hg hu 3 1 rfl rfl (by simp [hUnder,AObj.under,AV.under,qav,Proc.c,Foot.c]) (by simp [hUnder,AObj.under,AV.under,qav]);simp only [List.cons_append,List.nil_append,Nat.reduceAdd] at Y;refine qbh (α:=List (qac×V)) p.params.length (fun n vs=>setArgs (p.params.drop n) (args.drop n) vs=setArgs p.params args []) (fun n vs=>⟨[(1,.slice (args.map V.c)),(4,.ptr h.length 0),(8,.ptr (h.length+2) 0),(9,.ptr (h.length+7) 0),(36,.slice (p.params.map Param.c)),(37,I p.params.length),(38,I n)],h++[.cells p.c,.cells ft.c,effZ,.cells ft.c,.map (kAV vAV vs),.map (kAV vAV []),.cells (mC (cfgR qb6 st ft) (h.length+4) (h.length+5) (h.length+8) (h.length+9) (h.length+10) ⟨vs,[],[],[],[],0,0,0,0⟩),.cells [.ptr (h.length+6) 0],.arr 71 3 [],.uarr 9 1 [],.uarr 9 1 []]⟩) [] (by simp) ?_ ?_
 ·
  refine (nilc_wk E _ (p:=h.length+6) (j:=8) (t:=71) (sz:=3) (xs:=[.slice (st.map Pr.c),Bo ft.all,.slice (ft.reads.map qbf),.slice (ft.writes.map qbf),.mapr (h.length+4),.mapr (h.length+5),I 0,I 0,.nils,.nils,.nils,.nils,S em,I 0]) (by simp) rfl).trans ?_;simp;refine (nilcu_wk E _ (p:=h.length+6) (j:=9) (t:=9) (sz:=1) (xs:=[.slice (st.map Pr.c),Bo ft.all,.slice (ft.reads.map qbf),.slice (ft.writes.map qbf),.mapr (h.length+4),.mapr (h.length+5),I 0,I 0,.own (h.length+8) 0,.nils,.nils,.nils,S em,I 0]) (by simp) rfl).trans ?_;simp;refine (nilcu_wk E _ (p:=h.length+6) (j:=10) (t:=9) (sz:=1) (xs:=[.slice (st.map Pr.c),Bo ft.all,.slice (ft.reads.map qbf),.slice (ft.writes.map qbf),.mapr (h.length+4),.mapr (h.length+5),I 0,I 0,.own (h.length+8) 0,.own (h.length+9) 0,.nils,.nils,S em,I 0]) (by simp) rfl).trans ?_;simp [kAV,qc6];exact wkA
 intro n vs hn hI2;have hw:=qa6 hn hb.1.2.1.1;simp -dsimp [go_sem,hN];refine cnd ?_ ?_<;>intro hc<;>simp at hc
 ·
  have hc2:n<args.length:=by omega
  simp -dsimp [go_sem,hN,hc];refine qan 10 mixed (by kernel_rfl) (by kernel_rfl) ?_;simp -dsimp [go_sem,hN,hc,hc2,hw];refine ⟨qda vs p.params[n].name args[n],?_,Wk.mk (by simp [hh]) (by simp [go_sem]) (by simp [hu,qar hu,go_sem,kAV_u2]) (by simp [go_sem])⟩;rw [qah hc,qah hc2,setArgs] at hI2;exact hI2
 ·
  rw [List.drop_eq_nil_of_le hc,List.drop_eq_nil_of_le (by omega),setArgs_nil] at hI2;subst hI2;obtain ⟨x,s1,hB⟩:∃ x s1,qdq (cfgR qb6 st ft) p.body (ms0 p args)=(x,s1):=⟨_,_,rfl⟩
  have hd:=(dl_blk (C:=cfgR qb6 st ft) (fun q hq=>hI.st q hq) p.body 1 (ms0 p args) (cost_okL hok'.1) (cost_goS hok'.1 hI.body) (inv0 hI)).pu;rw [hB] at hd;have hnl:=cost_nL hok'.1;have hlim:=cost_lim hok'.1;simp only [List.length_nil,Nat.zero_add] at hd;have Y2:=Y.ext [.cells [I 0,I 0,.nils,S em],.cells [Bo false]] (by simp [hUnder,AObj.under,AV.under,qav]);have hr:=c_interp_Run1 (C:=cfgR qb6 st ft) rfl (fun q hq=>hI.st q hq) p (cost_goS hok'.1 hI.body) Y2 (ms0 p args) (inv0 hI) (a:=h.length+7) (b:=h.length) (by intro q;simp) (by intro q;simp);rw [hB] at hr;have hrun:=c_run_of (a:=.ptr (h.length+6) 0) (by simp) (by simp [qax,hu,qa1,qar hu,go_sem,kAV_u2,MS.q]) (fun H=>by simp [qa4,AV.norm]) hr;simp -dsimp [go_sem,hN];refine awp_drawK 6 3 [0] mixed (by kernel_rfl) ?_;simp -dsimp [go_sem,hN];refine tkcall_ret hrun ?_;simp -dsimp [go_sem,hN];obtain ⟨Hd,hHd⟩:∃ Hd:AObj→AObj→qaa,∀ u1 u2,Hd u1 u2=h++[.cells p.c,.cells ft.c,effZ,.cells ft.c,.map (kAV vAV s1.vars),.map (kAV vAV s1.own),.cells (mC (cfgR qb6 st ft) (h.length+4) (h.length+5) (h.length+8) (h.length+9) (h.length+10) s1.q),.cells [.ptr (h.length+6) 0],.arr 71 3 (s1.out.map V.c),u1,u2]:=⟨fun u1 u2=>_,fun _ _=>rfl⟩
  have hw2:∀ E,Wk E ⟨[],Hd (.uarr 9 1 (s1.reads.map qbf)) (.uarr 9 1 (s1.puts.map qbf))⟩ ⟨[],Hd (.arr 9 1 (s1.reads.map qbf)) (.arr 9 1 (s1.puts.map qbf))⟩:=fun E=>by
   have d1:=qbz E ⟨[],Hd (.uarr 9 1 (s1.reads.map qbf)) (.uarr 9 1 (s1.puts.map qbf))⟩ (i:=h.length+9) (t:=9) (sz:=1) (rows:=s1.reads.map qbf) (by simp [hHd]);have d2:=qbz E ⟨[],Hd (.arr 9 1 (s1.reads.map qbf)) (.uarr 9 1 (s1.puts.map qbf))⟩ (i:=h.length+10) (t:=9) (sz:=1) (rows:=s1.puts.map qbf) (by simp [hHd]);refine d1.trans ?_;have e1:(Hd (.uarr 9 1 (s1.reads.map qbf)) (.uarr 9 1 (s1.puts.map qbf))).set (h.length+9) (.arr 9 1 (s1.reads.map qbf))=Hd (.arr 9 1 (s1.reads.map qbf)) (.uarr 9 1 (s1.puts.map qbf)):=by simp [hHd]
   have e2:(Hd (.arr 9 1 (s1.reads.map qbf)) (.uarr 9 1 (s1.puts.map qbf))).set (h.length+10) (.arr 9 1 (s1.puts.map qbf))=Hd (.arr 9 1 (s1.reads.map qbf)) (.arr 9 1 (s1.puts.map qbf)):=by simp [hHd]
   rw [e2] at d2;rw [e1];exact d2
  have hfin:=c_machine_finish (C:=cfgR qb6 st ft) (m:=h.length+6) (v:=h.length+4) (o:=h.length+5) (io:=h.length+8) (ir:=h.length+9) (ip:=h.length+10) (h:=Hd (.arr 9 1 (s1.reads.map qbf)) (.arr 9 1 (s1.puts.map qbf))) x s1 (by simp [hHd]) (by simp [hHd]) (by simp [hHd]) (by simp [hHd]) (by simp [hHd]) (by omega);have hfin2:=acalls_wk hw2 hfin;rw [hHd,hHd] at hfin2;refine qam hfin2 ?_;rintro r h' ⟨rfl,rfl⟩;simp -dsimp [go_sem,hN];rw [hB];exact ⟨_,.refl _,h,by simp [go_sem],hwk.app0 _,Nat.le_refl _,hu,rfl,rfl⟩
end Go.Proofs.YtbimdamecieomaaGreatDoor

set_option maxRecDepth 4000
set_option maxHeartbeats 2000000
namespace Go.Proofs.YtbimdamecieomaaGreatDoor
open Go Go.Abs Go.Cw
theorem c_serial_find1 (x:Proc) (h:qaa) (i:Nat) (t:Txn) (hi:h[i]?=some (.cells t.c)):ACalls Tryz.prog 83 [.agg x.c,.ptr i 0] h fun r h'=>r=.ret (Bo (decide (x.name=t.proc)))∧h'=h:=by
 refine qa0 Tryz.func83 Tryz.ntmps83 rfl (by kernel_rfl) rfl fun E hN hh hu hb hb' hua=>?_;have hi':i<h.length:=(List.getElem?_eq_some_iff.1 hi).1;have a1:∀ l,(h++l)[i]?=some (.cells t.c):=fun l=>by rw [List.getElem?_append_left hi'];exact hi
 simp -dsimp [go_sem,hN,a1,hu,Txn.c];exact ⟨_,.refl _,h,by simp [go_sem],by simp [go_sem],by simp,by simp [hu,go_sem],rfl,rfl⟩
theorem c_IndexFunc_Proc (l:List Proc) (f:FuncId) (caps:List AV) (q:Proc→Bool) (h:qaa) (hcn:qa4 h caps=caps) (hp:∀ x:Proc,ACalls Tryz.prog f ([.agg x.c]++caps) h fun r h'=>r=.ret (Bo (q x))∧h'=h) :
  ACalls Tryz.prog 82 [.slice (l.map Proc.c),.fn (.func f) [] caps] h fun r h'=>r=.ret (I (qcp q l))∧h'=h:=by
 refine qa0 Tryz.func82 Tryz.ntmps82 rfl (by kernel_rfl) rfl fun E hN hh hu hb hb' hua=>?_;simp [go_sem] at hb;simp -dsimp [go_sem,hN];refine qaj l.length (fun n=>qbj q n (l.drop n)=qcp q l) (fun n=>⟨[(0,.slice (l.map Proc.c)),(1,.fn (.func f) [] caps),(7,I l.length),(8,I n)],h⟩) (by simp [qcp]) (Wk.mk (by simp [hh]) (by simp) (by simp [hu]) (by simp [go_sem];simpa [go_sem] using hua)) ?_;intro n hn hI;have hw:=qa6 hn hb.1;simp -dsimp [go_sem,hN];refine cnd ?_ ?_<;>intro hc<;>simp at hc
 ·
  rw [qah hc,qbj] at hI;simp -dsimp [go_sem,hN,hc,hcn];refine qam (hp l[n]) ?_;rintro r h' ⟨rfl,rfl⟩;simp -dsimp [go_sem,hN];refine cnd ?_ ?_<;>intro hg<;>try simp at hg
  ·
   simp -dsimp [go_sem,hN];rw [if_pos hg] at hI;rw [hI];exact ⟨_,.refl _,h',by simp [go_sem],by simp [go_sem],by simp,by simp [hu,go_sem],rfl,rfl⟩
  ·
   simp -dsimp [go_sem,hN,hw];exact ⟨hc,by simpa [hg] using hI,Wk.mk (by simp [hh]) (by simp) (by simp [hu]) (by simp [go_sem];simpa [go_sem] using hua)⟩
 ·
  rw [List.drop_eq_nil_of_le (by omega),qbj] at hI;simp -dsimp [go_sem,hN,← hI];exact ⟨_,.refl _,h,by simp [go_sem],by simp [go_sem],by simp,by simp [hu,go_sem],rfl,rfl⟩
theorem idxFrom_find {α:Type} (q:α→Bool):∀ (l:List α) (n:Nat),(qbj q n l = -1∧l.find? q=none)∨∃ (m:Nat) (hm:m<l.length),qbj q n l=((n+m:Nat):Int)∧l.find? q=some l[m]
 | [],n=>.inl ⟨by rw [qbj],rfl⟩
 | x::l,n=>by
  rw [qbj];by_cases h:q x=true
  ·
   right;exact ⟨0,by simp,by simp [h],by simp [h]⟩
  ·
   rw [if_neg h];rcases idxFrom_find q l (n+1) with ⟨h1,h2⟩ | ⟨m,hm,h1,h2⟩
   · exact .inl ⟨h1,by simp [h,h2]⟩
   ·
    refine .inr ⟨m+1,by simp;omega,?_,?_⟩
    · rw [h1];congr 1;omega
    · simp [h,h2]
theorem idxOf_find {α:Type} (q:α→Bool) (l:List α):(qcp q l = -1∧l.find? q=none)∨∃ (m:Nat) (hm:m<l.length),qcp q l=(m:Int)∧l.find? q=some l[m]:=by
 have:=idxFrom_find q l 0;simpa [qcp] using this
def noProc:Proc:=⟨em,[],[]⟩
theorem c_serial_find (procs:List Proc) (t:Txn):APure Tryz.prog 50 [.slice (procs.map Proc.c),.agg t.c] (.tuple [.agg ((findP procs t).getD noProc).c,Bo (findP procs t).isSome]):=by
 refine qaz Tryz.func50 Tryz.ntmps50 rfl (by kernel_rfl) rfl rfl fun E h hN hh hu hb=>?_;simp [go_sem] at hb;obtain ⟨R,hR⟩:∃ R,findP procs t=R:=⟨_,rfl⟩
 rw [hR];unfold findP findN at hR;simp -dsimp [go_sem,hN];refine qam (c_IndexFunc_Proc procs _ _ (fun x=>decide (x.name=t.proc)) _ (by simp [qa4,AV.norm]) (fun x=>c_serial_find1 x _ _ t (by simp [Txn.c]))) ?_;rintro r h' ⟨rfl,rfl⟩;rcases idxOf_find (fun x:Proc=>decide (x.name=t.proc)) procs with ⟨h1,h2⟩ | ⟨m,hm,h1,h2⟩
 ·
  rw [h2] at hR;simp only at hR;subst hR;rw [h1];simp -dsimp [go_sem,hN];refine qan 9 mixed (by kernel_rfl) (by kernel_rfl) ?_;simp -dsimp [go_sem,hN];refine qdk ?_;simp -dsimp [go_sem,hN,noProc]
 ·
  rw [h2] at hR;simp only at hR;rw [h1];simp -dsimp [go_sem,hN];refine qan 9 mixed (by kernel_rfl) (by kernel_rfl) ?_;simp -dsimp [go_sem,hN,hm,Txn.c];refine qag (c_types_Args procs[m] t.args) (by simp) ?_;simp -dsimp [go_sem,hN];refine cnd ?_ ?_<;>intro h3<;>simp at h3
  ·
   rw [if_neg (by omega)] at hR;subst hR;simp -dsimp [go_sem,hN,noProc]
  ·
   rw [if_pos (by omega)] at hR;subst hR;simp -dsimp [go_sem,hN,hm]
variable {tT:TypeId} {tx:Nat×Nat} {g:Nat}
theorem c_serial_One (procs:List Proc) (s:List Pr) (t:Txn) (h:qaa) (hg:h[g]?=some (tabO tT tx)) (hI:∀ p,findP procs t=some p→RunIn qb6 p t.args s) (hL:s.length≤60000000000) :
  ACalls Tryz.prog 24 [.slice (procs.map Proc.c),.slice (s.map Pr.c),.agg t.c] h fun r h'=>r=.ret (.tuple [.slice ((oneS qb6 procs s t).1.map Pr.c),.agg (oneS qb6 procs s t).2.c])∧h'=h:=by
 refine qa0 Tryz.func24 Tryz.ntmps24 rfl (by kernel_rfl) rfl fun E hN hh hu hb hb' hua=>?_;have hgl:g<h.length:=(List.getElem?_eq_some_iff.1 hg).1;have hg':∀ l:qaa,(h++l)[g]?=some (tabO tT tx):=fun l=>by rw [List.getElem?_append_left hgl];exact hg
 simp [go_sem] at hb;obtain ⟨R,hR⟩:∃ R,oneS qb6 procs s t=R:=⟨_,rfl⟩
 rw [hR];unfold oneS at hR;simp -dsimp [go_sem,hN,Txn.c];refine qab (c_serial_find procs t) ?_;rcases hF:findP procs t with _ | p
 ·
  rw [hF] at hR;simp only at hR;subst hR;simp -dsimp [go_sem,hN,noProc];refine qab (c_Clone_P s) ?_;simp -dsimp [go_sem,hN,wrongE];exact ⟨_,.refl _,h,by simp [go_sem],hwk.app0 _,Nat.le_refl _,hu,rfl,rfl⟩
 ·
  rw [hF] at hR;simp only at hR;have hRun:=hI p hF;have hc1:=fun h=>run_commit_ok (fmt:=qb6) (p:=p) (args:=t.args) (s:=s) (ft:=t.ft) h;have hc2:=fun h=>(run_commit (ft:=t.ft) hRun h).2.2;have hlw:=run_lenW (ft:=t.ft) hRun;have hcall:=fun H hH=>c_interp_Run (g:=g) (tT:=tT) (tx:=tx) p t.args s t.ft H hH hRun;obtain ⟨e,he⟩:∃ e,runS qb6 p t.args s t.ft=e:=⟨_,rfl⟩
  rw [he] at hR hc1 hc2 hlw;simp only [he] at hcall;simp -dsimp [go_sem,hN];refine qam (hcall _ (hg' _)) ?_;rintro r h' ⟨rfl,rfl⟩;simp -dsimp [go_sem,hN];refine cnd ?_ ?_<;>intro h0<;>simp at h0
  ·
   rw [if_pos h0] at hR;subst hR;have hA:=c_state_Apply s e.writes (by omega);rw [hc1 h0,hc2 h0] at hA;simp only [Bool.and_self,if_true] at hA;simp -dsimp [go_sem,hN];refine qab hA ?_;simp -dsimp [go_sem,hN];refine qan 3 mixed (by kernel_rfl) (by kernel_rfl) ?_;simp -dsimp [go_sem,hN];exact ⟨_,.refl _,h,by simp [go_sem],hwk.app0 _,Nat.le_refl _,hu,rfl,rfl⟩
  ·
   rw [if_neg h0] at hR;subst hR;simp -dsimp [go_sem,hN];refine qan 4 mixed (by kernel_rfl) (by kernel_rfl) ?_;simp -dsimp [go_sem,hN];refine tdcall (c_Clone_P s) (by simp) ?_;simp -dsimp [go_sem,hN];exact ⟨_,.refl _,h,by simp [go_sem],hwk.app0 _,Nat.le_refl _,hu,rfl,rfl⟩
end Go.Proofs.YtbimdamecieomaaGreatDoor

set_option maxRecDepth 4000
set_option maxHeartbeats 2000000
namespace Go.Proofs.YtbimdamecieomaaGreatDoor
open Go Go.Abs Go.Cw
theorem at_tabN {tT:TypeId} {tx:Nat×Nat} {g:Nat} {f:FuncId} {args:List AV} {r:AV} {h:qaa} (H:∀ h,h[g]?=some (tabO tT tx)→ACalls Tryz.prog f args h fun e h'=>e=.ret r∧h'=h) (hg:h[g]?=some (tabO tT tx)):APureAt Tryz.prog f args r h:=fun h' hs=>H h' (hs g _ rfl hg)
variable {tT:TypeId} {tx:Nat×Nat} {g:Nat}
abbrev lsH (h:qaa) (procs:List Proc) (l:List Txn) (T:LT) (s:List Pr) (Es:List Eff) (O:List Int):qaa :=
 h++[.cells [.slice (procs.map Proc.c)],.cells [.slice (l.map Txn.c)],.cells T.c,.none,.cells [.slice (s.map Pr.c)],.uarr 63 8 (Es.map Eff.c),.cells [.own (h.length+5) Es.length],.cells [.own (h.length+8) O.length],.arr 3 1 (O.map qb1)]
theorem c_ls_Round1 (procs:List Proc) (s:List Pr) (l:List Txn) (j:Nat) (T:LT) (Es:List Eff) (O:List Int) (h:qaa) (hg:h[g]?=some (tabO tT tx)) (hj:j<l.length) (hje:j<Es.length)
  (hI:∀ p,findP procs l[j]=some p→RunIn qb6 p l[j].args s) (hL:s.length≤60000000000) (hO:O.length<68719476736) (hv:validT T=true) (hix:0≤qcp (isT (j:Int)) T.glob) (hl:T.glob.length<68719476736) (hq:T.qs.length<68719476736) (hr:∀ x∈T.qs,x.reqs.length<68719476736) :
  ACalls Tryz.prog 23 [I j,.ptr h.length 0,.ptr (h.length+4) 0,.ptr (h.length+1) 0,.ptr (h.length+6) 0,.ptr (h.length+2) 0,.ptr (h.length+7) 0] (lsH h procs l T s Es O) fun r h'=>r=.ret (.tuple [])∧h'=lsH h procs l (relT j T) (oneS qb6 procs s l[j]).1 (Es.set j (oneS qb6 procs s l[j]).2) (O++[(j:Int)]):=by
 refine qa0 Tryz.func23 Tryz.ntmps23 rfl (by kernel_rfl) rfl fun E hN hh hu hb hb' hua=>?_;have hgl:g<h.length:=(List.getElem?_eq_some_iff.1 hg).1;have hg':∀ l:qaa,(h++l)[g]?=some (tabO tT tx):=fun l=>by rw [List.getElem?_append_left hgl];exact hg
 have hone:=fun H hH=>c_serial_One (g:=g) (tT:=tT) (tx:=tx) procs s l[j] H hH hI hL;have hrel:=c_lt_Release T j hv hix hl hq hr;obtain ⟨R,hR⟩:∃ R,oneS qb6 procs s l[j]=R:=⟨_,rfl⟩
 simp only [hR] at hone ⊢;obtain ⟨gl,qs⟩:=T;have hes:(Es.map Eff.c).set j [I R.2.status,I R.2.code,.slice (R.2.out.map V.c),.slice (R.2.reads.map qbf),.slice (R.2.puts.map qbf),.slice (R.2.writes.map Pr.c),S R.2.miss,I R.2.steps]=(Es.set j R.2).map Eff.c:=by rw [List.map_set];rfl
 simp -dsimp [go_sem,hN,LT.c];refine awp_drawG 13 mixed (by kernel_rfl) ?_;simp -dsimp [go_sem,hN,hj,Txn.c];refine tdcall_at (fun _=>at_tabN (fun h hg=>hone h hg) (hg' _)) (by simp) ?_;simp -dsimp [go_sem,hN,hj,hje,Txn.c,Eff.c,LT.c];refine ⟨by simp [sepD,List.zipIdx];kernel_rfl,?_⟩;refine qab hrel ?_;simp -dsimp [go_sem,hN,LT.c,hO];have hu0:hUnder (h.length+9) h=true:=by
  have:=hu;simp [lsH,go_sem,hUnder,qax] at this;exact this.1
 refine ⟨by omega,_,.refl _,_,by simp [go_sem],?_,by simp,?_,rfl,rfl⟩
 ·
  simp only [lsH,LT.c,List.length_append,List.length_set,List.length_singleton,List.map_append,← hes];exact hwk.refl _
 · simp [lsH,LT.c,go_sem,hu0,hUnder,qax]
end Go.Proofs.YtbimdamecieomaaGreatDoor

set_option maxRecDepth 8000
namespace Go.Proofs.YtbimdamecieomaaGreatDoor
open Go Go.Abs Go.Shelf Go.Lib
def renS:Ren:=⟨fun
 | 125=>143 | 128=>184 | 129=>185 | 189=>104 | 215=>223 | 216=>181 | 257=>142 | 294=>175 | 295=>176
 | 296=>177 | 297=>178 | 298=>179 | 299=>180 | 300=>182 | 301=>183 | 328=>218
 | 329=>219 | 330=>220 | 331=>221 | 332=>222 | 343=>270 | x=>x,
 fun | 0=>0 | 3=>3 | 4=>4 | 5=>5 | 9=>9 | 28=>27 | 46=>167 | 51=>218 | 53=>220 | 131=>123 | 182=>210 | 183=>211 | 218=>256 | 222=>260 | 228=>294 | 229=>295 | x=>x,fun x=>x⟩
theorem laysS:Lays.n189 Tryz.prog renS:=by
 constructor<;>first | exact fun _=>by kernel_rfl | kernel_rfl
def renK:Ren:=⟨fun | 20=>105 | x=>x,fun | 0=>0 | 3=>3 | 4=>4 | 22=>27 | x=>x,fun x=>x⟩
theorem laysK:Lays2.n20 Tryz.prog renK:=by
 constructor<;>first | exact fun _=>by kernel_rfl | kernel_rfl
end Go.Proofs.YtbimdamecieomaaGreatDoor

set_option maxRecDepth 4000
set_option maxHeartbeats 2000000
namespace Go.Proofs.YtbimdamecieomaaGreatDoor
open Go Go.Abs Go.Cw
abbrev sortI (l:List Int):List Int:=l.mergeSort fun x y=>decide (x≤y)
theorem c_sortI {h:qaa} {i:Nat} {l:List Int} (hi:h[i]?=some (.uarr 3 1 (l.map qb1))) :
  ACalls Tryz.prog 104 [.own i l.length] h fun r h'=>r=.ret (.tuple [])∧h'=h.set i (.uarr 3 1 ((sortI l).map qb1)) :=
 acalls_sort (ρ:=renS) laysS ⟨Tryz.f104,Tryz.func104,by kernel_rfl,by kernel_rfl⟩ hi
theorem c_compactI {h:qaa} {i n:Nat} {l:List Int} (hn:n=l.length) (hi:h[i]?=some (.uarr 3 1 (l.map qb1))) :
  ACalls Tryz.prog 105 [.own i n] h fun r h'=>r=.ret (.slice ((Lib.compact l).map qb1))∧h'=h.set i (.arr 3 1 ((Lib.compact l++List.replicate (l.length - (Lib.compact l).length) 0).map qb1)):=by
 subst hn;exact acalls_compact (ρ:=renK) laysK ⟨Tryz.f105,Tryz.func105,by kernel_rfl,by kernel_rfl⟩ hi
def waitsC (T:LT) (t:Int):List Int:=Lib.compact (sortI (qdr T t))
theorem c_lt_waits (T:LT) (t:Int) (hl:T.glob.length+reqN T.qs<68719476736):APure Tryz.prog 54 [.agg T.c,I t] (.slice ((waitsC T t).map qb1)):=by
 refine qcz Tryz.func54 rfl (by kernel_rfl) (by simp [Tryz.ntmps54]) rfl ?_;intro E h hN hh hu hb;rw [Tryz.ntmps54] at hN;simp [go_sem,LT.c] at hb;refine qau (qcq ?_);simp [go_sem,hN,LT.c];refine qau (qb5 [_,_,_] _ ?_);simp [go_sem,hN];intro c a w s k;refine wp_callR s k rfl rfl (by omega) rfl (by simp [go_sem]) (x:=.own (h.length+1) (befQ t T.glob).length) (h2:=h++[.cells [.slice (T.glob.map LReq.c),.slice (T.qs.map LQ.c)],.uarr 3 1 ((befQ t T.glob).map qb1)]) ?_ ?_
 ·
  have hc:=acalls_nilu 3 1 (h:=h++[.cells [.slice (T.glob.map LReq.c),.slice (T.qs.map LQ.c)]]) (c_lt_before (h++[AObj.cells [.slice (T.glob.map LReq.c),.slice (T.qs.map LQ.c)]]).length [] T.glob t (H:=h++[.cells [.slice (T.glob.map LReq.c),.slice (T.qs.map LQ.c)]]++[.uarr 3 1 []]) (by simp) (by simp;omega));simpa [go_sem] using hc
 intro c' a' w' s' k';refine qbd _ [_,_,_,_] _ rfl ?_ c' a' w' s' k';simp [go_sem,hN];apply qai;simp -dsimp [go_sem,hN];obtain ⟨F,hF⟩:∃ F:Nat→List Int,F=fun n=>befQ t T.glob++(T.qs.take n).flatMap fun q=>befQ t q.reqs:=⟨_,rfl⟩
 have hF0:befQ t T.glob=F 0:=by rw [hF];simp
 have hF1:∀ n (hn:n<T.qs.length),F n++befQ t T.qs[n].reqs=F (n+1):=fun n hn=>by
  rw [hF];simp only [List.take_succ_eq_append_getElem hn,List.flatMap_append,List.flatMap_cons,List.flatMap_nil,List.append_nil,List.append_assoc]
 have hFl:∀ n,(F n).length≤T.glob.length+reqN (T.qs.take n):=fun n=>by
  rw [hF];have h1:=befQ_len t T.glob;have h2:=flat_len t (T.qs.take n);simp only [List.length_append];omega
 have hFe:F T.qs.length=qdr T t:=by rw [hF];simp [qdr]
 have hs3:∀ X Y Z W:AObj,(h++[X,Y,Z]).set (h.length+1) W=h++[X,W,Z]:=fun X Y Z W=>by simp
 have hs2:∀ X Y W:AObj,(h++[X,Y]).set (h.length+1) W=h++[X,W]:=fun X Y W=>by simp
 rw [hF0];clear s' k' s k;refine qaj T.qs.length (fun _=>True) (fun n=>⟨[(1,I t),(5,.own (h.length+1) (F n).length),(13,.slice (T.qs.map LQ.c)),(14,I T.qs.length),(15,I n)],h++[.cells [.slice (T.glob.map LReq.c),.slice (T.qs.map LQ.c)],.uarr 3 1 ((F n).map qb1)]⟩) trivial (Wk.slots (by simp [wkS,go_sem])) ?_;intro n hn _;have hw:=qa6 hn hb.2.1;simp -dsimp [go_sem,hN];refine cnd ?_ ?_<;>intro hc<;>simp at hc
 ·
  simp -dsimp [go_sem,hN,hc,LQ.c];have h1:=hFl n;have h2:=reqN_take hc;refine qam (c_lt_before (h.length+1) (F n) T.qs[n].reqs t (by simp) (by omega)) ?_;rintro r h' ⟨rfl,rfl⟩;rw [hF1 n hc];simp -dsimp [go_sem,hN,hw,hs3];exact ⟨hc,wkA⟩
 ·
  have hne:n=T.qs.length:=by omega
  subst hne;simp -dsimp [go_sem,hN];rw [hFe];refine qam (c_sortI (l:=qdr T t) (h:=h++[.cells [.slice (T.glob.map LReq.c),.slice (T.qs.map LQ.c)],.uarr 3 1 ((qdr T t).map qb1)]) (i:=h.length+1) (by simp)) ?_;rintro r h' ⟨rfl,rfl⟩;simp -dsimp [go_sem,hN,hs2];refine qam (c_compactI (n:=(qdr T t).length) (l:=sortI (qdr T t)) (h:=h++[.cells [.slice (T.glob.map LReq.c),.slice (T.qs.map LQ.c)],.uarr 3 1 ((sortI (qdr T t)).map qb1)]) (i:=h.length+1) (by simp) (by simp)) ?_;rintro r h' ⟨rfl,rfl⟩;simp -dsimp [go_sem,hN,hs2];rfl
end Go.Proofs.YtbimdamecieomaaGreatDoor

set_option maxRecDepth 4000
set_option maxHeartbeats 2000000
namespace Go.Proofs.YtbimdamecieomaaGreatDoor
open Go Go.Abs Go.Cw
theorem compact_nil {l:List Int}:(Lib.compact l).length=0↔l=[]:=by
 constructor
 ·
  intro h;cases l with
  | nil=>rfl
  | cons x l =>
   exfalso;have h0:(0:Nat)∈(List.range (x::l).length).filter (Lib.keeps (x::l).toArray):=List.mem_filter.2 ⟨List.mem_range.2 (by simp),Lib.keeps_lt_one _ 0 (by omega)⟩;have h1:=List.length_pos_of_mem h0;unfold Lib.compact Lib.compactUpTo at h;rw [List.length_map] at h;omega
 · rintro rfl;rfl
theorem waitsC_nil (T:LT) (t:Int):(waitsC T t).length=0↔qdr T t=[]:=by
 unfold waitsC;rw [compact_nil];constructor
 ·
  intro h;have:=congrArg List.length h;rw [List.length_mergeSort] at this;exact List.eq_nil_of_length_eq_zero this
 · intro h;rw [h];simp [sortI]
theorem c_lt_Ready (T:LT) (hl:T.glob.length+reqN T.qs<68719476736) (hv:validT T=true):APure Tryz.prog 26 [.agg T.c] (.slice ((readyL T).map qb1)):=by
 refine qaz Tryz.func26 Tryz.ntmps26 rfl (by kernel_rfl) rfl rfl fun E h hN hh hu hb=>?_;simp [go_sem,LT.c] at hb;simp -dsimp [go_sem,hN,LT.c];refine qab (c_lt_Valid T) ?_;simp -dsimp [go_sem,hN,hv];obtain ⟨F,hF⟩:∃ F:Nat→List Int,F=fun n=>((T.glob.take n).filter fun r=>(qdr T r.t).isEmpty).map (·.t):=⟨_,rfl⟩
 have hF0:F 0=[]:=by rw [hF];simp
 have hF1:∀ n (hn:n<T.glob.length),F (n+1)=F n++if (qdr T T.glob[n].t).isEmpty then [T.glob[n].t] else []:=fun n hn=>by
  rw [hF];simp only [List.take_succ_eq_append_getElem hn,List.filter_append,List.map_append];congr 1;rcases h:(qdr T T.glob[n].t).isEmpty with _ | _<;>simp [h]
 have hFl:∀ n,(F n).length≤n:=fun n=>by
  rw [hF,List.length_map];refine Nat.le_trans (List.length_filter_le _ _) ?_;rw [List.length_take];omega
 have hFe:F T.glob.length=readyL T:=by rw [hF];simp [readyL]
 refine qaj T.glob.length (fun _=>True) (fun n=>⟨[(1,P0 h.length),(3,.own (h.length+1) (F n).length),(10,.slice (T.glob.map LReq.c)),(11,I T.glob.length),(12,I n)],h++[.cells [.slice (T.glob.map LReq.c),.slice (T.qs.map LQ.c)],.arr 3 1 ((F n).map qb1)]⟩) trivial ((nil_wk E _ 3 3 1 (by simp [go_sem])).trans (by rw [hF0];exact wkA)) ?_;intro n hn _;have hw:=qa6 hn hb.1.1;simp -dsimp [go_sem,hN];refine cnd ?_ ?_<;>intro hc<;>simp at hc
 ·
  simp -dsimp [go_sem,hN,hc,LReq.c];refine qab (c_lt_waits T T.glob[n].t hl) ?_;simp -dsimp [go_sem,hN];have hwn:waitsC T T.glob[n].t=[]↔qdr T T.glob[n].t=[]:=by rw [← waitsC_nil,List.length_eq_zero_iff]
  have h9:=hFl n;refine cnd (fun hg=>?_) (fun hg=>?_)<;>simp [hwn] at hg
  ·
   have hF2:F (n+1)=F n++[T.glob[n].t]:=by rw [hF1 n hc];simp [hg]
   simp -dsimp [go_sem,hN,hw];refine ⟨by omega,hc,?_⟩;rw [hF2,List.map_append,List.length_append];exact wkA
  ·
   have hF2:F (n+1)=F n:=by rw [hF1 n hc];simp [hg]
   simp -dsimp [go_sem,hN,hw];refine ⟨hc,?_⟩;rw [hF2];exact wkA
 ·
  have hne:n=T.glob.length:=by omega
  subst hne;simp -dsimp [go_sem,hN];simp [hFe]
end Go.Proofs.YtbimdamecieomaaGreatDoor
