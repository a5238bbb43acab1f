/- Part 39 of a proof: W30, W50, W52, W31 -/
import Derived.Shelf.Small.Strs
import Derived.Shelf.Strconv.Itoa4
import Derived.Lib.ItoaLen
import Derived.Test.YtcjolkgjhcdhcaaGreatDoorR13
import Derived.Test.YtcjolkgjhcdhcaaGreatDoorR14
import Derived.Test.YtcjolkgjhcdhcaaGreatDoorR15
import Derived.Test.YtcjolkgjhcdhcaaGreatDoorR20
import Derived.Test.YtcjolkgjhcdhcaaGreatDoorR21
import Derived.Test.YtcjolkgjhcdhcaaGreatDoorR22
import Derived.Test.YtcjolkgjhcdhcaaGreatDoorR24
import Derived.Test.YtcjolkgjhcdhcaaGreatDoorR25
import Derived.Test.YtcjolkgjhcdhcaaGreatDoorR26
import Derived.Test.YtcjolkgjhcdhcaaGreatDoorR31
import Derived.Test.YtcjolkgjhcdhcaaGreatDoorR34
import Derived.Test.YtcjolkgjhcdhcaaGreatDoorR35
import Derived.Test.YtcjolkgjhcdhcaaGreatDoorR37
import Derived.Test.YtcjolkgjhcdhcaaGreatDoorR38
set_option linter.all false

set_option maxRecDepth 4000
set_option maxHeartbeats 2000000
namespace Go.Proofs.YtcjolkgjhcdhcaaGreatDoor
open Go Go.Abs Go.Cw
attribute [local go_sem] mC
theorem kAV_vAV_und (n:Nat) (l:List (qac×V)):(AObj.map (kAV vAV l)).under n=true:=kAV_und (f:=vAV) (fun n a=>by simp [AV.under,V.c,qaw]) n l
theorem kAV_u2 (n:Nat) (l:List (qac×V)):(∀ (a b:AV),(a,b)∈kAV vAV l→AV.under n a=true∧AV.under n b=true)=True:=by
 refine eq_true fun a b hab=>?_;obtain ⟨s,x,rfl,rfl⟩:=kAV_mem hab;simp [AV.under,V.c,qaw]
theorem setArgs_nil (m:List (qac×V)):qds [] [] m=m:=rfl
theorem MH_run (st:List Pr) (ft:Foot) (fmt:Int→qac) (h A L:qab) {g:Nat} {tb:AObj} {tV tS:Nat} (hg:h[g]?=some tb) (hu:hUnder h.length h=true) (a l:Nat) (hA:A.length=a) (hL:L.length=l) (uA:hUnder (h.length+(a+l+7)) A=true) (uL:hUnder (h.length+(a+l+7)) L=true) :
  MH (cfgR fmt st ft) tb tV tS g (h.length+(a+3)) (h.length+(a+1)) (h.length+(a+2)) (h.length+(a+l+4)) (h.length+(a+l+5)) (h.length+(a+l+6))
   (fun q=>h++(A++(.cells ft.c::.map (kAV vAV q.vars)::.map (kAV vAV q.own)::.cells (mC (cfgR fmt st ft) (h.length+(a+1)) (h.length+(a+2)) (h.length+(a+l+4)) (h.length+(a+l+5)) (h.length+(a+l+6)) q)::(L++[.arr tV 3 (q.out.map V.c),.uarr tS 1 (q.reads.map qbd),.uarr tS 1 (q.puts.map qbd)])))) (h.length+(a+l+7)):=by
 have hgl:g<h.length:=(List.getElem?_eq_some_iff.1 hg).1;subst hA;subst hL;have e1:∀ (X:qab) (k:Nat),(h++X)[h.length+k]?=X[k]?:=fun X k=>by rw [List.getElem?_append_right (by omega)];congr 1;omega
 have e2:∀ (X:qab) (k:Nat),(A++X)[A.length+k]?=X[k]?:=fun X k=>by rw [List.getElem?_append_right (by omega)];congr 1;omega
 have e3:∀ (X:qab) (k:Nat),(L++X)[L.length+k]?=X[k]?:=fun X k=>by rw [List.getElem?_append_right (by omega)];congr 1;omega
 have s1:∀ (X:qab) (k:Nat) (y:AObj),(h++X).set (h.length+k) y=h++X.set k y:=fun X k y=>by rw [List.set_append_right _ _ (by omega)];congr 2;omega
 have s2:∀ (X:qab) (k:Nat) (y:AObj),(A++X).set (A.length+k) y=A++X.set k y:=fun X k y=>by rw [List.set_append_right _ _ (by omega)];congr 2;omega
 have s3:∀ (X:qab) (k:Nat) (y:AObj),(L++X).set (L.length+k) y=L++X.set k y:=fun X k y=>by rw [List.set_append_right _ _ (by omega)];congr 2;omega
 have e4:∀ (a b c d:AObj) (X:qab) (k:Nat),(a::b::c::d::(L++X))[L.length+4+k]?=X[k]?:=fun a b c d X k=>by
  rw [show L.length+4+k=(L.length+k)+1+1+1+1 by omega];simp only [List.getElem?_cons_succ];exact e3 X k
 have s4:∀ (a b c d y:AObj) (X:qab) (k:Nat),(a::b::c::d::(L++X)).set (L.length+4+k) y=a::b::c::d::(L++X.set k y):=fun a b c d y X k=>by
  rw [show L.length+4+k=(L.length+k)+1+1+1+1 by omega];simp only [List.set_cons_succ];rw [s3]
 have i0:h.length+(A.length+L.length+4)=h.length+(A.length+(L.length+4+0)):=by omega
 have i1:h.length+(A.length+L.length+5)=h.length+(A.length+(L.length+4+1)):=by omega
 have i2:h.length+(A.length+L.length+6)=h.length+(A.length+(L.length+4+2)):=by omega
 constructor
 case lg=>intro q;rw [List.getElem?_append_left hgl];exact hg
 case len=>intro q;simp;omega
 case und =>
  intro q;rw [qaz,qa4 (Nat.le_add_right _ _) hu,qaz,uA];simp only [hUnder,kAV_vAV_und,qaz,uL,Bool.true_and,Bool.and_true];simp [AObj.under,AV.under,qaw,mC,Foot.c];omega
 case lm=>intro q;rw [e1,e2];rfl
 case lv=>intro q;rw [e1,e2];rfl
 case lo=>intro q;rw [e1,e2];rfl
 case lio=>intro q;rw [i0,e1,e2,e4];rfl
 case lir=>intro q;rw [i1,e1,e2,e4];rfl
 case lip=>intro q;rw [i2,e1,e2,e4];rfl
 case sm=>intro q no nr np s;rw [s1,s2];rfl
 case sv=>intro q x;rw [s1,s2];rfl
 case so=>intro q x;rw [s1,s2];rfl
 case sio=>intro q x;simp only [i0,s1,s2,s4];rfl
 case sir=>intro q x;simp only [i1,s1,s2,s4];rfl
 case sip=>intro q x;simp only [i2,s1,s2,s4];rfl
 all_goals omega
variable {C:Cfg} {tT:TypeId} {tx:Nat×Nat} {g m v o io ir ip:Nat} {K:MQ→qab} {n0:Nat}
theorem c_interp_Run1 (hF:C.fmt=qb3) (hC:rngC C) (p:Proc) (hG:∀ x∈p.body,goS x) (Y:MHs C tT tx g m v o io ir ip K n0) (s:MS) (hI:Cw.Inv 0 0 s) {a b:Nat} (ha:∀ q,(K q)[a]?=some (.cells [.ptr m 0])) (hb0:∀ q,(K q)[b]?=some (.cells p.c)) :
  ACalls Tryz.prog 98 [.ptr a 0,.ptr b 0] (K s.q) fun r h'=>r=endU (qdk C p.body s).1∧h'=K (qdk C p.body s).2.q:=by
 refine qav Tryz.func98 Tryz.ntmps98 rfl (by kernel_rfl) rfl fun E hN hh hu hb hb' hua=>?_;simp -dsimp [go_sem,hN,ha,hb0];refine qan (qek hF hC p.body hG Y s hI) ?_;rintro r h' ⟨rfl,rfl⟩;rcases qdk C p.body s with ⟨z | ⟨⟩,s1⟩<;>simp -dsimp [go_sem,hN,endU]<;>exact ⟨_,.refl _,K s1.q,by simp [go_sem],by first | exact hwk.refl _ | exact hwk.app0 _ | simp [hwk.refl],by simp [Y.len],Y.und' _,by first | rfl | simp,by first | rfl | simp [MS.q]⟩
abbrev effZ:AObj:=.cells [I 0,I 0,.nils,.nils,.nils,.nils,S em,I 0]
def endC:Except Stop Unit→List AV
 | .ok _=>zs
 | .error z=>[I z.status,I z.code,.slice [],S z.miss]
def isE:Except Stop Unit→Bool
 | .ok _=>false
 | .error _=>true
@[simp] theorem norm_endC (H:qab) (x:Except Stop Unit):qbc H (endC x)=endC x:=by cases x<;>rfl
@[simp] theorem under_endC (n:Nat) (x:Except Stop Unit):qaw n (endC x)=true:=by cases x<;>rfl
theorem c_run_of {a:AV} {f:FuncId} {caps:List AV} {h h1:qab} {x:Except Stop Unit} (hl:h1.length=h.length) (hu:hUnder h.length h1=true) (hc:∀ H,qbc H caps=caps) (hg:ACalls Tryz.prog f caps (h++[.cells [I 0,I 0,.nils,S em],.cells [Bo false]]) fun r h'=>r=endU x∧h'=h1++[.cells [I 0,I 0,.nils,S em],.cells [Bo false]]) :
  ACalls Tryz.prog 97 [a,.fn (.func f) [] caps] h fun r h'=>r=.ret (.tuple [.agg (endC x),Bo (isE x)])∧h'=h1:=by
 refine c_interp_run a (g:=f) (first:=[]) (caps:=caps) (by rw [List.nil_append,hc];exact hg) ?_ ?_
 ·
  rintro r h' ⟨rfl,rfl⟩ _;have e1:(h1++[AObj.cells [I 0,I 0,.nils,S em],AObj.cells [Bo false]])[h.length]?=some (.cells [I 0,I 0,.nils,S em]):=by rw [← hl];simp
  have e2:(h1++[AObj.cells [I 0,I 0,.nils,S em],AObj.cells [Bo false]])[h.length+1]?=some (.cells [Bo false]):=by rw [← hl];simp
  have e3:(h1++[AObj.cells [I 0,I 0,.nils,S em],AObj.cells [Bo false]]).take h.length=h1:=by rw [← hl];simp
  refine ⟨⟨_,e1,rfl⟩,⟨_,e2⟩,by rw [e3];exact hu,?_⟩;rw [e3];rcases x with z | u
  · exact ⟨rfl,rfl,by simp [qaw,AV.under],rfl,rfl⟩
  · exact ⟨rfl,rfl⟩
 ·
  rintro h' st ⟨h1,_⟩ H;rcases x with z | u
  ·
   simp only [endU,stopAV,AEnd.panic.injEq,AV.iface.injEq,AV.agg.injEq,true_and] at h1;subst h1;rfl
  · cases h1
theorem c_machine_finish {h:qab} (x:Except Stop Unit) (s:MS) (hm:h[m]?=some (.cells (mC C v o io ir ip s.q))) (hio:h[io]?=some (.arr 71 3 (s.out.map V.c))) (hir:h[ir]?=some (.arr 9 1 (s.reads.map qbd))) (hip:h[ip]?=some (.arr 9 1 (s.puts.map qbd)))
  (ho:h[o]?=some (.map (kAV vAV s.own))) (hl:s.puts.length+1≤68719476736) :
  ACalls Tryz.prog 96 [.ptr m 0,.agg (endC x),Bo (isE x)] h fun r h'=>r=.ret (.agg (doneS (x,s)).c)∧h'=h:=by
 rcases x with z | u
 · exact c_machine_finish_stop s.q hm hir hip rfl rfl z
 · exact c_machine_finish_ok s.q hm hio hir hip ho rfl rfl rfl hl
theorem c_interp_Run (p:Proc) (args:List V) (st:List Pr) (ft:Foot) (h:qab) (hg:h[g]?=some (tabO tT tx)) (hI:RunIn qb3 p args st) :
  ACalls Tryz.prog 72 [.agg p.c,.slice (args.map V.c),.slice (st.map Pr.c),.agg ft.c] h fun r h'=>r=.ret (.agg (runS qb3 p args st ft).c)∧h'=h:=by
 refine qav Tryz.func72 Tryz.ntmps72 rfl (by kernel_rfl) rfl fun E hN hh hu hb hb' hua=>?_;simp [go_sem] at hb;simp -dsimp [go_sem,hN];refine qaa (c_cost_Check p) ?_;simp -dsimp [go_sem,hN];refine qae (c_types_Args p args) (by simp) ?_;simp -dsimp [go_sem,hN];refine qae (c_state_Valid st) (by simp) ?_;simp -dsimp [go_sem,hN];refine qae (c_interp_valid ft.all ft.reads ft.writes) (by simp) ?_;simp -dsimp [go_sem,hN]
 repeat refine ⟨by grind,?_⟩
 refine cnd ?_ ?_<;>intro h0<;>simp at h0
 ·
  have hno:¬ runOk p args st ft:=by rw [qb1];grind
  rw [qd4 hno];simp -dsimp [go_sem,hN];refine qan (c_interp_wrong _) ?_;rintro r h' ⟨rfl,rfl⟩;simp -dsimp [go_sem,hN];exact ⟨_,.refl _,h,by simp [go_sem],hwk.app0 _,Nat.le_refl _,hu,rfl,rfl⟩
 have hok:runOk p args st ft:=by rw [qb1];grind
 have hok':=(qb1 _ _ _ _).1 hok;have hlen:=(argsErr_ok hok'.2.1).1;rw [qdy hok];simp -dsimp [go_sem,hN];refine qan (c_interp_newMachine st ft _) ?_;rintro r h' ⟨rfl,rfl⟩;simp -dsimp [go_sem,hN];have Y:=MH_run (tb:=tabO tT tx) (tV:=71) (tS:=9) st ft qb3 h [.cells p.c,.cells ft.c,effZ] [.cells [.ptr (h.length+6) 0]] hg hu 3 1 rfl rfl (by simp [hUnder,AObj.under,AV.under,qaw,Proc.c,Foot.c]) (by simp [hUnder,AObj.under,AV.under,qaw]);simp only [List.cons_append,List.nil_append,Nat.reduceAdd] at Y;refine qas (α:=List (qac×V)) p.params.length (fun n vs=>qds (p.params.drop n) (args.drop n) vs=qds p.params args []) (fun n vs=>⟨[(1,.slice (args.map V.c)),(4,.ptr h.length 0),(8,.ptr (h.length+2) 0),(9,.ptr (h.length+7) 0),(36,.slice (p.params.map Param.c)),(37,I p.params.length),(38,I n)],h++[.cells p.c,.cells ft.c,effZ,.cells ft.c,.map (kAV vAV vs),.map (kAV vAV []),.cells (mC (cfgR qb3 st ft) (h.length+4) (h.length+5) (h.length+8) (h.length+9) (h.length+10) ⟨vs,[],[],[],[],0,0,0,0⟩),.cells [.ptr (h.length+6) 0],.arr 71 3 [],.uarr 9 1 [],.uarr 9 1 []]⟩) [] (by simp) ?_ ?_
 ·
  refine (nilc_wk E _ (p:=h.length+6) (j:=8) (t:=71) (sz:=3) (xs:=[.slice (st.map Pr.c),Bo ft.all,.slice (ft.reads.map qbd),.slice (ft.writes.map qbd),.mapr (h.length+4),.mapr (h.length+5),I 0,I 0,.nils,.nils,.nils,.nils,S em,I 0]) (by simp) rfl).trans ?_;simp;refine (nilcu_wk E _ (p:=h.length+6) (j:=9) (t:=9) (sz:=1) (xs:=[.slice (st.map Pr.c),Bo ft.all,.slice (ft.reads.map qbd),.slice (ft.writes.map qbd),.mapr (h.length+4),.mapr (h.length+5),I 0,I 0,.own (h.length+8) 0,.nils,.nils,.nils,S em,I 0]) (by simp) rfl).trans ?_;simp;refine (nilcu_wk E _ (p:=h.length+6) (j:=10) (t:=9) (sz:=1) (xs:=[.slice (st.map Pr.c),Bo ft.all,.slice (ft.reads.map qbd),.slice (ft.writes.map qbd),.mapr (h.length+4),.mapr (h.length+5),I 0,I 0,.own (h.length+8) 0,.own (h.length+9) 0,.nils,.nils,S em,I 0]) (by simp) rfl).trans ?_;simp [kAV,qdu];exact wkA
 intro n vs hn hI2;have hw:=qaq hn hb.1.2.1.1;simp -dsimp [go_sem,hN];refine cnd ?_ ?_<;>intro hc<;>simp at hc
 ·
  have hc2:n<args.length:=by omega
  simp -dsimp [go_sem,hN,hc];refine qah 10 mixed (by kernel_rfl) (by kernel_rfl) ?_;simp -dsimp [go_sem,hN,hc,hc2,hw];refine ⟨qcj vs p.params[n].name args[n],?_,Wk.mk (by simp [hh]) (by simp [go_sem]) (by simp [hu,qag hu,go_sem,kAV_u2]) (by simp [go_sem])⟩;rw [qad hc,qad hc2,qds] at hI2;exact hI2
 ·
  rw [List.drop_eq_nil_of_le hc,List.drop_eq_nil_of_le (by omega),setArgs_nil] at hI2;subst hI2;obtain ⟨x,s1,hB⟩:∃ x s1,qdk (cfgR qb3 st ft) p.body (ms0 p args)=(x,s1):=⟨_,_,rfl⟩
  have hd:=(dl_blk (C:=cfgR qb3 st ft) (fun q hq=>hI.st q hq) p.body 1 (ms0 p args) (cost_okL hok'.1) (cost_goS hok'.1 hI.body) (inv0 hI)).pu;rw [hB] at hd;have hnl:=cost_nL hok'.1;have hlim:=cost_lim hok'.1;simp only [List.length_nil,Nat.zero_add] at hd;have Y2:=Y.ext [.cells [I 0,I 0,.nils,S em],.cells [Bo false]] (by simp [hUnder,AObj.under,AV.under,qaw]);have hr:=c_interp_Run1 (C:=cfgR qb3 st ft) rfl (fun q hq=>hI.st q hq) p (cost_goS hok'.1 hI.body) Y2 (ms0 p args) (inv0 hI) (a:=h.length+7) (b:=h.length) (by intro q;simp) (by intro q;simp);rw [hB] at hr;have hrun:=c_run_of (a:=.ptr (h.length+6) 0) (by simp) (by simp [qaz,hu,qa4,qag hu,go_sem,kAV_u2,MS.q]) (fun H=>by simp [qbc,AV.norm]) hr;simp -dsimp [go_sem,hN];refine awp_drawK 6 3 [0] mixed (by kernel_rfl) ?_;simp -dsimp [go_sem,hN];refine tkcall_ret hrun ?_;simp -dsimp [go_sem,hN];obtain ⟨Hd,hHd⟩:∃ Hd:AObj→AObj→qab,∀ u1 u2,Hd u1 u2=h++[.cells p.c,.cells ft.c,effZ,.cells ft.c,.map (kAV vAV s1.vars),.map (kAV vAV s1.own),.cells (mC (cfgR qb3 st ft) (h.length+4) (h.length+5) (h.length+8) (h.length+9) (h.length+10) s1.q),.cells [.ptr (h.length+6) 0],.arr 71 3 (s1.out.map V.c),u1,u2]:=⟨fun u1 u2=>_,fun _ _=>rfl⟩
  have hw2:∀ E,Wk E ⟨[],Hd (.uarr 9 1 (s1.reads.map qbd)) (.uarr 9 1 (s1.puts.map qbd))⟩ ⟨[],Hd (.arr 9 1 (s1.reads.map qbd)) (.arr 9 1 (s1.puts.map qbd))⟩:=fun E=>by
   have d1:=demote_wk E ⟨[],Hd (.uarr 9 1 (s1.reads.map qbd)) (.uarr 9 1 (s1.puts.map qbd))⟩ (i:=h.length+9) (t:=9) (sz:=1) (rows:=s1.reads.map qbd) (by simp [hHd]);have d2:=demote_wk E ⟨[],Hd (.arr 9 1 (s1.reads.map qbd)) (.uarr 9 1 (s1.puts.map qbd))⟩ (i:=h.length+10) (t:=9) (sz:=1) (rows:=s1.puts.map qbd) (by simp [hHd]);refine d1.trans ?_;have e1:(Hd (.uarr 9 1 (s1.reads.map qbd)) (.uarr 9 1 (s1.puts.map qbd))).set (h.length+9) (.arr 9 1 (s1.reads.map qbd))=Hd (.arr 9 1 (s1.reads.map qbd)) (.uarr 9 1 (s1.puts.map qbd)):=by simp [hHd]
   have e2:(Hd (.arr 9 1 (s1.reads.map qbd)) (.uarr 9 1 (s1.puts.map qbd))).set (h.length+10) (.arr 9 1 (s1.puts.map qbd))=Hd (.arr 9 1 (s1.reads.map qbd)) (.arr 9 1 (s1.puts.map qbd)):=by simp [hHd]
   rw [e2] at d2;rw [e1];exact d2
  have hfin:=c_machine_finish (C:=cfgR qb3 st ft) (m:=h.length+6) (v:=h.length+4) (o:=h.length+5) (io:=h.length+8) (ir:=h.length+9) (ip:=h.length+10) (h:=Hd (.arr 9 1 (s1.reads.map qbd)) (.arr 9 1 (s1.puts.map qbd))) x s1 (by simp [hHd]) (by simp [hHd]) (by simp [hHd]) (by simp [hHd]) (by simp [hHd]) (by omega);have hfin2:=acalls_wk hw2 hfin;rw [hHd,hHd] at hfin2;refine qan hfin2 ?_;rintro r h' ⟨rfl,rfl⟩;simp -dsimp [go_sem,hN];rw [hB];exact ⟨_,.refl _,h,by simp [go_sem],hwk.app0 _,Nat.le_refl _,hu,rfl,rfl⟩
end Go.Proofs.YtcjolkgjhcdhcaaGreatDoor

set_option maxRecDepth 4000
set_option maxHeartbeats 2000000
namespace Go.Proofs.YtcjolkgjhcdhcaaGreatDoor
open Go Go.Abs Go.Cw
theorem c_serial_find1 (x:Proc) (h:qab) (i:Nat) (t:Txn) (hi:h[i]?=some (.cells t.c)):ACalls Tryz.prog 90 [.agg x.c,.ptr i 0] h fun r h'=>r=.ret (Bo (decide (x.name=t.proc)))∧h'=h:=by
 refine qav Tryz.func90 Tryz.ntmps90 rfl (by kernel_rfl) rfl fun E hN hh hu hb hb' hua=>?_;have hi':i<h.length:=(List.getElem?_eq_some_iff.1 hi).1;have a1:∀ l,(h++l)[i]?=some (.cells t.c):=fun l=>by rw [List.getElem?_append_left hi'];exact hi
 simp -dsimp [go_sem,hN,a1,hu,Txn.c];exact ⟨_,.refl _,h,by simp [go_sem],by simp [go_sem],by simp,by simp [hu,go_sem],rfl,rfl⟩
theorem c_IndexFunc_Proc (l:List Proc) (f:FuncId) (caps:List AV) (q:Proc→Bool) (h:qab) (hcn:qbc h caps=caps) (hp:∀ x:Proc,ACalls Tryz.prog f ([.agg x.c]++caps) h fun r h'=>r=.ret (Bo (q x))∧h'=h) :
  ACalls Tryz.prog 89 [.slice (l.map Proc.c),.fn (.func f) [] caps] h fun r h'=>r=.ret (I (idxOf q l))∧h'=h:=by
 refine qav Tryz.func89 Tryz.ntmps89 rfl (by kernel_rfl) rfl fun E hN hh hu hb hb' hua=>?_;simp [go_sem] at hb;simp -dsimp [go_sem,hN];refine qaf l.length (fun n=>qbw q n (l.drop n)=idxOf q l) (fun n=>⟨[(0,.slice (l.map Proc.c)),(1,.fn (.func f) [] caps),(7,I l.length),(8,I n)],h⟩) (by simp [idxOf]) (Wk.mk (by simp [hh]) (by simp) (by simp [hu]) (by simp [go_sem];simpa [go_sem] using hua)) ?_;intro n hn hI;have hw:=qaq hn hb.1;simp -dsimp [go_sem,hN];refine cnd ?_ ?_<;>intro hc<;>simp at hc
 ·
  rw [qad hc,qbw] at hI;simp -dsimp [go_sem,hN,hc,hcn];refine qan (hp l[n]) ?_;rintro r h' ⟨rfl,rfl⟩;simp -dsimp [go_sem,hN];refine cnd ?_ ?_<;>intro hg<;>try simp at hg
  ·
   simp -dsimp [go_sem,hN];rw [if_pos hg] at hI;rw [hI];exact ⟨_,.refl _,h',by simp [go_sem],by simp [go_sem],by simp,by simp [hu,go_sem],rfl,rfl⟩
  ·
   simp -dsimp [go_sem,hN,hw];exact ⟨hc,by simpa [hg] using hI,Wk.mk (by simp [hh]) (by simp) (by simp [hu]) (by simp [go_sem];simpa [go_sem] using hua)⟩
 ·
  rw [List.drop_eq_nil_of_le (by omega),qbw] at hI;simp -dsimp [go_sem,hN,← hI];exact ⟨_,.refl _,h,by simp [go_sem],by simp [go_sem],by simp,by simp [hu,go_sem],rfl,rfl⟩
theorem idxFrom_find {α:Type} (q:α→Bool):∀ (l:List α) (n:Nat),(qbw q n l = -1∧l.find? q=none)∨∃ (m:Nat) (hm:m<l.length),qbw q n l=((n+m:Nat):Int)∧l.find? q=some l[m]
 | [],n=>.inl ⟨by rw [qbw],rfl⟩
 | x::l,n=>by
  rw [qbw];by_cases h:q x=true
  ·
   right;exact ⟨0,by simp,by simp [h],by simp [h]⟩
  ·
   rw [if_neg h];rcases idxFrom_find q l (n+1) with ⟨h1,h2⟩ | ⟨m,hm,h1,h2⟩
   · exact .inl ⟨h1,by simp [h,h2]⟩
   ·
    refine .inr ⟨m+1,by simp;omega,?_,?_⟩
    · rw [h1];congr 1;omega
    · simp [h,h2]
theorem idxOf_find {α:Type} (q:α→Bool) (l:List α):(idxOf q l = -1∧l.find? q=none)∨∃ (m:Nat) (hm:m<l.length),idxOf q l=(m:Int)∧l.find? q=some l[m]:=by
 have:=idxFrom_find q l 0;simpa [idxOf] using this
def noProc:Proc:=⟨em,[],[]⟩
theorem c_serial_find (procs:List Proc) (t:Txn):APure Tryz.prog 71 [.slice (procs.map Proc.c),.agg t.c] (.tuple [.agg ((findP procs t).getD noProc).c,Bo (findP procs t).isSome]):=by
 refine qaj Tryz.func71 Tryz.ntmps71 rfl (by kernel_rfl) rfl rfl fun E h hN hh hu hb=>?_;simp [go_sem] at hb;obtain ⟨R,hR⟩:∃ R,findP procs t=R:=⟨_,rfl⟩
 rw [hR];unfold findP findN at hR;simp -dsimp [go_sem,hN];refine qan (c_IndexFunc_Proc procs _ _ (fun x=>decide (x.name=t.proc)) _ (by simp [qbc,AV.norm]) (fun x=>c_serial_find1 x _ _ t (by simp [Txn.c]))) ?_;rintro r h' ⟨rfl,rfl⟩;rcases idxOf_find (fun x:Proc=>decide (x.name=t.proc)) procs with ⟨h1,h2⟩ | ⟨m,hm,h1,h2⟩
 ·
  rw [h2] at hR;simp only at hR;subst hR;rw [h1];simp -dsimp [go_sem,hN];refine qah 9 mixed (by kernel_rfl) (by kernel_rfl) ?_;simp -dsimp [go_sem,hN];refine qdh ?_;simp -dsimp [go_sem,hN,noProc]
 ·
  rw [h2] at hR;simp only at hR;rw [h1];simp -dsimp [go_sem,hN];refine qah 9 mixed (by kernel_rfl) (by kernel_rfl) ?_;simp -dsimp [go_sem,hN,hm,Txn.c];refine qae (c_types_Args procs[m] t.args) (by simp) ?_;simp -dsimp [go_sem,hN];refine cnd ?_ ?_<;>intro h3<;>simp at h3
  ·
   rw [if_neg (by omega)] at hR;subst hR;simp -dsimp [go_sem,hN,noProc]
  ·
   rw [if_pos (by omega)] at hR;subst hR;simp -dsimp [go_sem,hN,hm]
variable {tT:TypeId} {tx:Nat×Nat} {g:Nat}
theorem c_serial_One (procs:List Proc) (s:List Pr) (t:Txn) (h:qab) (hg:h[g]?=some (tabO tT tx)) (hI:∀ p,findP procs t=some p→RunIn qb3 p t.args s) (hL:s.length≤60000000000) :
  ACalls Tryz.prog 42 [.slice (procs.map Proc.c),.slice (s.map Pr.c),.agg t.c] h fun r h'=>r=.ret (.tuple [.slice ((oneS qb3 procs s t).1.map Pr.c),.agg (oneS qb3 procs s t).2.c])∧h'=h:=by
 refine qav Tryz.func42 Tryz.ntmps42 rfl (by kernel_rfl) rfl fun E hN hh hu hb hb' hua=>?_;have hgl:g<h.length:=(List.getElem?_eq_some_iff.1 hg).1;have hg':∀ l:qab,(h++l)[g]?=some (tabO tT tx):=fun l=>by rw [List.getElem?_append_left hgl];exact hg
 simp [go_sem] at hb;obtain ⟨R,hR⟩:∃ R,oneS qb3 procs s t=R:=⟨_,rfl⟩
 rw [hR];unfold oneS at hR;simp -dsimp [go_sem,hN,Txn.c];refine qaa (c_serial_find procs t) ?_;rcases hF:findP procs t with _ | p
 ·
  rw [hF] at hR;simp only at hR;subst hR;simp -dsimp [go_sem,hN,noProc];refine qaa (c_Clone_P s) ?_;simp -dsimp [go_sem,hN,wrongE];exact ⟨_,.refl _,h,by simp [go_sem],hwk.app0 _,Nat.le_refl _,hu,rfl,rfl⟩
 ·
  rw [hF] at hR;simp only at hR;have hRun:=hI p hF;have hc1:=fun h=>run_commit_ok (fmt:=qb3) (p:=p) (args:=t.args) (s:=s) (ft:=t.ft) h;have hc2:=fun h=>(run_commit (ft:=t.ft) hRun h).2.2;have hlw:=run_lenW (ft:=t.ft) hRun;have hcall:=fun H hH=>c_interp_Run (g:=g) (tT:=tT) (tx:=tx) p t.args s t.ft H hH hRun;obtain ⟨e,he⟩:∃ e,runS qb3 p t.args s t.ft=e:=⟨_,rfl⟩
  rw [he] at hR hc1 hc2 hlw;simp only [he] at hcall;simp -dsimp [go_sem,hN];refine qan (hcall _ (hg' _)) ?_;rintro r h' ⟨rfl,rfl⟩;simp -dsimp [go_sem,hN];refine cnd ?_ ?_<;>intro h0<;>simp at h0
  ·
   rw [if_pos h0] at hR;subst hR;have hA:=c_state_Apply s e.writes (by omega);rw [hc1 h0,hc2 h0] at hA;simp only [Bool.and_self,if_true] at hA;simp -dsimp [go_sem,hN];refine qaa hA ?_;simp -dsimp [go_sem,hN];refine qah 3 mixed (by kernel_rfl) (by kernel_rfl) ?_;simp -dsimp [go_sem,hN];exact ⟨_,.refl _,h,by simp [go_sem],hwk.app0 _,Nat.le_refl _,hu,rfl,rfl⟩
  ·
   rw [if_neg h0] at hR;subst hR;simp -dsimp [go_sem,hN];refine qah 4 mixed (by kernel_rfl) (by kernel_rfl) ?_;simp -dsimp [go_sem,hN];refine qay (c_Clone_P s) (by simp) ?_;simp -dsimp [go_sem,hN];exact ⟨_,.refl _,h,by simp [go_sem],hwk.app0 _,Nat.le_refl _,hu,rfl,rfl⟩
end Go.Proofs.YtcjolkgjhcdhcaaGreatDoor

set_option maxRecDepth 4000
set_option maxHeartbeats 2000000
namespace Go.Proofs.YtcjolkgjhcdhcaaGreatDoor
open Go Go.Abs Go.Cw
theorem posS_has {k:qac}:∀ {l:List qac},qec l→decide (l[posS k l]?=some k)=qcr l k
 | [],_=>by simp [posS,qcr,anyL]
 | x::l,ha=>by
  obtain ⟨h1,h2⟩:=List.pairwise_cons.1 ha;have ih:=posS_has (k:=k) h2;have e:qcr (x::l) k=(decide (x=k)||qcr l k):=by simp [qcr,anyL]
  rw [posS,e];by_cases hx:sLt x k=true
  ·
   rw [if_pos hx,List.getElem?_cons_succ,ih];have:x≠k:=sLt_ne hx;simp [this]
  ·
   rw [if_neg hx];simp only [List.getElem?_cons_zero,Option.some.injEq];by_cases hk:x=k
   · simp [hk]
   ·
    have:qcr l k=false:=by
     rcases Bool.eq_false_or_eq_true (qcr l k) with g | g
     · exact (hx (h1 k (hasK_iff.1 g))).elim
     · exact g
    simp [hk,this]
theorem leS_iff (a b:qac):(sLt b a=true∨b=a)↔sLt a b=false:=by
 constructor
 ·
  rintro (h | rfl)
  · exact sLt_asymm h
  · exact qcu _
 ·
  intro h;rcases Bool.eq_false_or_eq_true (sLt b a) with g | g
  · exact .inl g
  · exact .inr (sLt_eq (by rw [g];simp) (by rw [h];simp))
theorem c_fp_ascending (l:List qac):APure Tryz.prog 81 [.slice (l.map qbd)] (Bo (ascK none l&&decide ((l.length:Int)≤64))):=by
 refine qaj Tryz.func81 Tryz.ntmps81 rfl (by kernel_rfl) rfl rfl fun E h hN hh hu hb=>?_;simp [go_sem] at hb;simp -dsimp [go_sem,hN];refine qaf l.length (fun n=>ascK (qbh l n) (l.drop n)=ascK none l) (fun n=>⟨[(0,.slice (l.map qbd)),(5,.slice (l.map qbd)),(6,I l.length),(7,I n)],h⟩) (by simp [qbh]) wkA ?_;intro n hn hI;have hw:=qaq hn hb.1;simp -dsimp [go_sem,hN];refine cnd ?_ ?_<;>intro hc<;>try simp at hc
 ·
  rw [qad hc,ascK] at hI;simp -dsimp [go_sem,hN,hc];refine qaa (c_keys_Valid _) ?_;cases n with
  | zero =>
   simp -dsimp [go_sem,hN];refine cnd ?_ ?_<;>intro hg<;>try simp at hg
   ·
    simp -dsimp [go_sem,hN];simp [← hI,hg,qbh,after]
   ·
    simp -dsimp [go_sem,hN,hw];exact ⟨hc,by simpa [hg,qbh,hc,after] using hI,wkA⟩
  | succ m =>
   have hm:m<l.length:=by omega
   have hw2:=wrapN (Nat.le_of_lt hm) hb.1;simp at hw;simp -dsimp [go_sem,hN,hw2,hm];refine cnd ?_ ?_<;>intro hg<;>try simp at hg
   ·
    simp -dsimp [go_sem,hN];rw [← hI];rcases hg with h1 | h1
    · simp [qbh,hm,after,h1]
    ·
     have h2:=(leS_iff _ _).1 h1;simp [qbh,hm,after,h2]
   ·
    have h2:sLt l[m] l[m+1]=true:=by
     rcases Bool.eq_false_or_eq_true (sLt l[m] l[m+1]) with g | g
     · exact g
     ·
      have:=(leS_iff _ _).2 g;grind
    simp -dsimp [go_sem,hN,hw];simp [hg,qbh,hm,after,h2] at hI;exact ⟨hc,by simpa [qbh,hc] using hI,wkA⟩
 ·
  rw [List.drop_eq_nil_of_le (by omega),ascK] at hI;simp -dsimp [go_sem,hN,← hI]
theorem c_fp_Valid (f:Foot):APure Tryz.prog 54 [.agg f.c] (Bo (qcd f.all f.reads f.writes)):=by
 refine qaj Tryz.func54 Tryz.ntmps54 rfl (by kernel_rfl) rfl rfl fun E h hN hh hu hb=>?_;simp -dsimp [go_sem,hN,Foot.c];refine cnd ?_ ?_<;>intro h0<;>try simp at h0
 all_goals simp -dsimp [go_sem,hN,qcd,h0]
 refine qaa (c_fp_ascending f.reads) ?_;simp -dsimp [go_sem,hN];refine qae (c_fp_ascending f.writes) (by simp) ?_;simp -dsimp [go_sem,hN,qcd,h0]
theorem c_fp_meet (a b:List qac) (hs:qec b):APure Tryz.prog 76 [.slice (a.map qbd),.slice (b.map qbd)] (Bo (meetS a b)):=by
 refine qaj Tryz.func76 Tryz.ntmps76 rfl (by kernel_rfl) rfl rfl fun E h hN hh hu hb=>?_;simp [go_sem] at hb;simp -dsimp [go_sem,hN];refine qaf a.length (fun n=>((a.drop n).any fun k=>qcr b k)=meetS a b) (fun n=>⟨[(1,.slice (b.map qbd)),(9,.slice (a.map qbd)),(10,I a.length),(11,I n)],h⟩) (by simp [meetS]) wkA ?_;intro n hn hI;have hw:=qaq hn (show _≤68719476736 by omega);simp -dsimp [go_sem,hN];refine cnd ?_ ?_<;>intro hc<;>simp at hc
 ·
  rw [qad hc,List.any_cons] at hI;have hbs:=c_BinarySearch b a[n] hs;rw [posS_has hs] at hbs;simp -dsimp [go_sem,hN,hc];refine qaa hbs ?_;simp -dsimp [go_sem,hN];refine cnd ?_ ?_<;>intro h1<;>try simp at h1
  ·
   simp -dsimp [go_sem,hN];rw [← hI,h1];simp
  ·
   simp -dsimp [go_sem,hN,hw];exact ⟨hc,by simpa [h1] using hI,wkA⟩
 ·
  rw [List.drop_eq_nil_of_le (by omega),List.any_nil] at hI;simp -dsimp [go_sem,hN,← hI]
theorem foot_asc {f:Foot} (h:qcd f.all f.reads f.writes=true) (ha:f.all=false):qec f.reads∧qec f.writes:=by
 unfold qcd at h;rw [ha] at h;simp only [Bool.false_eq_true,if_false,Bool.and_eq_true] at h;exact ⟨((ascK_iff _ _).1 h.1.1).2.1,((ascK_iff _ _).1 h.2.1).2.1⟩
theorem c_fp_Conflicts (a b:Foot):APure Tryz.prog 46 [.agg a.c,.agg b.c] (Bo (conflS a b)):=by
 refine qaj Tryz.func46 Tryz.ntmps46 rfl (by kernel_rfl) rfl rfl fun E h hN hh hu hb=>?_;simp -dsimp [go_sem,hN,Foot.c];refine qaa (c_fp_Valid a) ?_;simp -dsimp [go_sem,hN];refine qae (c_fp_Valid b) (by simp) ?_;simp -dsimp [go_sem,hN];refine cnd ?_ ?_<;>intro h0<;>simp at h0
 ·
  simp -dsimp [go_sem,hN];unfold conflS;rw [if_pos (by grind)]
 have hC:conflS a b=(meetS a.writes b.writes||(meetS a.writes b.reads||meetS a.reads b.writes)):=by
  unfold conflS;rw [if_neg (by grind)]
 have hB:=foot_asc (f:=b) (by grind) (by grind);simp -dsimp [go_sem,hN];refine qaa (c_fp_meet a.writes b.writes hB.2) ?_;simp -dsimp [go_sem,hN];refine qae (c_fp_meet a.writes b.reads hB.1) (by simp) ?_;simp -dsimp [go_sem,hN];refine qae (c_fp_meet a.reads b.writes hB.2) (by simp) ?_;simp -dsimp [go_sem,hN,hC];grind
end Go.Proofs.YtcjolkgjhcdhcaaGreatDoor

set_option maxRecDepth 8000
set_option maxHeartbeats 2000000
namespace Go.Proofs.YtcjolkgjhcdhcaaGreatDoor
open Go Go.Abs Go.Cw
def bk:qac:=⟨#[107]⟩
def bn:qac:=⟨#[110]⟩
def addP:Proc:=⟨⟨#[97,100,100]⟩,[⟨bk,2⟩,⟨bn,1⟩],[.mk 3 em 0 (.mk 3 0 bk []) (.mk 4 0 em [.mk 22 0 em [.mk 3 0 bk []],.mk 3 0 bn []]) [] []]⟩
theorem at_tab {tT:TypeId} {tx:Nat×Nat} {g:Nat} {f:FuncId} {args:List AV} {r:AV} {h:qab} (H:∀ h,h[g]?=some (tabO tT tx)→ACalls Tryz.prog f args h fun e h'=>e=.ret r∧h'=h) (hg:h[g]?=some (tabO tT tx)):APureAt Tryz.prog f args r h:=fun h' hs=>H h' (hs g _ rfl hg)
theorem ok_digit (k:Nat) (h:k<10):okB (UInt8.ofNat (48+k))=true:=by
 have:∀ k:Fin 10,okB (UInt8.ofNat (48+k.val))=true:=by decide
 exact this ⟨k,h⟩
theorem ok_digits:∀ (u:Nat),∀ b∈Lib.decDigits u,okB b=true:=by
 intro u
 induction u using Nat.strongRecOn with
 | ind u ih =>
  intro b hb;rw [Lib.decDigits] at hb;split at hb
  ·
   rename_i h;simp only [List.mem_singleton] at hb;subst hb;exact ok_digit _ h
  ·
   rename_i h;rw [List.mem_append] at hb;rcases hb with hb | hb
   · exact ih (u / 10) (by omega) b hb
   ·
    simp only [List.mem_singleton] at hb;subst hb;exact ok_digit _ (Nat.mod_lt _ (by decide))
theorem plain_itoa (n:Int) (hn:i64 n):qa7 (qb3 n)=true:=by
 have hl:=Lib.itoa_length_le n hn.1 hn.2;unfold qa7;rw [Bool.and_eq_true,decide_eq_true_eq,allL_iff];refine ⟨fun b hb=>?_,?_⟩
 ·
  have hb:b∈Lib.itoa n:=by simpa [bl,qb3] using hb
  unfold Lib.itoa at hb;split at hb
  ·
   rcases List.mem_cons.1 hb with rfl | hb
   · decide
   · exact ok_digits _ b hb
  · exact ok_digits _ b hb
 ·
  show (((Lib.itoa n).toArray.size:Nat):Int)≤64;rw [List.size_toArray];omega
section
variable {tT:TypeId} {tx:Nat×Nat} {g:Nat}
end
end Go.Proofs.YtcjolkgjhcdhcaaGreatDoor
