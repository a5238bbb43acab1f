/- Part 37 of a proof: W28, W29, W30, W47 -/
import Derived.Shelf.Small.Strs
import Derived.Shelf.Strconv.Itoa4
import Derived.Lib.ItoaLen
import Derived.Test.YtilhejdbiionhaaGreatDoorV13
import Derived.Test.YtilhejdbiionhaaGreatDoorV14
import Derived.Test.YtilhejdbiionhaaGreatDoorV16
import Derived.Test.YtilhejdbiionhaaGreatDoorV17
import Derived.Test.YtilhejdbiionhaaGreatDoorV22
import Derived.Test.YtilhejdbiionhaaGreatDoorV23
import Derived.Test.YtilhejdbiionhaaGreatDoorV24
import Derived.Test.YtilhejdbiionhaaGreatDoorV25
import Derived.Test.YtilhejdbiionhaaGreatDoorV26
import Derived.Test.YtilhejdbiionhaaGreatDoorV30
import Derived.Test.YtilhejdbiionhaaGreatDoorV31
import Derived.Test.YtilhejdbiionhaaGreatDoorV33
import Derived.Test.YtilhejdbiionhaaGreatDoorV35
import Derived.Test.YtilhejdbiionhaaGreatDoorV36
set_option linter.all false

set_option maxRecDepth 4000
set_option maxHeartbeats 1000000
namespace Go.Proofs.YtilhejdbiionhaaGreatDoor
open Go Go.Abs Go.Cw
attribute [local go_sem] Cnt.c
theorem c_cost_Check (p:Proc):APure Tryz.prog 37 [.agg p.c] (I (qbn p)):=by
 refine qap Tryz.func37 Tryz.ntmps37 rfl (by kernel_rfl) rfl rfl fun E h hN hh hu hb=>?_;rw [qbn];simp -dsimp [go_sem,hN];refine qaa (c_determinism_Check p) ?_;simp -dsimp [go_sem,hN];refine cnd ?_ ?_<;>intro h0<;>simp at h0
 ·
  simp -dsimp [go_sem,hN];exact fun k=>absurd k h0
 rw [if_neg (by simpa using h0)];simp -dsimp [go_sem,hN];refine qaa (c_cost_block p.body) ?_;simp -dsimp [go_sem,hN];refine cnd ?_ ?_<;>intro h1<;>simp at h1
 ·
  simp -dsimp [go_sem,hN];exact fun k=>absurd k (by omega)
 rw [if_neg (by omega)];simp -dsimp [go_sem,hN];refine cnd ?_ ?_<;>intro h2<;>simp at h2
 ·
  simp -dsimp [go_sem,hN];refine cnd (fun _=>?_) (fun k=>by simp at k;omega);simp -dsimp [go_sem,hN];exact fun _=>(by omega)
 simp -dsimp [go_sem,hN];refine cnd ?_ ?_<;>intro h3<;>simp at h3
 ·
  simp -dsimp [go_sem,hN];refine cnd (fun _=>?_) (fun k=>by simp at k;omega);simp -dsimp [go_sem,hN];exact fun _=>(by omega)
 simp -dsimp [go_sem,hN];refine cnd ?_ ?_<;>intro h4<;>simp at h4
 ·
  simp -dsimp [go_sem,hN];exact fun _=>(by omega)
 simp -dsimp [go_sem,hN];omega
end Go.Proofs.YtilhejdbiionhaaGreatDoor

set_option maxRecDepth 4000
set_option maxHeartbeats 1000000
namespace Go.Proofs.YtilhejdbiionhaaGreatDoor
open Go Go.Abs Go.Cw
attribute [local go_sem] mC
variable {C:Cfg} {v o io ir ip:Nat}
theorem c_machine_finish_stop {h:qab} {m:Nat} (q:MQ) (hm:h[m]?=some (.cells (mC C v o io ir ip q))) (hir:h[ir]?=some (.arr 9 1 (q.reads.map qa1))) (hip:h[ip]?=some (.arr 9 1 (q.puts.map qa1)))
  (hr:q.nr=q.reads.length) (hp:q.np=q.puts.length) (z:Stop) :
  ACalls Tryz.prog 42 [.ptr m 0,.agg [I z.status,I z.code,.slice [],S z.miss],Bo true] h fun r h'=>r=.ret (.agg [I z.status,I z.code,.slice [],.slice (q.reads.map qa1),.slice (q.puts.map qa1),.slice [],S z.miss,I q.steps])∧h'=h:=by
 refine qaq Tryz.func42 Tryz.ntmps42 rfl (by kernel_rfl) rfl fun E hN hh hu hb hb' hua=>?_;have lm:m<h.length:=(List.getElem?_eq_some_iff.1 hm).1;have lr:ir<h.length:=(List.getElem?_eq_some_iff.1 hir).1;have lp:ip<h.length:=(List.getElem?_eq_some_iff.1 hip).1;have gm:∀ l:qab,(h++l)[m]?=some (.cells (mC C v o io ir ip q)):=fun l=>by rw [List.getElem?_append_left lm];exact hm
 have gr:∀ l:qab,(h++l)[ir]?=some (.arr 9 1 (q.reads.map qa1)):=fun l=>by rw [List.getElem?_append_left lr];exact hir
 have gp:∀ l:qab,(h++l)[ip]?=some (.arr 9 1 (q.puts.map qa1)):=fun l=>by rw [List.getElem?_append_left lp];exact hip
 simp -dsimp [go_sem,hN,gm];refine awp_drawG 6 mixed (by kernel_rfl) ?_;simp -dsimp [go_sem,hN];refine ⟨by simp [sepD,List.zipIdx],?_⟩
 try simp -dsimp [go_sem,hN]
 refine ⟨_,.refl _,h,by simp [go_sem,gr,gp,hr,hp],hwk.app0 _,Nat.le_refl _,hu,?_,rfl⟩;simp [gr,gp,hr,hp]
@[simp] theorem getD_vAV (o:Option V):(Option.map vAV o).getD (.agg [I 0,I 0,S ⟨#[]⟩])=.agg (o.getD V.nil).c:=by cases o<;>rfl
def wrP (own:List (qac×V)) (k:qac):Pr:=⟨k,(qbm own k).getD V.nil⟩
theorem c_machine_finish_ok {h:qab} {m:Nat} (q:MQ) (hm:h[m]?=some (.cells (mC C v o io ir ip q))) (hio:h[io]?=some (.arr 54 3 (q.out.map V.c))) (hir:h[ir]?=some (.arr 9 1 (q.reads.map qa1))) (hip:h[ip]?=some (.arr 9 1 (q.puts.map qa1)))
  (ho:h[o]?=some (.map (kAV vAV q.own))) (hn:q.no=q.out.length) (hr:q.nr=q.reads.length) (hp:q.np=q.puts.length) (hl:q.puts.length+1≤68719476736) :
  ACalls Tryz.prog 42 [.ptr m 0,.agg [I 0,I 0,.slice [],S em],Bo false] h fun r h'=>r=.ret (.agg [I 1,I 0,.slice (q.out.map V.c),.slice (q.reads.map qa1),.slice (q.puts.map qa1),.slice ((q.puts.map (wrP q.own)).map Pr.c),S em,I q.steps])∧h'=h:=by
 obtain ⟨qv,qo,qout,qr,qp,qno,qnr,qnp,qs⟩:=q;simp only at hn hr hp hl;subst hn;subst hr;subst hp;simp only at hio hir hip ho;refine qaq Tryz.func42 Tryz.ntmps42 rfl (by kernel_rfl) rfl fun E hN hh hu hb hb' hua=>?_;have lm:m<h.length:=(List.getElem?_eq_some_iff.1 hm).1;have lo:o<h.length:=(List.getElem?_eq_some_iff.1 ho).1;have lio:io<h.length:=(List.getElem?_eq_some_iff.1 hio).1;have lr:ir<h.length:=(List.getElem?_eq_some_iff.1 hir).1;have lp:ip<h.length:=(List.getElem?_eq_some_iff.1 hip).1;have gm:∀ l:qab,(h++l)[m]?=some (.cells (mC C v o io ir ip ⟨qv,qo,qout,qr,qp,qout.length,qr.length,qp.length,qs⟩)):=fun l=>by rw [List.getElem?_append_left lm];exact hm
 have go:∀ l:qab,(h++l)[o]?=some (.map (kAV vAV qo)):=fun l=>by rw [List.getElem?_append_left lo];exact ho
 have gi:∀ l:qab,(h++l)[io]?=some (.arr 54 3 (qout.map V.c)):=fun l=>by rw [List.getElem?_append_left lio];exact hio
 have gr:∀ l:qab,(h++l)[ir]?=some (.arr 9 1 (qr.map qa1)):=fun l=>by rw [List.getElem?_append_left lr];exact hir
 have gp:∀ l:qab,(h++l)[ip]?=some (.arr 9 1 (qp.map qa1)):=fun l=>by rw [List.getElem?_append_left lp];exact hip
 simp -dsimp [go_sem,hN,gm,gp];refine qao qp.length (fun n=>True) (fun n=>⟨[(0,.ptr m 0),(6,.ptr (h.length+1) 0),(7,.ptr (h.length+2) 0),(25,.slice (qp.map qa1)),(26,I qp.length),(27,I n)],h++[.cells [I 0,I 0,.slice [],S em],.cells [I 0,I 0,.nils,.nils,.nils,.nils,S em,I 0],.cells [I 1,I 0,.own io qout.length,.own ir qr.length,.own ip qp.length,.own (h.length+3) n,S em,I qs],.arr 56 4 (((qp.take n).map (wrP qo)).map Pr.c)]⟩) trivial ((nilc_wk E _ (p:=h.length+2) (j:=5) (t:=56) (sz:=4) (xs:=[I 1,I 0,.own io qout.length,.own ir qr.length,.own ip qp.length,.nils,S em,I qs]) (by simp) rfl).trans ?_) ?_
 ·
  simp;exact (norm_wk E _).trans (Wk.mk (by simp [hh]) (by simp [go_sem]) (by simp [hu,qal hu,go_sem];omega) (by simp [go_sem,gp];omega))
 intro n hn' _;have hw:=qa3 hn' (by omega);simp -dsimp [go_sem,hN];refine cnd ?_ ?_<;>intro hc<;>simp at hc
 ·
  simp -dsimp [go_sem,hN,hc];refine qak 11 mixed (by kernel_rfl) (by kernel_rfl) ?_;simp -dsimp [go_sem,hN,gm,go,hw];refine ⟨by omega,by omega,hc,?_⟩;rw [show (qp.map (Pr.c∘wrP qo)).take (n+1)=(qp.map (Pr.c∘wrP qo)).take n++[Pr.c (wrP qo qp[n])] by rw [List.take_succ_eq_append_getElem (by simpa using hc)];simp];exact Wk.mk (by simp [hh]) (by simp [go_sem,wrP]) (by simp [hu,qal hu,go_sem];omega) (by simp [go_sem];omega)
 ·
  simp -dsimp [go_sem,hN];have hnq:n=qp.length:=by omega
  subst hnq;rw [List.take_of_length_le (by simp)];refine ⟨_,.refl _,h,by simp [go_sem,gi,gr,gp],hwk.app0 _,Nat.le_refl _,hu,?_,rfl⟩;simp [gi,gr,gp]
end Go.Proofs.YtilhejdbiionhaaGreatDoor

set_option maxRecDepth 4000
set_option maxHeartbeats 2000000
namespace Go.Proofs.YtilhejdbiionhaaGreatDoor
open Go Go.Abs Go.Cw
attribute [local go_sem] mC
theorem kAV_vAV_und (n:Nat) (l:List (qac×V)):(AObj.map (kAV vAV l)).under n=true:=kAV_und (f:=vAV) (fun n a=>by simp [AV.under,V.c,qam]) n l
theorem kAV_u2 (n:Nat) (l:List (qac×V)):(∀ (a b:AV),(a,b)∈kAV vAV l→AV.under n a=true∧AV.under n b=true)=True:=by
 refine eq_true fun a b hab=>?_;obtain ⟨s,x,rfl,rfl⟩:=kAV_mem hab;simp [AV.under,V.c,qam]
theorem setArgs_nil (m:List (qac×V)):setArgs [] [] m=m:=rfl
theorem MH_run (st:List Pr) (ft:Foot) (fmt:Int→qac) (h A L:qab) {g:Nat} {tb:AObj} {tV tS:Nat} (hg:h[g]?=some tb) (hu:hUnder h.length h=true) (a l:Nat) (hA:A.length=a) (hL:L.length=l) (uA:hUnder (h.length+(a+l+7)) A=true) (uL:hUnder (h.length+(a+l+7)) L=true) :
  MH (cfgR fmt st ft) tb tV tS g (h.length+(a+3)) (h.length+(a+1)) (h.length+(a+2)) (h.length+(a+l+4)) (h.length+(a+l+5)) (h.length+(a+l+6))
   (fun q=>h++(A++(.cells ft.c::.map (kAV vAV q.vars)::.map (kAV vAV q.own)::.cells (mC (cfgR fmt st ft) (h.length+(a+1)) (h.length+(a+2)) (h.length+(a+l+4)) (h.length+(a+l+5)) (h.length+(a+l+6)) q)::(L++[.arr tV 3 (q.out.map V.c),.uarr tS 1 (q.reads.map qa1),.uarr tS 1 (q.puts.map qa1)])))) (h.length+(a+l+7)):=by
 have hgl:g<h.length:=(List.getElem?_eq_some_iff.1 hg).1;subst hA;subst hL;have e1:∀ (X:qab) (k:Nat),(h++X)[h.length+k]?=X[k]?:=fun X k=>by rw [List.getElem?_append_right (by omega)];congr 1;omega
 have e2:∀ (X:qab) (k:Nat),(A++X)[A.length+k]?=X[k]?:=fun X k=>by rw [List.getElem?_append_right (by omega)];congr 1;omega
 have e3:∀ (X:qab) (k:Nat),(L++X)[L.length+k]?=X[k]?:=fun X k=>by rw [List.getElem?_append_right (by omega)];congr 1;omega
 have s1:∀ (X:qab) (k:Nat) (y:AObj),(h++X).set (h.length+k) y=h++X.set k y:=fun X k y=>by rw [List.set_append_right _ _ (by omega)];congr 2;omega
 have s2:∀ (X:qab) (k:Nat) (y:AObj),(A++X).set (A.length+k) y=A++X.set k y:=fun X k y=>by rw [List.set_append_right _ _ (by omega)];congr 2;omega
 have s3:∀ (X:qab) (k:Nat) (y:AObj),(L++X).set (L.length+k) y=L++X.set k y:=fun X k y=>by rw [List.set_append_right _ _ (by omega)];congr 2;omega
 have e4:∀ (a b c d:AObj) (X:qab) (k:Nat),(a::b::c::d::(L++X))[L.length+4+k]?=X[k]?:=fun a b c d X k=>by
  rw [show L.length+4+k=(L.length+k)+1+1+1+1 by omega];simp only [List.getElem?_cons_succ];exact e3 X k
 have s4:∀ (a b c d y:AObj) (X:qab) (k:Nat),(a::b::c::d::(L++X)).set (L.length+4+k) y=a::b::c::d::(L++X.set k y):=fun a b c d y X k=>by
  rw [show L.length+4+k=(L.length+k)+1+1+1+1 by omega];simp only [List.set_cons_succ];rw [s3]
 have i0:h.length+(A.length+L.length+4)=h.length+(A.length+(L.length+4+0)):=by omega
 have i1:h.length+(A.length+L.length+5)=h.length+(A.length+(L.length+4+1)):=by omega
 have i2:h.length+(A.length+L.length+6)=h.length+(A.length+(L.length+4+2)):=by omega
 constructor
 case lg=>intro q;rw [List.getElem?_append_left hgl];exact hg
 case len=>intro q;simp;omega
 case und =>
  intro q;rw [qan,qas (Nat.le_add_right _ _) hu,qan,uA];simp only [hUnder,kAV_vAV_und,qan,uL,Bool.true_and,Bool.and_true];simp [AObj.under,AV.under,qam,mC,Foot.c];omega
 case lm=>intro q;rw [e1,e2];rfl
 case lv=>intro q;rw [e1,e2];rfl
 case lo=>intro q;rw [e1,e2];rfl
 case lio=>intro q;rw [i0,e1,e2,e4];rfl
 case lir=>intro q;rw [i1,e1,e2,e4];rfl
 case lip=>intro q;rw [i2,e1,e2,e4];rfl
 case sm=>intro q no nr np s;rw [s1,s2];rfl
 case sv=>intro q x;rw [s1,s2];rfl
 case so=>intro q x;rw [s1,s2];rfl
 case sio=>intro q x;simp only [i0,s1,s2,s4];rfl
 case sir=>intro q x;simp only [i1,s1,s2,s4];rfl
 case sip=>intro q x;simp only [i2,s1,s2,s4];rfl
 all_goals omega
variable {C:Cfg} {tT:TypeId} {tx:Nat×Nat} {g m v o io ir ip:Nat} {K:MQ→qab} {n0:Nat}
theorem c_interp_Run1 (hF:C.fmt=qbo) (hC:rngC C) (p:Proc) (hG:∀ x∈p.body,goS x) (Y:MHs C tT tx g m v o io ir ip K n0) (s:MS) (hI:Cw.Inv 0 0 s) {a b:Nat} (ha:∀ q,(K q)[a]?=some (.cells [.ptr m 0])) (hb0:∀ q,(K q)[b]?=some (.cells p.c)) :
  ACalls Tryz.prog 44 [.ptr a 0,.ptr b 0] (K s.q) fun r h'=>r=endU (blkI C p.body s).1∧h'=K (blkI C p.body s).2.q:=by
 refine qaq Tryz.func44 Tryz.ntmps44 rfl (by kernel_rfl) rfl fun E hN hh hu hb hb' hua=>?_;simp -dsimp [go_sem,hN,ha,hb0];refine qaj (qd6 hF hC p.body hG Y s hI) ?_;rintro r h' ⟨rfl,rfl⟩;rcases blkI C p.body s with ⟨z | ⟨⟩,s1⟩<;>simp -dsimp [go_sem,hN,endU]<;>exact ⟨_,.refl _,K s1.q,by simp [go_sem],by first | exact hwk.refl _ | exact hwk.app0 _ | simp [hwk.refl],by simp [Y.len],Y.und' _,by first | rfl | simp,by first | rfl | simp [MS.q]⟩
abbrev effZ:AObj:=.cells [I 0,I 0,.nils,.nils,.nils,.nils,S em,I 0]
def endC:Except Stop Unit→List AV
 | .ok _=>zs
 | .error z=>[I z.status,I z.code,.slice [],S z.miss]
def isE:Except Stop Unit→Bool
 | .ok _=>false
 | .error _=>true
@[simp] theorem norm_endC (H:qab) (x:Except Stop Unit):qbf H (endC x)=endC x:=by cases x<;>rfl
@[simp] theorem under_endC (n:Nat) (x:Except Stop Unit):qam n (endC x)=true:=by cases x<;>rfl
theorem c_run_of {a:AV} {f:FuncId} {caps:List AV} {h h1:qab} {x:Except Stop Unit} (hl:h1.length=h.length) (hu:hUnder h.length h1=true) (hc:∀ H,qbf H caps=caps) (hg:ACalls Tryz.prog f caps (h++[.cells [I 0,I 0,.nils,S em],.cells [Bo false]]) fun r h'=>r=endU x∧h'=h1++[.cells [I 0,I 0,.nils,S em],.cells [Bo false]]) :
  ACalls Tryz.prog 43 [a,.fn (.func f) [] caps] h fun r h'=>r=.ret (.tuple [.agg (endC x),Bo (isE x)])∧h'=h1:=by
 refine c_interp_run a (g:=f) (first:=[]) (caps:=caps) (by rw [List.nil_append,hc];exact hg) ?_ ?_
 ·
  rintro r h' ⟨rfl,rfl⟩ _;have e1:(h1++[AObj.cells [I 0,I 0,.nils,S em],AObj.cells [Bo false]])[h.length]?=some (.cells [I 0,I 0,.nils,S em]):=by rw [← hl];simp
  have e2:(h1++[AObj.cells [I 0,I 0,.nils,S em],AObj.cells [Bo false]])[h.length+1]?=some (.cells [Bo false]):=by rw [← hl];simp
  have e3:(h1++[AObj.cells [I 0,I 0,.nils,S em],AObj.cells [Bo false]]).take h.length=h1:=by rw [← hl];simp
  refine ⟨⟨_,e1,rfl⟩,⟨_,e2⟩,by rw [e3];exact hu,?_⟩;rw [e3];rcases x with z | u
  · exact ⟨rfl,rfl,by simp [qam,AV.under],rfl,rfl⟩
  · exact ⟨rfl,rfl⟩
 ·
  rintro h' st ⟨h1,_⟩ H;rcases x with z | u
  ·
   simp only [endU,stopAV,AEnd.panic.injEq,AV.iface.injEq,AV.agg.injEq,true_and] at h1;subst h1;rfl
  · cases h1
theorem c_machine_finish {h:qab} (x:Except Stop Unit) (s:MS) (hm:h[m]?=some (.cells (mC C v o io ir ip s.q))) (hio:h[io]?=some (.arr 54 3 (s.out.map V.c))) (hir:h[ir]?=some (.arr 9 1 (s.reads.map qa1))) (hip:h[ip]?=some (.arr 9 1 (s.puts.map qa1)))
  (ho:h[o]?=some (.map (kAV vAV s.own))) (hl:s.puts.length+1≤68719476736) :
  ACalls Tryz.prog 42 [.ptr m 0,.agg (endC x),Bo (isE x)] h fun r h'=>r=.ret (.agg (doneS (x,s)).c)∧h'=h:=by
 rcases x with z | u
 · exact c_machine_finish_stop s.q hm hir hip rfl rfl z
 · exact c_machine_finish_ok s.q hm hio hir hip ho rfl rfl rfl hl
theorem c_interp_Run (p:Proc) (args:List V) (st:List Pr) (ft:Foot) (h:qab) (hg:h[g]?=some (tabO tT tx)) (hI:RunIn qbo p args st) :
  ACalls Tryz.prog 14 [.agg p.c,.slice (args.map V.c),.slice (st.map Pr.c),.agg ft.c] h fun r h'=>r=.ret (.agg (runS qbo p args st ft).c)∧h'=h:=by
 refine qaq Tryz.func14 Tryz.ntmps14 rfl (by kernel_rfl) rfl fun E hN hh hu hb hb' hua=>?_;simp [go_sem] at hb;simp -dsimp [go_sem,hN];refine qaa (c_cost_Check p) ?_;simp -dsimp [go_sem,hN];refine qaf (c_types_Args p args) (by simp) ?_;simp -dsimp [go_sem,hN];refine qaf (c_state_Valid st) (by simp) ?_;simp -dsimp [go_sem,hN];refine qaf (c_interp_valid ft.all ft.reads ft.writes) (by simp) ?_;simp -dsimp [go_sem,hN]
 repeat refine ⟨by grind,?_⟩
 refine cnd ?_ ?_<;>intro h0<;>simp at h0
 ·
  have hno:¬ runOk p args st ft:=by rw [runOk_iff];grind
  rw [runS_no hno];simp -dsimp [go_sem,hN];refine qaj (c_interp_wrong _) ?_;rintro r h' ⟨rfl,rfl⟩;simp -dsimp [go_sem,hN];exact ⟨_,.refl _,h,by simp [go_sem],hwk.app0 _,Nat.le_refl _,hu,rfl,rfl⟩
 have hok:runOk p args st ft:=by rw [runOk_iff];grind
 have hok':=(runOk_iff _ _ _ _).1 hok;have hlen:=(argsErr_ok hok'.2.1).1;rw [runS_yes hok];simp -dsimp [go_sem,hN];refine qaj (c_interp_newMachine st ft _) ?_;rintro r h' ⟨rfl,rfl⟩;simp -dsimp [go_sem,hN];have Y:=MH_run (tb:=tabO tT tx) (tV:=54) (tS:=9) st ft qbo h [.cells p.c,.cells ft.c,effZ] [.cells [.ptr (h.length+6) 0]] hg hu 3 1 rfl rfl (by simp [hUnder,AObj.under,AV.under,qam,Proc.c,Foot.c]) (by simp [hUnder,AObj.under,AV.under,qam]);simp only [List.cons_append,List.nil_append,Nat.reduceAdd] at Y;refine qat (α:=List (qac×V)) p.params.length (fun n vs=>setArgs (p.params.drop n) (args.drop n) vs=setArgs p.params args []) (fun n vs=>⟨[(1,.slice (args.map V.c)),(4,.ptr h.length 0),(8,.ptr (h.length+2) 0),(9,.ptr (h.length+7) 0),(36,.slice (p.params.map Param.c)),(37,I p.params.length),(38,I n)],h++[.cells p.c,.cells ft.c,effZ,.cells ft.c,.map (kAV vAV vs),.map (kAV vAV []),.cells (mC (cfgR qbo st ft) (h.length+4) (h.length+5) (h.length+8) (h.length+9) (h.length+10) ⟨vs,[],[],[],[],0,0,0,0⟩),.cells [.ptr (h.length+6) 0],.arr 54 3 [],.uarr 9 1 [],.uarr 9 1 []]⟩) [] (by simp) ?_ ?_
 ·
  refine (nilc_wk E _ (p:=h.length+6) (j:=8) (t:=54) (sz:=3) (xs:=[.slice (st.map Pr.c),Bo ft.all,.slice (ft.reads.map qa1),.slice (ft.writes.map qa1),.mapr (h.length+4),.mapr (h.length+5),I 0,I 0,.nils,.nils,.nils,.nils,S em,I 0]) (by simp) rfl).trans ?_;simp;refine (nilcu_wk E _ (p:=h.length+6) (j:=9) (t:=9) (sz:=1) (xs:=[.slice (st.map Pr.c),Bo ft.all,.slice (ft.reads.map qa1),.slice (ft.writes.map qa1),.mapr (h.length+4),.mapr (h.length+5),I 0,I 0,.own (h.length+8) 0,.nils,.nils,.nils,S em,I 0]) (by simp) rfl).trans ?_;simp;refine (nilcu_wk E _ (p:=h.length+6) (j:=10) (t:=9) (sz:=1) (xs:=[.slice (st.map Pr.c),Bo ft.all,.slice (ft.reads.map qa1),.slice (ft.writes.map qa1),.mapr (h.length+4),.mapr (h.length+5),I 0,I 0,.own (h.length+8) 0,.own (h.length+9) 0,.nils,.nils,S em,I 0]) (by simp) rfl).trans ?_;simp [kAV,qbv];exact wkA
 intro n vs hn hI2;have hw:=qa3 hn hb.1.2.1.1;simp -dsimp [go_sem,hN];refine cnd ?_ ?_<;>intro hc<;>simp at hc
 ·
  have hc2:n<args.length:=by omega
  simp -dsimp [go_sem,hN,hc];refine qak 10 mixed (by kernel_rfl) (by kernel_rfl) ?_;simp -dsimp [go_sem,hN,hc,hc2,hw];refine ⟨qbz vs p.params[n].name args[n],?_,Wk.mk (by simp [hh]) (by simp [go_sem]) (by simp [hu,qal hu,go_sem,kAV_u2]) (by simp [go_sem])⟩;rw [qae hc,qae hc2,setArgs] at hI2;exact hI2
 ·
  rw [List.drop_eq_nil_of_le hc,List.drop_eq_nil_of_le (by omega),setArgs_nil] at hI2;subst hI2;obtain ⟨x,s1,hB⟩:∃ x s1,blkI (cfgR qbo st ft) p.body (ms0 p args)=(x,s1):=⟨_,_,rfl⟩
  have hd:=(dl_blk (C:=cfgR qbo st ft) (fun q hq=>hI.st q hq) p.body 1 (ms0 p args) (cost_okL hok'.1) (cost_goS hok'.1 hI.body) (inv0 hI)).pu;rw [hB] at hd;have hnl:=cost_nL hok'.1;have hlim:=cost_lim hok'.1;simp only [List.length_nil,Nat.zero_add] at hd;have Y2:=Y.ext [.cells [I 0,I 0,.nils,S em],.cells [Bo false]] (by simp [hUnder,AObj.under,AV.under,qam]);have hr:=c_interp_Run1 (C:=cfgR qbo st ft) rfl (fun q hq=>hI.st q hq) p (cost_goS hok'.1 hI.body) Y2 (ms0 p args) (inv0 hI) (a:=h.length+7) (b:=h.length) (by intro q;simp) (by intro q;simp);rw [hB] at hr;have hrun:=c_run_of (a:=.ptr (h.length+6) 0) (by simp) (by simp [qan,hu,qas,qal hu,go_sem,kAV_u2,MS.q]) (fun H=>by simp [qbf,AV.norm]) hr;simp -dsimp [go_sem,hN];refine qea 6 3 [0] mixed (by kernel_rfl) ?_;simp -dsimp [go_sem,hN];refine qdr hrun ?_;simp -dsimp [go_sem,hN];obtain ⟨Hd,hHd⟩:∃ Hd:AObj→AObj→qab,∀ u1 u2,Hd u1 u2=h++[.cells p.c,.cells ft.c,effZ,.cells ft.c,.map (kAV vAV s1.vars),.map (kAV vAV s1.own),.cells (mC (cfgR qbo st ft) (h.length+4) (h.length+5) (h.length+8) (h.length+9) (h.length+10) s1.q),.cells [.ptr (h.length+6) 0],.arr 54 3 (s1.out.map V.c),u1,u2]:=⟨fun u1 u2=>_,fun _ _=>rfl⟩
  have hw2:∀ E,Wk E ⟨[],Hd (.uarr 9 1 (s1.reads.map qa1)) (.uarr 9 1 (s1.puts.map qa1))⟩ ⟨[],Hd (.arr 9 1 (s1.reads.map qa1)) (.arr 9 1 (s1.puts.map qa1))⟩:=fun E=>by
   have d1:=qd5 E ⟨[],Hd (.uarr 9 1 (s1.reads.map qa1)) (.uarr 9 1 (s1.puts.map qa1))⟩ (i:=h.length+9) (t:=9) (sz:=1) (rows:=s1.reads.map qa1) (by simp [hHd]);have d2:=qd5 E ⟨[],Hd (.arr 9 1 (s1.reads.map qa1)) (.uarr 9 1 (s1.puts.map qa1))⟩ (i:=h.length+10) (t:=9) (sz:=1) (rows:=s1.puts.map qa1) (by simp [hHd]);refine d1.trans ?_;have e1:(Hd (.uarr 9 1 (s1.reads.map qa1)) (.uarr 9 1 (s1.puts.map qa1))).set (h.length+9) (.arr 9 1 (s1.reads.map qa1))=Hd (.arr 9 1 (s1.reads.map qa1)) (.uarr 9 1 (s1.puts.map qa1)):=by simp [hHd]
   have e2:(Hd (.arr 9 1 (s1.reads.map qa1)) (.uarr 9 1 (s1.puts.map qa1))).set (h.length+10) (.arr 9 1 (s1.puts.map qa1))=Hd (.arr 9 1 (s1.reads.map qa1)) (.arr 9 1 (s1.puts.map qa1)):=by simp [hHd]
   rw [e2] at d2;rw [e1];exact d2
  have hfin:=c_machine_finish (C:=cfgR qbo st ft) (m:=h.length+6) (v:=h.length+4) (o:=h.length+5) (io:=h.length+8) (ir:=h.length+9) (ip:=h.length+10) (h:=Hd (.arr 9 1 (s1.reads.map qa1)) (.arr 9 1 (s1.puts.map qa1))) x s1 (by simp [hHd]) (by simp [hHd]) (by simp [hHd]) (by simp [hHd]) (by simp [hHd]) (by omega);have hfin2:=acalls_wk hw2 hfin;rw [hHd,hHd] at hfin2;refine qaj hfin2 ?_;rintro r h' ⟨rfl,rfl⟩;simp -dsimp [go_sem,hN];rw [hB];exact ⟨_,.refl _,h,by simp [go_sem],hwk.app0 _,Nat.le_refl _,hu,rfl,rfl⟩
theorem c_interp_Free (p:Proc) (args:List V) (st:List Pr) (h:qab) (hg:h[g]?=some (tabO tT tx)) (hI:RunIn qbo p args st) :
  ACalls Tryz.prog 16 [.agg p.c,.slice (args.map V.c),.slice (st.map Pr.c)] h fun r h'=>r=.ret (.agg (runS qbo p args st ⟨true,[],[]⟩).c)∧h'=h:=by
 refine qaq Tryz.func16 Tryz.ntmps16 rfl (by kernel_rfl) rfl fun E hN hh hu hb hb' hua=>?_;have hgl:g<h.length:=(List.getElem?_eq_some_iff.1 hg).1;simp -dsimp [go_sem,hN];refine qaj (c_interp_Run p args st ⟨true,[],[]⟩ _ (g:=g) (tT:=tT) (tx:=tx) (by rw [List.getElem?_append_left hgl];exact hg) hI) ?_;rintro r h' ⟨rfl,rfl⟩;simp -dsimp [go_sem,hN];exact ⟨_,.refl _,h,by simp [go_sem],hwk.app0 _,Nat.le_refl _,hu,rfl,rfl⟩
end Go.Proofs.YtilhejdbiionhaaGreatDoor

set_option maxRecDepth 4000
set_option maxHeartbeats 4000000
namespace Go.Proofs.YtilhejdbiionhaaGreatDoor
open Go Go.Abs Go.Cw
attribute [local go_sem] mC
variable {C:Cfg} {tT:TypeId} {tx:Nat×Nat} {g m v o io ir ip:Nat} {K:MQ→qab} {n0:Nat}
def endX (x:EV):Except Stop Unit:=match x with | .ok _=>.ok () | .error z=>.error z
def setX (h:qab) (d:Nat) (x:EV):qab:=match x with | .ok v=>h.set d (.cells v.c) | .error _=>h
theorem c_interp_Eval1 (hF:C.fmt=qbo) (hC:rngC C) (e:Ex) (hX:rngX e) (Y:MHs C tT tx g m v o io ir ip K n0) (s:MS) (hM:rngM s) (ha0:ascS s.reads) (hl:s.reads.length+nodes e≤1000000000) {a b d:Nat} (ha:∀ q,(K q)[a]?=some (.cells [.ptr m 0])) (hb0:∀ q,(K q)[b]?=some (.cells e.x)) (hd:∀ q,(K q)[d]?=some (.cells [I 0,I 0,S em])) :
  ACalls Tryz.prog 250 [.ptr a 0,.ptr b 0,.ptr d 0] (K s.q) fun r h'=>r=endU (endX (evE C e s).1)∧h'=setX (K (evE C e s).2.q) d (evE C e s).1:=by
 refine qaq Tryz.func250 Tryz.ntmps250 rfl (by kernel_rfl) rfl fun E hN hh hu hb hb' hua=>?_;simp -dsimp [go_sem,hN,ha,hb0];refine qaj (qbp hF hC Y s e hX hM ha0 hl) ?_;rintro r h' ⟨rfl,rfl⟩;rcases evE C e s with ⟨z | w,s1⟩
 ·
  simp -dsimp [go_sem,hN,endV,endX,setX,endU];exact ⟨_,.refl _,K s1.q,by simp [go_sem],by first | exact hwk.refl _ | exact hwk.app0 _ | simp [hwk.refl],by simp [Y.len],Y.und' _,by first | rfl | simp,by first | rfl | simp [MS.q]⟩
 ·
  simp -dsimp [go_sem,hN,endV,endX,setX,endU,hd];have hdl:d<(K s1.q).length:=(List.getElem?_eq_some_iff.1 (hd s1.q)).1;exact ⟨_,.refl _,(K s1.q).set d (.cells [I w.k,I w.n,S w.s]),by simp [go_sem],by simp [hwk.refl],by simp [Y.len],by simpa using qcc (Y.und' _) (by simp [AObj.under,AV.under,qam]),rfl,rfl⟩
theorem c_interp_Eval (e:Ex) (vars st:List Pr) (ft:Foot) (h:qab) (hg:h[g]?=some (tabO tT tx)) (hI:EvIn qbo e vars st) :
  ACalls Tryz.prog 203 [.agg e.x,.slice (vars.map Pr.c),.slice (st.map Pr.c),.agg ft.c] h fun r h'=>r=.ret (.tuple [.agg (evalS qbo e vars st ft).1.c,.agg (evalS qbo e vars st ft).2.c])∧h'=h:=by
 refine qaq Tryz.func203 Tryz.ntmps203 rfl (by kernel_rfl) rfl fun E hN hh hu hb hb' hua=>?_;simp [go_sem] at hb;simp -dsimp [go_sem,hN];refine qaa (qd9 e) ?_;simp -dsimp [go_sem,hN];refine qaf (c_state_Valid st) (by simp) ?_;simp -dsimp [go_sem,hN];refine qaf (c_interp_valid ft.all ft.reads ft.writes) (by simp) ?_;simp -dsimp [go_sem,hN]
 repeat refine ⟨by grind,?_⟩
 refine cnd ?_ ?_<;>intro h0<;>simp at h0
 ·
  have hno:¬ evOk e st ft:=by rw [evOk_iff];grind
  have e1:evalS qbo e vars st ft=(V.nil,wrongE):=by unfold evalS;rw [if_neg (fun g=>hno g.1)]
  rw [e1];simp -dsimp [go_sem,hN];refine qaj (c_interp_wrong _) ?_;rintro r h' ⟨rfl,rfl⟩;simp -dsimp [go_sem,hN,V.nil];exact ⟨_,.refl _,h,by simp [go_sem],hwk.app0 _,Nat.le_refl _,hu,rfl,rfl⟩
 have hok:evOk e st ft:=by rw [evOk_iff];grind
 have hok':=evOk_iff.1 hok;simp -dsimp [go_sem,hN];refine qaj (c_interp_newMachine st ft _) ?_;rintro r h' ⟨rfl,rfl⟩;simp -dsimp [go_sem,hN];have Y:=MH_run (tb:=tabO tT tx) (tV:=54) (tS:=9) st ft qbo h [.cells e.x,.cells ft.c,.cells [I 0,I 0,S em],effZ] [.cells [.ptr (h.length+7) 0],.cells [I 0,I 0,S em]] hg hu 4 2 rfl rfl (by simp [hUnder,AObj.under,AV.under,qam,Foot.c,Ex.x]) (by simp [hUnder,AObj.under,AV.under,qam]);simp only [List.cons_append,List.nil_append,Nat.reduceAdd] at Y;refine qat (α:=List (qac×V)) vars.length (fun n vs=>firstV (vars.drop n) vs=firstV vars []∧varsOk (vars.drop n)=varsOk vars) (fun n vs=>⟨[(4,P0 h.length),(8,P0 (h.length+2)),(9,P0 (h.length+3)),(10,P0 (h.length+8)),(36,.slice (vars.map Pr.c)),(37,I vars.length),(38,I n)],h++[.cells e.x,.cells ft.c,.cells [I 0,I 0,S em],effZ,.cells ft.c,.map (kAV vAV vs),.map (kAV vAV []),.cells [.slice (st.map Pr.c),Bo ft.all,.slice (ft.reads.map qa1),.slice (ft.writes.map qa1),.mapr (h.length+5),.mapr (h.length+6),I 0,I 0,.nils,.nils,.nils,.nils,S em,I 0],.cells [.ptr (h.length+7) 0]]⟩) [] (by simp) ?_ ?_
 ·
  simp [kAV,qbv];exact wkA
 rintro n vs hn ⟨hI2,hI3⟩;have hw:=qa3 hn (show _≤68719476736 by first | exact hb.2.1.1 | exact hb.2.1 | omega);simp -dsimp [go_sem,hN];refine cnd ?_ ?_<;>intro hc<;>simp at hc
 ·
  rw [qae hc] at hI2 hI3;rw [firstV] at hI2;have e3:varsOk (vars[n]::vars.drop (n+1))=(varOk vars[n].v.k vars[n].v.n vars[n].v.s&&varsOk (vars.drop (n+1))):=rfl;rw [e3] at hI3;simp -dsimp [go_sem,hN,hc];refine qaa (c_interp_variable _ _ _) ?_;simp -dsimp [go_sem,hN];refine cnd ?_ ?_<;>intro h1<;>simp at h1
  ·
   have e1:evalS qbo e vars st ft=(V.nil,wrongE):=by unfold evalS;rw [if_neg (fun g=>by rw [← hI3,h1] at g;simp at g)]
   rw [e1];simp -dsimp [go_sem,hN];refine qaj (c_interp_wrong _) ?_;rintro r h' ⟨rfl,rfl⟩;simp -dsimp [go_sem,hN,V.nil];exact ⟨_,.refl _,h,by simp [go_sem],hwk.app0 _,Nat.le_refl _,hu,rfl,rfl⟩
  simp -dsimp [go_sem,hN];refine awp_drawG 12 mixed (by kernel_rfl) ?_;rcases hk:qbm vs vars[n].key with _ | w
  ·
   rw [hk] at hI2;simp only [Option.isSome_none,Bool.false_eq_true,if_false] at hI2;simp -dsimp [go_sem,hN,hk];refine ⟨by simp [sepD,List.zipIdx],?_⟩;refine qak 8 mixed (by kernel_rfl) (by kernel_rfl) ?_;simp -dsimp [go_sem,hN,hw];exact ⟨hc,qbz vs vars[n].key vars[n].v,⟨hI2,by rw [← hI3];simp [h1]⟩,(Wk.mk (by simp [hh]) (by simp [go_sem]) (by simp [hu,qal hu,go_sem,kAV_u2]) (by simp [go_sem]))⟩
  ·
   rw [hk] at hI2;simp only [Option.isSome_some,if_true] at hI2;simp -dsimp [go_sem,hN,hk];refine ⟨by simp [sepD,List.zipIdx],?_⟩;simp -dsimp [go_sem,hN,hw];exact ⟨hc,vs,⟨hI2,by rw [← hI3];simp [h1]⟩,(Wk.mk (by simp [hh]) (by simp [go_sem]) (by simp [hu,qal hu,go_sem,kAV_u2]) (by simp [go_sem]))⟩
 ·
  rw [List.drop_eq_nil_of_le (by omega),firstV] at hI2;subst hI2;obtain ⟨x,s1,hB⟩:∃ x s1,evE (cfgR qbo st ft) e (msV vars)=(x,s1):=⟨_,_,rfl⟩
  have hvo:varsOk vars=true:=by rw [← hI3,List.drop_eq_nil_of_le (by omega)];rfl
  have e1:evalS qbo e vars st ft=endS (x,s1):=by unfold evalS;rw [if_pos ⟨hok,hvo⟩,hB]
  rw [e1];have hC:rngC (cfgR qbo st ft):=fun q hq=>hI.st q hq;have hM:rngM (msV vars):=⟨firstV_all (P:=rngV) vars [] hI.vars (by simp),by simp⟩
  have hnd:=chkE_nodes e 1 12 hok'.1 (by omega);have Y2:=Y.ext [.cells [I 0,I 0,.nils,S em],.cells [Bo false]] (by simp [hUnder,AObj.under,AV.under,qam]);have hr:=c_interp_Eval1 (C:=cfgR qbo st ft) rfl hC e hI.ex Y2 (msV vars) hM (by simp [ascS]) (by simp;omega) (a:=h.length+8) (b:=h.length) (d:=h.length+9) (by intro q;simp) (by intro q;simp) (by intro q;simp);rw [hB] at hr;have hpz:s1.puts=[]:=by
   have:=(evE_ok hC e (msV vars) hI.ex hM (by simp [ascS])).1.puts;rw [hB] at this;exact this
  obtain ⟨Hd,hHd⟩:∃ Hd:List AV→AObj→AObj→qab→qab,∀ vc u1 u2 L,Hd vc u1 u2 L=h++(.cells e.x::.cells ft.c::.cells [I 0,I 0,S em]::effZ::.cells ft.c::.map (kAV vAV s1.vars)::.map (kAV vAV s1.own)::.cells (mC (cfgR qbo st ft) (h.length+5) (h.length+6) (h.length+10) (h.length+11) (h.length+12) s1.q)::.cells [.ptr (h.length+7) 0]::.cells vc::.arr 54 3 (s1.out.map V.c)::u1::u2::L):=⟨fun vc u1 u2 L=>_,fun _ _ _ _=>rfl⟩
  have hw2:∀ t vc L E,Wk E ⟨t,Hd vc (.uarr 9 1 (s1.reads.map qa1)) (.uarr 9 1 (s1.puts.map qa1)) L⟩ ⟨t,Hd vc (.arr 9 1 (s1.reads.map qa1)) (.arr 9 1 (s1.puts.map qa1)) L⟩:=fun t vc L E=>by
   have d1:=qd5 E ⟨t,Hd vc (.uarr 9 1 (s1.reads.map qa1)) (.uarr 9 1 (s1.puts.map qa1)) L⟩ (i:=h.length+11) (t:=9) (sz:=1) (rows:=s1.reads.map qa1) (by simp [hHd]);have d2:=qd5 E ⟨t,Hd vc (.arr 9 1 (s1.reads.map qa1)) (.uarr 9 1 (s1.puts.map qa1)) L⟩ (i:=h.length+12) (t:=9) (sz:=1) (rows:=s1.puts.map qa1) (by simp [hHd]);refine d1.trans ?_;have e1:(Hd vc (.uarr 9 1 (s1.reads.map qa1)) (.uarr 9 1 (s1.puts.map qa1)) L).set (h.length+11) (.arr 9 1 (s1.reads.map qa1))=Hd vc (.arr 9 1 (s1.reads.map qa1)) (.uarr 9 1 (s1.puts.map qa1)) L:=by simp [hHd]
   have e2:(Hd vc (.arr 9 1 (s1.reads.map qa1)) (.uarr 9 1 (s1.puts.map qa1)) L).set (h.length+12) (.arr 9 1 (s1.puts.map qa1))=Hd vc (.arr 9 1 (s1.reads.map qa1)) (.arr 9 1 (s1.puts.map qa1)) L:=by simp [hHd]
   rw [e2] at d2;rw [e1];exact d2
  have hw0:∀ E:Ent,Wk E ⟨[],h++[.cells e.x,.cells ft.c,.cells [I 0,I 0,S em],effZ,.cells ft.c,.map (kAV vAV (firstV vars [])),.map (kAV vAV []),.cells [.slice (st.map Pr.c),Bo ft.all,.slice (ft.reads.map qa1),.slice (ft.writes.map qa1),.mapr (h.length+5),.mapr (h.length+6),I 0,I 0,.nils,.nils,.nils,.nils,S em,I 0],.cells [.ptr (h.length+7) 0],.cells [I 0,I 0,S em]]⟩
    ⟨[],h++[.cells e.x,.cells ft.c,.cells [I 0,I 0,S em],effZ,.cells ft.c,.map (kAV vAV (firstV vars [])),.map (kAV vAV []),.cells (mC (cfgR qbo st ft) (h.length+5) (h.length+6) (h.length+10) (h.length+11) (h.length+12) ⟨firstV vars [],[],[],[],[],0,0,0,0⟩),.cells [.ptr (h.length+7) 0],.cells [I 0,I 0,S em],.arr 54 3 [],.uarr 9 1 [],.uarr 9 1 []]⟩:=fun E=>by
   refine (nilc_wk E _ (p:=h.length+7) (j:=8) (t:=54) (sz:=3) (xs:=[.slice (st.map Pr.c),Bo ft.all,.slice (ft.reads.map qa1),.slice (ft.writes.map qa1),.mapr (h.length+5),.mapr (h.length+6),I 0,I 0,.nils,.nils,.nils,.nils,S em,I 0]) (by simp) rfl).trans ?_;simp;refine (nilcu_wk E _ (p:=h.length+7) (j:=9) (t:=9) (sz:=1) (xs:=[.slice (st.map Pr.c),Bo ft.all,.slice (ft.reads.map qa1),.slice (ft.writes.map qa1),.mapr (h.length+5),.mapr (h.length+6),I 0,I 0,.own (h.length+10) 0,.nils,.nils,.nils,S em,I 0]) (by simp) rfl).trans ?_;simp;refine (nilcu_wk E _ (p:=h.length+7) (j:=10) (t:=9) (sz:=1) (xs:=[.slice (st.map Pr.c),Bo ft.all,.slice (ft.reads.map qa1),.slice (ft.writes.map qa1),.mapr (h.length+5),.mapr (h.length+6),I 0,I 0,.own (h.length+10) 0,.own (h.length+11) 0,.nils,.nils,S em,I 0]) (by simp) rfl).trans ?_;simp;exact .refl _ _
  have hus:∀ vc,(∀ n,qam n vc=true)→hUnder (Hd vc (.uarr 9 1 (s1.reads.map qa1)) (.uarr 9 1 (s1.puts.map qa1)) []).length (Hd vc (.uarr 9 1 (s1.reads.map qa1)) (.uarr 9 1 (s1.puts.map qa1)) [])=true:=fun vc hvc=>by
   rw [hHd];simp [qan,hu,qas,qal hu,go_sem,kAV_u2,MS.q,hvc]
  rcases x with z | v
  ·
   have hr2:ACalls Tryz.prog 250 [.ptr (h.length+8) 0,.ptr h.length 0,.ptr (h.length+9) 0] ((h++[.cells e.x,.cells ft.c,.cells [I 0,I 0,S em],effZ,.cells ft.c,.map (kAV vAV (firstV vars [])),.map (kAV vAV []),.cells (mC (cfgR qbo st ft) (h.length+5) (h.length+6) (h.length+10) (h.length+11) (h.length+12) ⟨firstV vars [],[],[],[],[],0,0,0,0⟩),.cells [.ptr (h.length+7) 0],.cells [I 0,I 0,S em],.arr 54 3 [],.uarr 9 1 [],.uarr 9 1 []])++[.cells [I 0,I 0,.nils,S em],.cells [Bo false]]) fun r h'=>r=endU (.error z)∧h'=Hd [I 0,I 0,S em] (.uarr 9 1 (s1.reads.map qa1)) (.uarr 9 1 (s1.puts.map qa1)) []++[.cells [I 0,I 0,.nils,S em],.cells [Bo false]]:=by
    rw [hHd];exact hr
   have hrun:=c_run_of (a:=.ptr (h.length+7) 0) (x:=.error z) (by rw [hHd];simp) (by have:=hus [I 0,I 0,S em] (fun n=>by simp [qam,AV.under]);rw [hHd] at this ⊢;simpa using this) (fun H=>by simp [qbf,AV.norm]) hr2;simp -dsimp [go_sem,hN];refine qaj (acalls_wk hw0 hrun) ?_;rintro r h' ⟨rfl,rfl⟩;simp -dsimp [go_sem,hN,endC,isE,hHd];have hfin:=c_machine_finish (C:=cfgR qbo st ft) (m:=h.length+7) (v:=h.length+5) (o:=h.length+6) (io:=h.length+10) (ir:=h.length+11) (ip:=h.length+12) (h:=Hd [I 0,I 0,S em] (.arr 9 1 (s1.reads.map qa1)) (.arr 9 1 (s1.puts.map qa1)) [.cells [I z.status,I z.code,.slice [],S z.miss]]) (.error z) s1 (by simp [hHd]) (by simp [hHd]) (by simp [hHd]) (by simp [hHd]) (by simp [hHd]) (by rw [hpz];simp);have hfin2:=acalls_wk (hw2 _ _ _) hfin;rw [hHd,hHd] at hfin2;refine qaj hfin2 ?_;rintro r h' ⟨rfl,rfl⟩;simp -dsimp [go_sem,hN,endS,V.nil];exact ⟨_,.refl _,h,by simp [go_sem],hwk.app0 _,Nat.le_refl _,hu,rfl,rfl⟩
  ·
   have hr2:ACalls Tryz.prog 250 [.ptr (h.length+8) 0,.ptr h.length 0,.ptr (h.length+9) 0] ((h++[.cells e.x,.cells ft.c,.cells [I 0,I 0,S em],effZ,.cells ft.c,.map (kAV vAV (firstV vars [])),.map (kAV vAV []),.cells (mC (cfgR qbo st ft) (h.length+5) (h.length+6) (h.length+10) (h.length+11) (h.length+12) ⟨firstV vars [],[],[],[],[],0,0,0,0⟩),.cells [.ptr (h.length+7) 0],.cells [I 0,I 0,S em],.arr 54 3 [],.uarr 9 1 [],.uarr 9 1 []])++[.cells [I 0,I 0,.nils,S em],.cells [Bo false]]) fun r h'=>r=endU (.ok ())∧h'=Hd v.c (.uarr 9 1 (s1.reads.map qa1)) (.uarr 9 1 (s1.puts.map qa1)) []++[.cells [I 0,I 0,.nils,S em],.cells [Bo false]]:=by
    refine ACalls.mono hr ?_;rintro r h' ⟨rfl,rfl⟩;refine ⟨rfl,?_⟩;rw [hHd];simp [setX,MS.q]
   have hrun:=c_run_of (a:=.ptr (h.length+7) 0) (x:=.ok ()) (by rw [hHd];simp) (by have:=hus v.c (fun n=>by simp [qam,AV.under,V.c]);rw [hHd] at this ⊢;simpa using this) (fun H=>by simp [qbf,AV.norm]) hr2;simp -dsimp [go_sem,hN];refine qaj (acalls_wk hw0 hrun) ?_;rintro r h' ⟨rfl,rfl⟩;simp -dsimp [go_sem,hN,endC,isE,hHd];refine ⟨rfl,by simp [zs],?_⟩;have hfin:=c_machine_finish (C:=cfgR qbo st ft) (m:=h.length+7) (v:=h.length+5) (o:=h.length+6) (io:=h.length+10) (ir:=h.length+11) (ip:=h.length+12) (h:=Hd v.c (.arr 9 1 (s1.reads.map qa1)) (.arr 9 1 (s1.puts.map qa1)) [.cells [I 0,I 0,.slice [],S em]]) (.ok ()) s1 (by simp [hHd]) (by simp [hHd]) (by simp [hHd]) (by simp [hHd]) (by simp [hHd]) (by rw [hpz];simp);rw [hHd] at hfin;have hwz:=hw2 [(75,Bo false),(17,Bo false),(16,.ptr (h.length+13) 0),(15,.ptr (h.length+9) 0),(8,P0 (h.length+2)),(9,P0 (h.length+3)),(10,P0 (h.length+8))] v.c [.cells [I 0,I 0,.slice [],S em]] E;rw [hHd,hHd] at hwz;refine AWp.wk (Wk.trans (Wk.mk (by simp [hh]) (by simp [go_sem,zs,MS.q]) (by simp [hu,qal hu,go_sem,kAV_u2,zs,MS.q]) (by simp [go_sem])) hwz) ?_;refine qea 5 4 [0] mixed (by kernel_rfl) ?_;simp -dsimp [go_sem,hN];refine qdr hfin ?_;simp -dsimp [go_sem,hN];exact ⟨_,.refl _,h,by simp [go_sem],hwk.app0 _,Nat.le_refl _,hu,rfl,rfl⟩
end Go.Proofs.YtilhejdbiionhaaGreatDoor
