/- Part 39 of a proof: W30, W47, W31, W134 -/
import Derived.Shelf.Small.Strs
import Derived.Shelf.Strconv.Itoa4
import Derived.Lib.ItoaLen
import Derived.Test.YtilhejdbiionhaaGreatDoorR13
import Derived.Test.YtilhejdbiionhaaGreatDoorR14
import Derived.Test.YtilhejdbiionhaaGreatDoorR16
import Derived.Test.YtilhejdbiionhaaGreatDoorR17
import Derived.Test.YtilhejdbiionhaaGreatDoorR18
import Derived.Test.YtilhejdbiionhaaGreatDoorR21
import Derived.Test.YtilhejdbiionhaaGreatDoorR22
import Derived.Test.YtilhejdbiionhaaGreatDoorR23
import Derived.Test.YtilhejdbiionhaaGreatDoorR24
import Derived.Test.YtilhejdbiionhaaGreatDoorR27
import Derived.Test.YtilhejdbiionhaaGreatDoorR28
import Derived.Test.YtilhejdbiionhaaGreatDoorR31
import Derived.Test.YtilhejdbiionhaaGreatDoorR32
import Derived.Test.YtilhejdbiionhaaGreatDoorR36
import Derived.Test.YtilhejdbiionhaaGreatDoorR37
import Derived.Test.YtilhejdbiionhaaGreatDoorR38
set_option linter.all false

set_option maxRecDepth 4000
set_option maxHeartbeats 2000000
namespace Go.Proofs.YtilhejdbiionhaaGreatDoor
open Go Go.Abs Go.Cw
attribute [local go_sem] mC
theorem kAV_vAV_und(n:Nat)(l:List (qac×V)):(AObj.map (kAV vAV l)).under n=true:=kAV_und (f:=vAV) (fun n a=>by simp[AV.under,V.c,qao]) n l
theorem kAV_u2(n:Nat)(l:List (qac×V)):(∀(a b:AV),(a,b)∈kAV vAV l→AV.under n a=true∧AV.under n b=true)=True:=by
 refine eq_true fun a b hab=>?_;obtain⟨s,x,rfl,rfl⟩:=kAV_mem hab;simp[AV.under,V.c,qao]
theorem setArgs_nil(m:List (qac×V)):qdp [] [] m=m:=rfl
theorem MH_run(st:List Pr)(ft:Foot)(fmt:Int→qac)(h A L:qab){g:Nat}{tb:AObj}{tV tS:Nat}(hg:h[g]?=some tb)(hu:hUnder h.length h=true)(a l:Nat)(hA:A.length=a)(hL:L.length=l)(uA:hUnder (h.length+(a+l+7)) A=true)(uL:hUnder (h.length+(a+l+7)) L=true) :
  MH (cfgR fmt st ft) tb tV tS g (h.length+(a+3)) (h.length+(a+1)) (h.length+(a+2)) (h.length+(a+l+4)) (h.length+(a+l+5)) (h.length+(a+l+6))
   (fun q=>h++(A++(.cells ft.c::.map (kAV vAV q.vars)::.map (kAV vAV q.own)::.cells (mC (cfgR fmt st ft) (h.length+(a+1)) (h.length+(a+2)) (h.length+(a+l+4)) (h.length+(a+l+5)) (h.length+(a+l+6)) q)::(L++[.arr tV 3 (q.out.map V.c),.uarr tS 1 (q.reads.map qa1),.uarr tS 1 (q.puts.map qa1)])))) (h.length+(a+l+7)):=by
 have hgl:g<h.length:=(List.getElem?_eq_some_iff.1 hg).1;subst hA;subst hL;have e1:∀(X:qab) (k:Nat),(h++X)[h.length+k]?=X[k]?:=fun X k=>by rw[List.getElem?_append_right (by omega)];congr 1;omega
 have e2:∀(X:qab) (k:Nat),(A++X)[A.length+k]?=X[k]?:=fun X k=>by rw[List.getElem?_append_right (by omega)];congr 1;omega
 have e3:∀(X:qab) (k:Nat),(L++X)[L.length+k]?=X[k]?:=fun X k=>by rw[List.getElem?_append_right (by omega)];congr 1;omega
 have s1:∀(X:qab) (k:Nat) (y:AObj),(h++X).set (h.length+k) y=h++X.set k y:=fun X k y=>by rw[List.set_append_right _ _ (by omega)];congr 2;omega
 have s2:∀(X:qab) (k:Nat) (y:AObj),(A++X).set (A.length+k) y=A++X.set k y:=fun X k y=>by rw[List.set_append_right _ _ (by omega)];congr 2;omega
 have s3:∀(X:qab) (k:Nat) (y:AObj),(L++X).set (L.length+k) y=L++X.set k y:=fun X k y=>by rw[List.set_append_right _ _ (by omega)];congr 2;omega
 have e4:∀(a b c d:AObj) (X:qab) (k:Nat),(a::b::c::d::(L++X))[L.length+4+k]?=X[k]?:=fun a b c d X k=>by
  rw[show L.length+4+k=(L.length+k)+1+1+1+1 by omega];simp only[List.getElem?_cons_succ];exact e3 X k
 have s4:∀(a b c d y:AObj) (X:qab) (k:Nat),(a::b::c::d::(L++X)).set (L.length+4+k) y=a::b::c::d::(L++X.set k y):=fun a b c d y X k=>by
  rw[show L.length+4+k=(L.length+k)+1+1+1+1 by omega];simp only[List.set_cons_succ];rw[s3]
 have i0:h.length+(A.length+L.length+4)=h.length+(A.length+(L.length+4+0)):=by omega
 have i1:h.length+(A.length+L.length+5)=h.length+(A.length+(L.length+4+1)):=by omega
 have i2:h.length+(A.length+L.length+6)=h.length+(A.length+(L.length+4+2)):=by omega
 constructor
 case lg=>intro q;rw[List.getElem?_append_left hgl];exact hg
 case len=>intro q;simp;omega
 case und =>
  intro q;rw[qar,qau (Nat.le_add_right _ _) hu,qar,uA];simp only[hUnder,kAV_vAV_und,qar,uL,Bool.true_and,Bool.and_true];simp[AObj.under,AV.under,qao,mC,Foot.c];omega
 case lm=>intro q;rw[e1,e2];rfl
 case lv=>intro q;rw[e1,e2];rfl
 case lo=>intro q;rw[e1,e2];rfl
 case lio=>intro q;rw[i0,e1,e2,e4];rfl
 case lir=>intro q;rw[i1,e1,e2,e4];rfl
 case lip=>intro q;rw[i2,e1,e2,e4];rfl
 case sm=>intro q no nr np s;rw[s1,s2];rfl
 case sv=>intro q x;rw[s1,s2];rfl
 case so=>intro q x;rw[s1,s2];rfl
 case sio=>intro q x;simp only[i0,s1,s2,s4];rfl
 case sir=>intro q x;simp only[i1,s1,s2,s4];rfl
 case sip=>intro q x;simp only[i2,s1,s2,s4];rfl
 all_goals omega
variable {C:Cfg} {tT:TypeId} {tx:Nat×Nat} {g m v o io ir ip:Nat} {K:MQ→qab} {n0:Nat}
theorem c_interp_Run1(hF:C.fmt=qbc)(hC:rngC C)(p:Proc)(hG:∀x∈p.body,goS x)(Y:MHs C tT tx g m v o io ir ip K n0)(s:MS)(hI:Cw.Inv 0 0 s){a b:Nat}(ha:∀q,(K q)[a]?=some (.cells [.ptr m 0]))(hb0:∀q,(K q)[b]?=some (.cells p.c)) :
  ACalls Tryz.prog 44 [.ptr a 0,.ptr b 0] (K s.q) fun r h'=>r=endU (blkI C p.body s).1∧h'=K (blkI C p.body s).2.q:=by
 refine qaz Tryz.func44 Tryz.ntmps44 rfl (by kernel_rfl) rfl fun E hN hh hu hb hb' hua=>?_;simp-dsimp[go_sem,hN,ha,hb0];refine qaj (qeh hF hC p.body hG Y s hI) ?_;rintro r h' ⟨rfl,rfl⟩;rcases blkI C p.body s with⟨z|⟨⟩,s1⟩<;>simp-dsimp[go_sem,hN,endU]<;>exact⟨_,.refl _,K s1.q,by simp[go_sem],by first|exact hwk.refl _|exact hwk.app0 _|simp[hwk.refl],by simp[Y.len],Y.und' _,by first|rfl|simp,by first|rfl|simp[MS.q]⟩
abbrev effZ:AObj:=.cells [I 0,I 0,.nils,.nils,.nils,.nils,S em,I 0]
def endC:Except Stop Unit→List AV
 | .ok _=>zs
 | .error z=>[I z.status,I z.code,.slice [],S z.miss]
def isE:Except Stop Unit→Bool
 | .ok _=>false
 | .error _=>true
@[simp] theorem norm_endC(H:qab)(x:Except Stop Unit):qbi H (endC x)=endC x:=by cases x<;>rfl
@[simp] theorem under_endC(n:Nat)(x:Except Stop Unit):qao n (endC x)=true:=by cases x<;>rfl
theorem c_run_of{a:AV}{f:FuncId}{caps:List AV}{h h1:qab}{x:Except Stop Unit}(hl:h1.length=h.length)(hu:hUnder h.length h1=true)(hc:∀H,qbi H caps=caps)(hg:ACalls Tryz.prog f caps (h++[.cells [I 0,I 0,.nils,S em],.cells [Bo false]]) fun r h'=>r=endU x∧h'=h1++[.cells [I 0,I 0,.nils,S em],.cells [Bo false]]) :
  ACalls Tryz.prog 43 [a,.fn (.func f) [] caps] h fun r h'=>r=.ret (.tuple [.agg (endC x),Bo (isE x)])∧h'=h1:=by
 refine c_interp_run a (g:=f) (first:=[]) (caps:=caps) (by rw[List.nil_append,hc];exact hg) ?_ ?_
 ·rintro r h' ⟨rfl,rfl⟩ _;have e1:(h1++[AObj.cells [I 0,I 0,.nils,S em],AObj.cells [Bo false]])[h.length]?=some (.cells [I 0,I 0,.nils,S em]):=by rw[←hl];simp
  have e2:(h1++[AObj.cells [I 0,I 0,.nils,S em],AObj.cells [Bo false]])[h.length+1]?=some (.cells [Bo false]):=by rw[←hl];simp
  have e3:(h1++[AObj.cells [I 0,I 0,.nils,S em],AObj.cells [Bo false]]).take h.length=h1:=by rw[←hl];simp
  refine⟨⟨_,e1,rfl⟩,⟨_,e2⟩,by rw[e3];exact hu,?_⟩;rw[e3];rcases x with z|u
  ·exact⟨rfl,rfl,by simp[qao,AV.under],rfl,rfl⟩
  ·exact⟨rfl,rfl⟩
 ·rintro h' st ⟨h1,_⟩ H;rcases x with z|u
  ·simp only[endU,stopAV,AEnd.panic.injEq,AV.iface.injEq,AV.agg.injEq,true_and]at h1;subst h1;rfl
  ·cases h1
theorem c_machine_finish{h:qab}(x:Except Stop Unit)(s:MS)(hm:h[m]?=some (.cells (mC C v o io ir ip s.q)))(hio:h[io]?=some (.arr 54 3 (s.out.map V.c)))(hir:h[ir]?=some (.arr 9 1 (s.reads.map qa1)))(hip:h[ip]?=some (.arr 9 1 (s.puts.map qa1)))
  (ho:h[o]?=some (.map (kAV vAV s.own))) (hl:s.puts.length+1≤68719476736) :
  ACalls Tryz.prog 42 [.ptr m 0,.agg (endC x),Bo (isE x)] h fun r h'=>r=.ret (.agg (doneS (x,s)).c)∧h'=h:=by
 rcases x with z|u
 ·exact c_machine_finish_stop s.q hm hir hip rfl rfl z
 ·exact c_machine_finish_ok s.q hm hio hir hip ho rfl rfl rfl hl
theorem c_interp_Run(p:Proc)(args:List V)(st:List Pr)(ft:Foot)(h:qab)(hg:h[g]?=some (tabO tT tx))(hI:RunIn qbc p args st) :
  ACalls Tryz.prog 14 [.agg p.c,.slice (args.map V.c),.slice (st.map Pr.c),.agg ft.c] h fun r h'=>r=.ret (.agg (runS qbc p args st ft).c)∧h'=h:=by
 refine qaz Tryz.func14 Tryz.ntmps14 rfl (by kernel_rfl) rfl fun E hN hh hu hb hb' hua=>?_;simp[go_sem]at hb;simp-dsimp[go_sem,hN];refine qaa (c_cost_Check p) ?_;simp-dsimp[go_sem,hN];refine qae (c_types_Args p args) (by simp) ?_;simp-dsimp[go_sem,hN];refine qae (c_state_Valid st) (by simp) ?_;simp-dsimp[go_sem,hN];refine qae (c_interp_valid ft.all ft.reads ft.writes) (by simp) ?_;simp-dsimp[go_sem,hN]
 repeat refine⟨by grind,?_⟩
 refine cnd ?_ ?_<;>intro h0<;>simp at h0
 ·have hno:¬runOk p args st ft:=by rw[runOk_iff];grind
  rw[runS_no hno];simp-dsimp[go_sem,hN];refine qaj (c_interp_wrong _) ?_;rintro r h' ⟨rfl,rfl⟩;simp-dsimp[go_sem,hN];exact⟨_,.refl _,h,by simp[go_sem],hwk.app0 _,Nat.le_refl _,hu,rfl,rfl⟩
 have hok:runOk p args st ft:=by rw[runOk_iff];grind
 have hok':=(runOk_iff _ _ _ _).1 hok;have hlen:=(argsErr_ok hok'.2.1).1;rw[runS_yes hok];simp-dsimp[go_sem,hN];refine qaj (c_interp_newMachine st ft _) ?_;rintro r h' ⟨rfl,rfl⟩;simp-dsimp[go_sem,hN];have Y:=MH_run (tb:=tabO tT tx) (tV:=54) (tS:=9) st ft qbc h [.cells p.c,.cells ft.c,effZ] [.cells [.ptr (h.length+6) 0]] hg hu 3 1 rfl rfl (by simp[hUnder,AObj.under,AV.under,qao,Proc.c,Foot.c]) (by simp[hUnder,AObj.under,AV.under,qao]);simp only[List.cons_append,List.nil_append,Nat.reduceAdd]at Y;refine qap (α:=List (qac×V)) p.params.length (fun n vs=>qdp (p.params.drop n) (args.drop n) vs=qdp p.params args []) (fun n vs=>⟨[(1,.slice (args.map V.c)),(4,.ptr h.length 0),(8,.ptr (h.length+2) 0),(9,.ptr (h.length+7) 0),(36,.slice (p.params.map Param.c)),(37,I p.params.length),(38,I n)],h++[.cells p.c,.cells ft.c,effZ,.cells ft.c,.map (kAV vAV vs),.map (kAV vAV []),.cells (mC (cfgR qbc st ft) (h.length+4) (h.length+5) (h.length+8) (h.length+9) (h.length+10) ⟨vs,[],[],[],[],0,0,0,0⟩),.cells [.ptr (h.length+6) 0],.arr 54 3 [],.uarr 9 1 [],.uarr 9 1 []]⟩) [] (by simp) ?_ ?_
 ·refine(nilc_wk E _ (p:=h.length+6) (j:=8) (t:=54) (sz:=3) (xs:=[.slice (st.map Pr.c),Bo ft.all,.slice (ft.reads.map qa1),.slice (ft.writes.map qa1),.mapr (h.length+4),.mapr (h.length+5),I 0,I 0,.nils,.nils,.nils,.nils,S em,I 0]) (by simp) rfl).trans ?_;simp;refine(nilcu_wk E _ (p:=h.length+6) (j:=9) (t:=9) (sz:=1) (xs:=[.slice (st.map Pr.c),Bo ft.all,.slice (ft.reads.map qa1),.slice (ft.writes.map qa1),.mapr (h.length+4),.mapr (h.length+5),I 0,I 0,.own (h.length+8) 0,.nils,.nils,.nils,S em,I 0]) (by simp) rfl).trans ?_;simp;refine(nilcu_wk E _ (p:=h.length+6) (j:=10) (t:=9) (sz:=1) (xs:=[.slice (st.map Pr.c),Bo ft.all,.slice (ft.reads.map qa1),.slice (ft.writes.map qa1),.mapr (h.length+4),.mapr (h.length+5),I 0,I 0,.own (h.length+8) 0,.own (h.length+9) 0,.nils,.nils,S em,I 0]) (by simp) rfl).trans ?_;simp[kAV,qb5];exact wkA
 intro n vs hn hI2;have hw:=qa2 hn hb.1.2.1.1;simp-dsimp[go_sem,hN];refine cnd ?_ ?_<;>intro hc<;>simp at hc
 ·have hc2:n<args.length:=by omega
  simp-dsimp[go_sem,hN,hc];refine qai 10 mixed (by kernel_rfl) (by kernel_rfl) ?_;simp-dsimp[go_sem,hN,hc,hc2,hw];refine⟨qbr vs p.params[n].name args[n],?_,Wk.mk (by simp[hh]) (by simp[go_sem]) (by simp[hu,qan hu,go_sem,kAV_u2]) (by simp[go_sem])⟩;rw[qaf hc,qaf hc2,qdp]at hI2;exact hI2
 ·rw[List.drop_eq_nil_of_le hc,List.drop_eq_nil_of_le (by omega),setArgs_nil]at hI2;subst hI2;obtain⟨x,s1,hB⟩:∃x s1,blkI (cfgR qbc st ft) p.body (ms0 p args)=(x,s1):=⟨_,_,rfl⟩
  have hd:=(dl_blk (C:=cfgR qbc st ft) (fun q hq=>hI.st q hq) p.body 1 (ms0 p args) (cost_okL hok'.1) (cost_goS hok'.1 hI.body) (inv0 hI)).pu;rw[hB]at hd;have hnl:=cost_nL hok'.1;have hlim:=cost_lim hok'.1;simp only[List.length_nil,Nat.zero_add]at hd;have Y2:=Y.ext [.cells [I 0,I 0,.nils,S em],.cells [Bo false]] (by simp[hUnder,AObj.under,AV.under,qao]);have hr:=c_interp_Run1 (C:=cfgR qbc st ft) rfl (fun q hq=>hI.st q hq) p (cost_goS hok'.1 hI.body) Y2 (ms0 p args) (inv0 hI) (a:=h.length+7) (b:=h.length) (by intro q;simp) (by intro q;simp);rw[hB]at hr;have hrun:=c_run_of (a:=.ptr (h.length+6) 0) (by simp) (by simp[qar,hu,qau,qan hu,go_sem,kAV_u2,MS.q]) (fun H=>by simp[qbi,AV.norm]) hr;simp-dsimp[go_sem,hN];refine qek 6 3 [0] mixed (by kernel_rfl) ?_;simp-dsimp[go_sem,hN];refine qd2 hrun ?_;simp-dsimp[go_sem,hN];obtain⟨Hd,hHd⟩:∃Hd:AObj→AObj→qab,∀u1 u2,Hd u1 u2=h++[.cells p.c,.cells ft.c,effZ,.cells ft.c,.map (kAV vAV s1.vars),.map (kAV vAV s1.own),.cells (mC (cfgR qbc st ft) (h.length+4) (h.length+5) (h.length+8) (h.length+9) (h.length+10) s1.q),.cells [.ptr (h.length+6) 0],.arr 54 3 (s1.out.map V.c),u1,u2]:=⟨fun u1 u2=>_,fun _ _=>rfl⟩
  have hw2:∀E,Wk E ⟨[],Hd (.uarr 9 1 (s1.reads.map qa1)) (.uarr 9 1 (s1.puts.map qa1))⟩ ⟨[],Hd (.arr 9 1 (s1.reads.map qa1)) (.arr 9 1 (s1.puts.map qa1))⟩:=fun E=>by
   have d1:=qef E ⟨[],Hd (.uarr 9 1 (s1.reads.map qa1)) (.uarr 9 1 (s1.puts.map qa1))⟩ (i:=h.length+9) (t:=9) (sz:=1) (rows:=s1.reads.map qa1) (by simp[hHd]);have d2:=qef E ⟨[],Hd (.arr 9 1 (s1.reads.map qa1)) (.uarr 9 1 (s1.puts.map qa1))⟩ (i:=h.length+10) (t:=9) (sz:=1) (rows:=s1.puts.map qa1) (by simp[hHd]);refine d1.trans ?_;have e1:(Hd (.uarr 9 1 (s1.reads.map qa1)) (.uarr 9 1 (s1.puts.map qa1))).set (h.length+9) (.arr 9 1 (s1.reads.map qa1))=Hd (.arr 9 1 (s1.reads.map qa1)) (.uarr 9 1 (s1.puts.map qa1)):=by simp[hHd]
   have e2:(Hd (.arr 9 1 (s1.reads.map qa1)) (.uarr 9 1 (s1.puts.map qa1))).set (h.length+10) (.arr 9 1 (s1.puts.map qa1))=Hd (.arr 9 1 (s1.reads.map qa1)) (.arr 9 1 (s1.puts.map qa1)):=by simp[hHd]
   rw[e2]at d2;rw[e1];exact d2
  have hfin:=c_machine_finish (C:=cfgR qbc st ft) (m:=h.length+6) (v:=h.length+4) (o:=h.length+5) (io:=h.length+8) (ir:=h.length+9) (ip:=h.length+10) (h:=Hd (.arr 9 1 (s1.reads.map qa1)) (.arr 9 1 (s1.puts.map qa1))) x s1 (by simp[hHd]) (by simp[hHd]) (by simp[hHd]) (by simp[hHd]) (by simp[hHd]) (by omega);have hfin2:=acalls_wk hw2 hfin;rw[hHd,hHd]at hfin2;refine qaj hfin2 ?_;rintro r h' ⟨rfl,rfl⟩;simp-dsimp[go_sem,hN];rw[hB];exact⟨_,.refl _,h,by simp[go_sem],hwk.app0 _,Nat.le_refl _,hu,rfl,rfl⟩
theorem c_interp_Free(p:Proc)(args:List V)(st:List Pr)(h:qab)(hg:h[g]?=some (tabO tT tx))(hI:RunIn qbc p args st) :
  ACalls Tryz.prog 16 [.agg p.c,.slice (args.map V.c),.slice (st.map Pr.c)] h fun r h'=>r=.ret (.agg (runS qbc p args st ⟨true,[],[]⟩).c)∧h'=h:=by
 refine qaz Tryz.func16 Tryz.ntmps16 rfl (by kernel_rfl) rfl fun E hN hh hu hb hb' hua=>?_;have hgl:g<h.length:=(List.getElem?_eq_some_iff.1 hg).1;simp-dsimp[go_sem,hN];refine qaj (c_interp_Run p args st ⟨true,[],[]⟩ _ (g:=g) (tT:=tT) (tx:=tx) (by rw[List.getElem?_append_left hgl];exact hg) hI) ?_;rintro r h' ⟨rfl,rfl⟩;simp-dsimp[go_sem,hN];exact⟨_,.refl _,h,by simp[go_sem],hwk.app0 _,Nat.le_refl _,hu,rfl,rfl⟩
end Go.Proofs.YtilhejdbiionhaaGreatDoor

set_option maxRecDepth 4000
set_option maxHeartbeats 4000000
namespace Go.Proofs.YtilhejdbiionhaaGreatDoor
open Go Go.Abs Go.Cw
attribute [local go_sem] mC
variable {C:Cfg} {tT:TypeId} {tx:Nat×Nat} {g m v o io ir ip:Nat} {K:MQ→qab} {n0:Nat}
def endX(x:EV):Except Stop Unit:=match x with| .ok _=>.ok ()| .error z=>.error z
def setX(h:qab)(d:Nat)(x:EV):qab:=match x with| .ok v=>h.set d (.cells v.c)| .error _=>h
theorem c_interp_Eval1(hF:C.fmt=qbc)(hC:rngC C)(e:Ex)(hX:rngX e)(Y:MHs C tT tx g m v o io ir ip K n0)(s:MS)(hM:rngM s)(ha0:ascS s.reads)(hl:s.reads.length+nodes e≤1000000000){a b d:Nat}(ha:∀q,(K q)[a]?=some (.cells [.ptr m 0]))(hb0:∀q,(K q)[b]?=some (.cells e.x))(hd:∀q,(K q)[d]?=some (.cells [I 0,I 0,S em])) :
  ACalls Tryz.prog 250 [.ptr a 0,.ptr b 0,.ptr d 0] (K s.q) fun r h'=>r=endU (endX (evE C e s).1)∧h'=setX (K (evE C e s).2.q) d (evE C e s).1:=by
 refine qaz Tryz.func250 Tryz.ntmps250 rfl (by kernel_rfl) rfl fun E hN hh hu hb hb' hua=>?_;simp-dsimp[go_sem,hN,ha,hb0];refine qaj (qbs hF hC Y s e hX hM ha0 hl) ?_;rintro r h' ⟨rfl,rfl⟩;rcases evE C e s with⟨z|w,s1⟩
 ·simp-dsimp[go_sem,hN,endV,endX,setX,endU];exact⟨_,.refl _,K s1.q,by simp[go_sem],by first|exact hwk.refl _|exact hwk.app0 _|simp[hwk.refl],by simp[Y.len],Y.und' _,by first|rfl|simp,by first|rfl|simp[MS.q]⟩
 ·simp-dsimp[go_sem,hN,endV,endX,setX,endU,hd];have hdl:d<(K s1.q).length:=(List.getElem?_eq_some_iff.1 (hd s1.q)).1;exact⟨_,.refl _,(K s1.q).set d (.cells [I w.k,I w.n,S w.s]),by simp[go_sem],by simp[hwk.refl],by simp[Y.len],by simpa using qcg (Y.und' _) (by simp[AObj.under,AV.under,qao]),rfl,rfl⟩
theorem c_interp_Eval(e:Ex)(vars st:List Pr)(ft:Foot)(h:qab)(hg:h[g]?=some (tabO tT tx))(hI:EvIn qbc e vars st) :
  ACalls Tryz.prog 203 [.agg e.x,.slice (vars.map Pr.c),.slice (st.map Pr.c),.agg ft.c] h fun r h'=>r=.ret (.tuple [.agg (evalS qbc e vars st ft).1.c,.agg (evalS qbc e vars st ft).2.c])∧h'=h:=by
 refine qaz Tryz.func203 Tryz.ntmps203 rfl (by kernel_rfl) rfl fun E hN hh hu hb hb' hua=>?_;simp[go_sem]at hb;simp-dsimp[go_sem,hN];refine qaa (qej e) ?_;simp-dsimp[go_sem,hN];refine qae (c_state_Valid st) (by simp) ?_;simp-dsimp[go_sem,hN];refine qae (c_interp_valid ft.all ft.reads ft.writes) (by simp) ?_;simp-dsimp[go_sem,hN]
 repeat refine⟨by grind,?_⟩
 refine cnd ?_ ?_<;>intro h0<;>simp at h0
 ·have hno:¬evOk e st ft:=by rw[evOk_iff];grind
  have e1:evalS qbc e vars st ft=(V.nil,wrongE):=by unfold evalS;rw[if_neg (fun g=>hno g.1)]
  rw[e1];simp-dsimp[go_sem,hN];refine qaj (c_interp_wrong _) ?_;rintro r h' ⟨rfl,rfl⟩;simp-dsimp[go_sem,hN,V.nil];exact⟨_,.refl _,h,by simp[go_sem],hwk.app0 _,Nat.le_refl _,hu,rfl,rfl⟩
 have hok:evOk e st ft:=by rw[evOk_iff];grind
 have hok':=evOk_iff.1 hok;simp-dsimp[go_sem,hN];refine qaj (c_interp_newMachine st ft _) ?_;rintro r h' ⟨rfl,rfl⟩;simp-dsimp[go_sem,hN];have Y:=MH_run (tb:=tabO tT tx) (tV:=54) (tS:=9) st ft qbc h [.cells e.x,.cells ft.c,.cells [I 0,I 0,S em],effZ] [.cells [.ptr (h.length+7) 0],.cells [I 0,I 0,S em]] hg hu 4 2 rfl rfl (by simp[hUnder,AObj.under,AV.under,qao,Foot.c,Ex.x]) (by simp[hUnder,AObj.under,AV.under,qao]);simp only[List.cons_append,List.nil_append,Nat.reduceAdd]at Y;refine qap (α:=List (qac×V)) vars.length (fun n vs=>firstV (vars.drop n) vs=firstV vars []∧varsOk (vars.drop n)=varsOk vars) (fun n vs=>⟨[(4,P0 h.length),(8,P0 (h.length+2)),(9,P0 (h.length+3)),(10,P0 (h.length+8)),(36,.slice (vars.map Pr.c)),(37,I vars.length),(38,I n)],h++[.cells e.x,.cells ft.c,.cells [I 0,I 0,S em],effZ,.cells ft.c,.map (kAV vAV vs),.map (kAV vAV []),.cells [.slice (st.map Pr.c),Bo ft.all,.slice (ft.reads.map qa1),.slice (ft.writes.map qa1),.mapr (h.length+5),.mapr (h.length+6),I 0,I 0,.nils,.nils,.nils,.nils,S em,I 0],.cells [.ptr (h.length+7) 0]]⟩) [] (by simp) ?_ ?_
 ·simp[kAV,qb5];exact wkA
 rintro n vs hn ⟨hI2,hI3⟩;have hw:=qa2 hn (show _≤68719476736 by first|exact hb.2.1.1|exact hb.2.1|omega);simp-dsimp[go_sem,hN];refine cnd ?_ ?_<;>intro hc<;>simp at hc
 ·rw[qaf hc]at hI2 hI3;rw[firstV]at hI2;have e3:varsOk (vars[n]::vars.drop (n+1))=(varOk vars[n].v.k vars[n].v.n vars[n].v.s&&varsOk (vars.drop (n+1))):=rfl;rw[e3]at hI3;simp-dsimp[go_sem,hN,hc];refine qaa (c_interp_variable _ _ _) ?_;simp-dsimp[go_sem,hN];refine cnd ?_ ?_<;>intro h1<;>simp at h1
  ·have e1:evalS qbc e vars st ft=(V.nil,wrongE):=by unfold evalS;rw[if_neg (fun g=>by rw[←hI3,h1]at g;simp at g)]
   rw[e1];simp-dsimp[go_sem,hN];refine qaj (c_interp_wrong _) ?_;rintro r h' ⟨rfl,rfl⟩;simp-dsimp[go_sem,hN,V.nil];exact⟨_,.refl _,h,by simp[go_sem],hwk.app0 _,Nat.le_refl _,hu,rfl,rfl⟩
  simp-dsimp[go_sem,hN];refine qa4 12 mixed (by kernel_rfl) ?_;rcases hk:qbg vs vars[n].key with _|w
  ·rw[hk]at hI2;simp only[Option.isSome_none,Bool.false_eq_true,if_false]at hI2;simp-dsimp[go_sem,hN,hk];refine⟨by simp[sepD,List.zipIdx],?_⟩;refine qai 8 mixed (by kernel_rfl) (by kernel_rfl) ?_;simp-dsimp[go_sem,hN,hw];exact⟨hc,qbr vs vars[n].key vars[n].v,⟨hI2,by rw[←hI3];simp[h1]⟩,(Wk.mk (by simp[hh]) (by simp[go_sem]) (by simp[hu,qan hu,go_sem,kAV_u2]) (by simp[go_sem]))⟩
  ·rw[hk]at hI2;simp only[Option.isSome_some,if_true]at hI2;simp-dsimp[go_sem,hN,hk];refine⟨by simp[sepD,List.zipIdx],?_⟩;simp-dsimp[go_sem,hN,hw];exact⟨hc,vs,⟨hI2,by rw[←hI3];simp[h1]⟩,(Wk.mk (by simp[hh]) (by simp[go_sem]) (by simp[hu,qan hu,go_sem,kAV_u2]) (by simp[go_sem]))⟩
 ·rw[List.drop_eq_nil_of_le (by omega),firstV]at hI2;subst hI2;obtain⟨x,s1,hB⟩:∃x s1,evE (cfgR qbc st ft) e (msV vars)=(x,s1):=⟨_,_,rfl⟩
  have hvo:varsOk vars=true:=by rw[←hI3,List.drop_eq_nil_of_le (by omega)];rfl
  have e1:evalS qbc e vars st ft=endS (x,s1):=by unfold evalS;rw[if_pos ⟨hok,hvo⟩,hB]
  rw[e1];have hC:rngC (cfgR qbc st ft):=fun q hq=>hI.st q hq;have hM:rngM (msV vars):=⟨firstV_all (P:=qcx) vars [] hI.vars (by simp),by simp⟩
  have hnd:=chkE_nodes e 1 12 hok'.1 (by omega);have Y2:=Y.ext [.cells [I 0,I 0,.nils,S em],.cells [Bo false]] (by simp[hUnder,AObj.under,AV.under,qao]);have hr:=c_interp_Eval1 (C:=cfgR qbc st ft) rfl hC e hI.ex Y2 (msV vars) hM (by simp[ascS]) (by simp;omega) (a:=h.length+8) (b:=h.length) (d:=h.length+9) (by intro q;simp) (by intro q;simp) (by intro q;simp);rw[hB]at hr;have hpz:s1.puts=[]:=by
   have:=(evE_ok hC e (msV vars) hI.ex hM (by simp[ascS])).1.puts;rw[hB]at this;exact this
  obtain⟨Hd,hHd⟩:∃Hd:List AV→AObj→AObj→qab→qab,∀vc u1 u2 L,Hd vc u1 u2 L=h++(.cells e.x::.cells ft.c::.cells [I 0,I 0,S em]::effZ::.cells ft.c::.map (kAV vAV s1.vars)::.map (kAV vAV s1.own)::.cells (mC (cfgR qbc st ft) (h.length+5) (h.length+6) (h.length+10) (h.length+11) (h.length+12) s1.q)::.cells [.ptr (h.length+7) 0]::.cells vc::.arr 54 3 (s1.out.map V.c)::u1::u2::L):=⟨fun vc u1 u2 L=>_,fun _ _ _ _=>rfl⟩
  have hw2:∀t vc L E,Wk E ⟨t,Hd vc (.uarr 9 1 (s1.reads.map qa1)) (.uarr 9 1 (s1.puts.map qa1)) L⟩ ⟨t,Hd vc (.arr 9 1 (s1.reads.map qa1)) (.arr 9 1 (s1.puts.map qa1)) L⟩:=fun t vc L E=>by
   have d1:=qef E ⟨t,Hd vc (.uarr 9 1 (s1.reads.map qa1)) (.uarr 9 1 (s1.puts.map qa1)) L⟩ (i:=h.length+11) (t:=9) (sz:=1) (rows:=s1.reads.map qa1) (by simp[hHd]);have d2:=qef E ⟨t,Hd vc (.arr 9 1 (s1.reads.map qa1)) (.uarr 9 1 (s1.puts.map qa1)) L⟩ (i:=h.length+12) (t:=9) (sz:=1) (rows:=s1.puts.map qa1) (by simp[hHd]);refine d1.trans ?_;have e1:(Hd vc (.uarr 9 1 (s1.reads.map qa1)) (.uarr 9 1 (s1.puts.map qa1)) L).set (h.length+11) (.arr 9 1 (s1.reads.map qa1))=Hd vc (.arr 9 1 (s1.reads.map qa1)) (.uarr 9 1 (s1.puts.map qa1)) L:=by simp[hHd]
   have e2:(Hd vc (.arr 9 1 (s1.reads.map qa1)) (.uarr 9 1 (s1.puts.map qa1)) L).set (h.length+12) (.arr 9 1 (s1.puts.map qa1))=Hd vc (.arr 9 1 (s1.reads.map qa1)) (.arr 9 1 (s1.puts.map qa1)) L:=by simp[hHd]
   rw[e2]at d2;rw[e1];exact d2
  have hw0:∀E:Ent,Wk E ⟨[],h++[.cells e.x,.cells ft.c,.cells [I 0,I 0,S em],effZ,.cells ft.c,.map (kAV vAV (firstV vars [])),.map (kAV vAV []),.cells [.slice (st.map Pr.c),Bo ft.all,.slice (ft.reads.map qa1),.slice (ft.writes.map qa1),.mapr (h.length+5),.mapr (h.length+6),I 0,I 0,.nils,.nils,.nils,.nils,S em,I 0],.cells [.ptr (h.length+7) 0],.cells [I 0,I 0,S em]]⟩
    ⟨[],h++[.cells e.x,.cells ft.c,.cells [I 0,I 0,S em],effZ,.cells ft.c,.map (kAV vAV (firstV vars [])),.map (kAV vAV []),.cells (mC (cfgR qbc st ft) (h.length+5) (h.length+6) (h.length+10) (h.length+11) (h.length+12) ⟨firstV vars [],[],[],[],[],0,0,0,0⟩),.cells [.ptr (h.length+7) 0],.cells [I 0,I 0,S em],.arr 54 3 [],.uarr 9 1 [],.uarr 9 1 []]⟩:=fun E=>by
   refine(nilc_wk E _ (p:=h.length+7) (j:=8) (t:=54) (sz:=3) (xs:=[.slice (st.map Pr.c),Bo ft.all,.slice (ft.reads.map qa1),.slice (ft.writes.map qa1),.mapr (h.length+5),.mapr (h.length+6),I 0,I 0,.nils,.nils,.nils,.nils,S em,I 0]) (by simp) rfl).trans ?_;simp;refine(nilcu_wk E _ (p:=h.length+7) (j:=9) (t:=9) (sz:=1) (xs:=[.slice (st.map Pr.c),Bo ft.all,.slice (ft.reads.map qa1),.slice (ft.writes.map qa1),.mapr (h.length+5),.mapr (h.length+6),I 0,I 0,.own (h.length+10) 0,.nils,.nils,.nils,S em,I 0]) (by simp) rfl).trans ?_;simp;refine(nilcu_wk E _ (p:=h.length+7) (j:=10) (t:=9) (sz:=1) (xs:=[.slice (st.map Pr.c),Bo ft.all,.slice (ft.reads.map qa1),.slice (ft.writes.map qa1),.mapr (h.length+5),.mapr (h.length+6),I 0,I 0,.own (h.length+10) 0,.own (h.length+11) 0,.nils,.nils,S em,I 0]) (by simp) rfl).trans ?_;simp;exact .refl _ _
  have hus:∀vc,(∀n,qao n vc=true)→hUnder (Hd vc (.uarr 9 1 (s1.reads.map qa1)) (.uarr 9 1 (s1.puts.map qa1)) []).length (Hd vc (.uarr 9 1 (s1.reads.map qa1)) (.uarr 9 1 (s1.puts.map qa1)) [])=true:=fun vc hvc=>by
   rw[hHd];simp[qar,hu,qau,qan hu,go_sem,kAV_u2,MS.q,hvc]
  rcases x with z|v
  ·have hr2:ACalls Tryz.prog 250 [.ptr (h.length+8) 0,.ptr h.length 0,.ptr (h.length+9) 0] ((h++[.cells e.x,.cells ft.c,.cells [I 0,I 0,S em],effZ,.cells ft.c,.map (kAV vAV (firstV vars [])),.map (kAV vAV []),.cells (mC (cfgR qbc st ft) (h.length+5) (h.length+6) (h.length+10) (h.length+11) (h.length+12) ⟨firstV vars [],[],[],[],[],0,0,0,0⟩),.cells [.ptr (h.length+7) 0],.cells [I 0,I 0,S em],.arr 54 3 [],.uarr 9 1 [],.uarr 9 1 []])++[.cells [I 0,I 0,.nils,S em],.cells [Bo false]]) fun r h'=>r=endU (.error z)∧h'=Hd [I 0,I 0,S em] (.uarr 9 1 (s1.reads.map qa1)) (.uarr 9 1 (s1.puts.map qa1)) []++[.cells [I 0,I 0,.nils,S em],.cells [Bo false]]:=by
    rw[hHd];exact hr
   have hrun:=c_run_of (a:=.ptr (h.length+7) 0) (x:=.error z) (by rw[hHd];simp) (by have:=hus [I 0,I 0,S em] (fun n=>by simp[qao,AV.under]);rw[hHd]at this⊢;simpa using this) (fun H=>by simp[qbi,AV.norm]) hr2;simp-dsimp[go_sem,hN];refine qaj (acalls_wk hw0 hrun) ?_;rintro r h' ⟨rfl,rfl⟩;simp-dsimp[go_sem,hN,endC,isE,hHd];have hfin:=c_machine_finish (C:=cfgR qbc st ft) (m:=h.length+7) (v:=h.length+5) (o:=h.length+6) (io:=h.length+10) (ir:=h.length+11) (ip:=h.length+12) (h:=Hd [I 0,I 0,S em] (.arr 9 1 (s1.reads.map qa1)) (.arr 9 1 (s1.puts.map qa1)) [.cells [I z.status,I z.code,.slice [],S z.miss]]) (.error z) s1 (by simp[hHd]) (by simp[hHd]) (by simp[hHd]) (by simp[hHd]) (by simp[hHd]) (by rw[hpz];simp);have hfin2:=acalls_wk (hw2 _ _ _) hfin;rw[hHd,hHd]at hfin2;refine qaj hfin2 ?_;rintro r h' ⟨rfl,rfl⟩;simp-dsimp[go_sem,hN,endS,V.nil];exact⟨_,.refl _,h,by simp[go_sem],hwk.app0 _,Nat.le_refl _,hu,rfl,rfl⟩
  ·have hr2:ACalls Tryz.prog 250 [.ptr (h.length+8) 0,.ptr h.length 0,.ptr (h.length+9) 0] ((h++[.cells e.x,.cells ft.c,.cells [I 0,I 0,S em],effZ,.cells ft.c,.map (kAV vAV (firstV vars [])),.map (kAV vAV []),.cells (mC (cfgR qbc st ft) (h.length+5) (h.length+6) (h.length+10) (h.length+11) (h.length+12) ⟨firstV vars [],[],[],[],[],0,0,0,0⟩),.cells [.ptr (h.length+7) 0],.cells [I 0,I 0,S em],.arr 54 3 [],.uarr 9 1 [],.uarr 9 1 []])++[.cells [I 0,I 0,.nils,S em],.cells [Bo false]]) fun r h'=>r=endU (.ok ())∧h'=Hd v.c (.uarr 9 1 (s1.reads.map qa1)) (.uarr 9 1 (s1.puts.map qa1)) []++[.cells [I 0,I 0,.nils,S em],.cells [Bo false]]:=by
    refine ACalls.mono hr ?_;rintro r h' ⟨rfl,rfl⟩;refine⟨rfl,?_⟩;rw[hHd];simp[setX,MS.q]
   have hrun:=c_run_of (a:=.ptr (h.length+7) 0) (x:=.ok ()) (by rw[hHd];simp) (by have:=hus v.c (fun n=>by simp[qao,AV.under,V.c]);rw[hHd]at this⊢;simpa using this) (fun H=>by simp[qbi,AV.norm]) hr2;simp-dsimp[go_sem,hN];refine qaj (acalls_wk hw0 hrun) ?_;rintro r h' ⟨rfl,rfl⟩;simp-dsimp[go_sem,hN,endC,isE,hHd];refine⟨rfl,by simp[zs],?_⟩;have hfin:=c_machine_finish (C:=cfgR qbc st ft) (m:=h.length+7) (v:=h.length+5) (o:=h.length+6) (io:=h.length+10) (ir:=h.length+11) (ip:=h.length+12) (h:=Hd v.c (.arr 9 1 (s1.reads.map qa1)) (.arr 9 1 (s1.puts.map qa1)) [.cells [I 0,I 0,.slice [],S em]]) (.ok ()) s1 (by simp[hHd]) (by simp[hHd]) (by simp[hHd]) (by simp[hHd]) (by simp[hHd]) (by rw[hpz];simp);rw[hHd]at hfin;have hwz:=hw2 [(75,Bo false),(17,Bo false),(16,.ptr (h.length+13) 0),(15,.ptr (h.length+9) 0),(8,P0 (h.length+2)),(9,P0 (h.length+3)),(10,P0 (h.length+8))] v.c [.cells [I 0,I 0,.slice [],S em]] E;rw[hHd,hHd]at hwz;refine AWp.wk (Wk.trans (Wk.mk (by simp[hh]) (by simp[go_sem,zs,MS.q]) (by simp[hu,qan hu,go_sem,kAV_u2,zs,MS.q]) (by simp[go_sem])) hwz) ?_;refine qek 5 4 [0] mixed (by kernel_rfl) ?_;simp-dsimp[go_sem,hN];refine qd2 hfin ?_;simp-dsimp[go_sem,hN];exact⟨_,.refl _,h,by simp[go_sem],hwk.app0 _,Nat.le_refl _,hu,rfl,rfl⟩
end Go.Proofs.YtilhejdbiionhaaGreatDoor

set_option maxRecDepth 8000
set_option maxHeartbeats 2000000
namespace Go.Proofs.YtilhejdbiionhaaGreatDoor
open Go Go.Abs Go.Cw
def bk:qac:=⟨#[107]⟩
def bn:qac:=⟨#[110]⟩
def bx:qac:=⟨#[120]⟩
def addP:Proc:=⟨⟨#[97,100,100]⟩,[⟨bk,2⟩,⟨bn,1⟩],[.mk 3 em 0 (.mk 3 0 bk []) (.mk 4 0 em [.mk 22 0 em [.mk 3 0 bk []],.mk 3 0 bn []]) [] []]⟩
theorem at_tab{tT:TypeId}{tx:Nat×Nat}{g:Nat}{f:FuncId}{args:List AV}{r:AV}{h:qab}(H:∀h,h[g]?=some (tabO tT tx)→ACalls Tryz.prog f args h fun e h'=>e=.ret r∧h'=h)(hg:h[g]?=some (tabO tT tx)):APureAt Tryz.prog f args r h:=fun h' hs=>H h' (hs g _ rfl hg)
def exSt:List Pr:=[⟨bx,vI 5⟩]
theorem ok_digit(k:Nat)(h:k<10):okB (UInt8.ofNat (48+k))=true:=by
 have:∀k:Fin 10,okB (UInt8.ofNat (48+k.val))=true:=by decide
 exact this ⟨k,h⟩
theorem ok_digits:∀(u:Nat),∀b∈Lib.decDigits u,okB b=true:=by
 intro u
 induction u using Nat.strongRecOn with
 |ind u ih =>
  intro b hb;rw[Lib.decDigits]at hb;split at hb
  ·rename_i h;simp only[List.mem_singleton]at hb;subst hb;exact ok_digit _ h
  ·rename_i h;rw[List.mem_append]at hb;rcases hb with hb|hb
   ·exact ih (u / 10) (by omega) b hb
   ·simp only[List.mem_singleton]at hb;subst hb;exact ok_digit _ (Nat.mod_lt _ (by decide))
theorem qcp(n:Int)(hn:i64 n):qa3 (qbc n)=true:=by
 have hl:=Lib.itoa_length_le n hn.1 hn.2;unfold qa3;rw[Bool.and_eq_true,decide_eq_true_eq,allL_iff];refine⟨fun b hb=>?_,?_⟩
 ·have hb:b∈Lib.itoa n:=by simpa[bl,qbc]using hb
  unfold Lib.itoa at hb;split at hb
  ·rcases List.mem_cons.1 hb with rfl|hb
   ·decide
   ·exact ok_digits _ b hb
  ·exact ok_digits _ b hb
 ·show(((Lib.itoa n).toArray.size:Nat):Int)≤64;rw[List.size_toArray];omega
section
variable {tT:TypeId} {tx:Nat×Nat} {g:Nat}
end
end Go.Proofs.YtilhejdbiionhaaGreatDoor

set_option maxRecDepth 4000
set_option maxHeartbeats 2000000
namespace Go.Proofs.YtilhejdbiionhaaGreatDoor
open Go Go.Abs Go.Cw
variable {tT:TypeId} {tx:Nat×Nat} {g p ir iw:Nat} {K:XS→qab} {n0:Nat}
abbrev PHs(tT:TypeId)(tx:Nat×Nat)(g p ir iw:Nat)(K:XS→qab)(n0:Nat):Prop:=PH (tabO tT tx) g p ir iw K n0
theorem c_pr_key(Y:PHs tT tx g p ir iw K n0)(wr:Bool)(a:AX)(x:XS) :
  ACalls Tryz.prog 106 [.ptr p 0,.agg [Bo a.known,I a.v.k,I a.v.n,S a.v.s],.mapr (if wr then iw else ir)] (K x) fun r h'=>r=.ret (Bo (keyX wr a x).1)∧h'=K (keyX wr a x).2:=by
 refine qaz Tryz.func106 Tryz.ntmps106 rfl (by kernel_rfl) rfl fun E hN hh hu hb hb' hua=>?_;simp-dsimp[go_sem,hN,Y.len,Y.loc0];refine cnd ?_ ?_<;>intro h0<;>simp at h0
 ·simp-dsimp[go_sem,hN,Y.len,Y.loc0,Y.lp',Y.sp'];rw[show keyX wr a x=(false,⟨x.r,x.w,true⟩)by simp[keyX,h0]];exact⟨_,.refl _,K ⟨x.r,x.w,true⟩,by simp[go_sem],by first|exact hwk.refl _|exact hwk.app0 _|simp[hwk.refl],by simp[Y.len],Y.und' _,by first|rfl|simp,by first|rfl|simp[MS.q]⟩
 simp-dsimp[go_sem,hN,Y.len,Y.loc0];refine qaa (c_keys_Valid a.v.s) ?_;simp-dsimp[go_sem,hN,Y.len,Y.loc0];refine cnd ?_ ?_<;>intro h1<;>simp at h1
 ·simp-dsimp[go_sem,hN,Y.len,Y.loc0];rw[show keyX wr a x=(false,x)by simp[keyX,h0,h1]];exact⟨_,.refl _,K x,by simp[go_sem],by first|exact hwk.refl _|exact hwk.app0 _|simp[hwk.refl],by simp[Y.len],Y.und' _,by first|rfl|simp,by first|rfl|simp[MS.q]⟩
 cases wr
 ·simp-dsimp[go_sem,hN,Y.len,Y.loc0,Y.lr',Y.sr'];rw[show(AObj.map (qb5 (kvSet (x.r.map ((fun p:qac×Bool=>(p.1,boAV p.2))∘fun s=>(s,true))) a.v.s (.val (.bool true)))))=setO (addS x.r a.v.s)from by rw[←List.map_map];exact congrArg _ (kvSet_bo x.r a.v.s),Y.sr'];rw[show keyX false a x=(true,⟨addS x.r a.v.s,x.w,x.f⟩)by simp[keyX,h0,h1]];exact⟨_,.refl _,K ⟨addS x.r a.v.s,x.w,x.f⟩,by simp[go_sem],by first|exact hwk.refl _|exact hwk.app0 _|simp[hwk.refl],by simp[Y.len],Y.und' _,by first|rfl|simp,by first|rfl|simp[MS.q]⟩
 ·simp-dsimp[go_sem,hN,Y.len,Y.loc0,Y.lw',Y.sw'];rw[show(AObj.map (qb5 (kvSet (x.w.map ((fun p:qac×Bool=>(p.1,boAV p.2))∘fun s=>(s,true))) a.v.s (.val (.bool true)))))=setO (addS x.w a.v.s)from by rw[←List.map_map];exact congrArg _ (kvSet_bo x.w a.v.s),Y.sw'];rw[show keyX true a x=(true,⟨x.r,addS x.w a.v.s,x.f⟩)by simp[keyX,h0,h1]];exact⟨_,.refl _,K ⟨x.r,addS x.w a.v.s,x.f⟩,by simp[go_sem],by first|exact hwk.refl _|exact hwk.app0 _|simp[hwk.refl],by simp[Y.len],Y.und' _,by first|rfl|simp,by first|rfl|simp[MS.q]⟩
attribute [local go_sem] AX.c
theorem c_pr_apply(op:Int)(l:List AX)(hl:l.length≤2)(hr:∀a∈l,qcx a.v)(h:qab)(hg:h[g]?=some (tabO tT tx)) :
  ACalls Tryz.prog 154 [I op,.slice (l.map AX.c)] h fun r h'=>r=.ret (.tuple [.agg (apS qbc op (l.map (·.v))).1.c,Bo (apS qbc op (l.map (·.v))).2])∧h'=h:=by
 refine qaz Tryz.func154 Tryz.ntmps154 rfl (by kernel_rfl) rfl fun E hN hh hu hb hb' hua=>?_;simp[go_sem]at hb;simp-dsimp[go_sem,hN];refine qam l.length (fun _=>True) (fun n=>⟨[(4,.ptr h.length 0),(6,.slice [[S ⟨#[97]⟩],[S ⟨#[98]⟩]]),(7,.ptr (h.length+1) 0),(8,.own (h.length+3) n),(16,.slice (l.map AX.c)),(17,I l.length),(18,I n)],h++[.cells [Bo false,I 0,I 0,S em],.cells [I op,I 0,S em,.own (h.length+2) n],.arr 59 4 ((qdj n).map Ex.c),.arr 56 4 (((qcz (l.map (·.v))).take n).map Pr.c)]⟩) trivial ((nilc_wk E _ (p:=h.length+1) (j:=3) (t:=59) (sz:=4) (xs:=[I op,I 0,S em,.nils]) (by simp) rfl).trans ((nil_wk E _ 8 56 4 (by simp[go_sem])).trans ?_)) ?_
 ·simp[show qdj 0=[]from rfl];exact wkA
 have hle:=appVars_len hl;have hal:(qdj l.length).length=l.length:=by simp[qdj,abL];omega
 intro n hn _;have hw:=qa2 hn (by omega);simp-dsimp[go_sem,hN];refine cnd ?_ ?_<;>intro hc<;>simp at hc
 ·simp-dsimp[go_sem,hN,hc];refine qai 8 mixed (by kernel_rfl) (by kernel_rfl) ?_;have hn2:n=0∨n=1:=by omega
  rcases hn2 with rfl|rfl
  ·have t1:List.take 1 (List.map Pr.c (qcz (List.map (fun x=>x.v) l)))=[(⟨⟨#[97]⟩,l[0].v⟩:Pr).c]:=by rw[←List.map_take,appVars1 hc];rfl
   simp-dsimp[go_sem,hN,hc,appArgs0];refine qai 9 mixed (by kernel_rfl) (by kernel_rfl) ?_;simp-dsimp[go_sem,hN,hc];simp only[Nat.zero_add,appArgs1];exact Wk.mk (by simp[hh]) (by simp[go_sem,varEx,Ex.c,Ex.cl,Ex.op,Ex.n,Ex.s,Ex.args,Pr.c,t1]) (by simp[hu,qan hu,go_sem]) (by simp[go_sem])
  ·have t1:List.take 1 (List.map Pr.c (qcz (List.map (fun x=>x.v) l)))=[(⟨⟨#[97]⟩,l[0].v⟩:Pr).c]:=by rw[←List.map_take,appVars1 (Nat.lt_trans Nat.zero_lt_one hc)];rfl
   have t2:List.take 2 (List.map Pr.c (qcz (List.map (fun x=>x.v) l)))=[(⟨⟨#[97]⟩,l[0].v⟩:Pr).c,(⟨⟨#[98]⟩,l[1].v⟩:Pr).c]:=by rw[←List.map_take,appVars2 hc];rfl
   simp-dsimp[go_sem,hN,hc,appArgs1];refine qai 9 mixed (by kernel_rfl) (by kernel_rfl) ?_;simp-dsimp[go_sem,hN,hc,t1];simp only[appArgs2];exact Wk.mk (by simp[hh]) (by simp[go_sem,varEx,Ex.c,Ex.cl,Ex.op,Ex.n,Ex.s,Ex.args,Pr.c,t2]) (by simp[hu,qan hu,go_sem]) (by simp[go_sem])
 ·have hnl:n=l.length:=by omega
  subst hnl;rw[List.take_of_length_le (by omega)];simp-dsimp[go_sem,hN,hle,hal];have hI:=apIn (fmt:=qbc) (op:=op) (vs:=l.map (·.v)) qcp (fun v hv=>by
   obtain⟨a,ha,rfl⟩:=List.mem_map.1 hv;exact hr a ha)
  simp only[List.length_map]at hI;have hcall:=c_interp_Eval (g:=g) (tT:=tT) (tx:=tx) (.mk op 0 em (qdj l.length)) (qcz (l.map (·.v))) [] ⟨false,[],[]⟩ (h++[AObj.cells [Bo false,I 0,I 0,S em],AObj.cells [I op,I 0,S em,AV.own (h.length+2) l.length],AObj.arr 59 4 ((qdj l.length).map Ex.c),AObj.arr 56 4 ((qcz (l.map (·.v))).map Pr.c)]) (by rw[List.getElem?_append_left (List.getElem?_eq_some_iff.1 hg).1];exact hg) hI
  have hap:apE qbc op (l.map (·.v))=evalS qbc (.mk op 0 em (qdj l.length)) (qcz (l.map (·.v))) [] ⟨false,[],[]⟩:=by simp[apE]
  rw[←hap]at hcall;unfold apS;obtain⟨⟨v,ef⟩,hR⟩:∃R,apE qbc op (l.map (·.v))=R:=⟨_,rfl⟩
  rw[hR]at hcall⊢;refine qaj (by simpa[go_sem,Foot.c,List.take_of_length_le,hle,Ex.op,Ex.n,Ex.s,Ex.args]using hcall) ?_;rintro r h' ⟨rfl,rfl⟩;simp-dsimp[go_sem,hN];refine qa4 7 mixed (by kernel_rfl) ?_;simp-dsimp[go_sem,hN];refine⟨by simp[sepD,List.zipIdx]<;>kernel_rfl,?_⟩;exact⟨_,.refl _,h,by simp[go_sem],hwk.app0 _,Nat.le_refl _,hu,by simp[kn],rfl⟩
end Go.Proofs.YtilhejdbiionhaaGreatDoor
