/- Part 34 of a proof: W9, W10, W11, W12, W13 -/
import Derived.Shelf.Small.Strs
import Derived.Test.YtilhejdbiionhaaGreatDoorR17
import Derived.Test.YtilhejdbiionhaaGreatDoorR21
import Derived.Test.YtilhejdbiionhaaGreatDoorR33
set_option linter.all false

set_option maxRecDepth 4000
namespace Go.Proofs.YtilhejdbiionhaaGreatDoor
open Go Go.Abs Go.Cw
theorem c_ast_Names1(t:St)(d:Nat)(h:qab)(p i:Nat)(l:List qac)(hp:h[p]?=some (.cells [.own i l.length]))(hi:h[i]?=some (.arr 9 1 (l.map qa1)))(hl:l.length+1≤68719476736) :
  ACalls Tryz.prog 145 [.agg t.x,I d,.ptr p 0] h fun r h'=>r=.ret (.tuple [])∧h'=(h.set i (.arr 9 1 ((nameS l t d).map qa1))).set p (.cells [.own i (nameS l t d).length]):=by
 refine qaz Tryz.func145 Tryz.ntmps145 rfl (by kernel_rfl) rfl fun E hN hh hu hb hb' hua=>?_;simp[go_sem]at hb;have hp':p<h.length:=(List.getElem?_eq_some_iff.1 hp).1;have hi':i<h.length:=(List.getElem?_eq_some_iff.1 hi).1;have hpi:p≠i:=by rintro rfl;rw[hp]at hi;cases hi
 have a1:∀l:qab,(h++l)[p]?=h[p]?:=fun l=>List.getElem?_append_left hp';have a2:∀l:qab,(h++l)[i]?=h[i]?:=fun l=>List.getElem?_append_left hi';have a3:∀(l:qab) (y:AObj),(h++l).set p y=h.set p y++l:=fun l y=>List.set_append_left _ _ hp';have a4:∀(l:qab) (y:AObj),(h++l).set i y=h.set i y++l:=fun l y=>List.set_append_left _ _ hi';have a5:∀(l:qab) (o y:AObj),(h.set i o++l).set p y=(h.set i o).set p y++l:=fun l o y=>List.set_append_left _ _ (by simpa using hp');have a6:∀(l:qab) (o:AObj),(h.set i o++l)[p]?=h[p]?:=fun l o=>by rw[List.getElem?_append_left (by simpa using hp'),List.getElem?_set_ne (Ne.symm hpi)]
 have hus:∀(r:List (List AV)) (n:Nat),hUnder h.length ((h.set i (.arr 9 1 r)).set p (.cells [.own i n]))=true:=fun r n=>qcg (qcg hu (by simp[AObj.under])) (by simp[AObj.under,qao,AV.under,hi']);simp-dsimp[go_sem,hN,a1,hp];refine cnd ?_ ?_<;>intro h0<;>simp at h0
 ·simp-dsimp[go_sem,hN,a1,a2,a3,a4,a5,a6,hp,hi];refine⟨by omega,?_⟩;have e:nameS l t d=l++[t.name]:=by rw[nameS,if_pos h0]
  exact⟨_,.refl _,_,rfl,hwk.app0 _,by simp,by simpa using hus _ _,rfl,by rw[e];simp[qa1]⟩
 ·simp-dsimp[go_sem,hN];have e:nameS l t d=l:=by rw[nameS,if_neg (by omega)]
  rw[e,qdc hi,qdc hp];exact⟨_,.refl _,_,rfl,hwk.app0 _,by simp,hu,rfl,rfl⟩
theorem c_ast_Names(p:Proc)(hlen:p.params.length≤34359738368):APure Tryz.prog 87 [.agg p.c] (.slice ((qd4 p).map qa1)):=by
 refine qak Tryz.func87 Tryz.ntmps87 rfl (by kernel_rfl) rfl rfl fun E h hN hh hu hb=>?_;simp[go_sem]at hb;simp-dsimp[go_sem,hN];refine qap (α:=List qac) p.params.length (fun n o=>o++(p.params.drop n).map (·.name)=p.params.map (·.name)∧o.length≤n) (fun n o=>⟨[(1,.ptr h.length 0),(3,.ptr (h.length+1) 0),(7,.slice (p.params.map Param.c)),(8,I p.params.length),(9,I n)],h++[.cells p.c,.cells [.own (h.length+2) o.length],.arr 9 1 (o.map qa1)]⟩) [] (by simp) ((nilc_wk E _ (p:=h.length+1) (j:=0) (t:=9) (sz:=1) (xs:=[.nils]) (by simp) rfl).trans ?_) ?_
 ·simp;exact wkA
 intro n o hn ⟨hI,hol⟩;have hw:=qa2 hn hb.2.1.1;simp-dsimp[go_sem,hN];refine cnd ?_ ?_<;>intro hc<;>simp at hc
 ·rw[qaf hc,List.map_cons]at hI;simp-dsimp[go_sem,hN,hc,hw];exact⟨by omega,o++[p.params[n].name],⟨by simpa using hI,by simp;omega⟩,wkA⟩
 rw[List.drop_eq_nil_of_le (by omega),List.map_nil,List.append_nil]at hI;simp-dsimp[go_sem,hN];have B:CB Tryz.prog 145 146 [.ptr (h.length+1) 0] [] (fun l:List qac=>h++[.cells p.c,.cells [.own (h.length+2) l.length],.arr 9 1 (l.map qa1)]) nameS qb2 (h.length+3) List.length 68719476735:={
  hS:=nameS_len
  hR:=fun s _=>by simp[qb2]
  len:=fun x=>by simp
  und:=fun x=>by rw[qan hu];simp[go_sem]
  ucs:=by simp[qao,AV.under]
  ucr:=rfl
  ncs:=fun h=>rfl
  ncr:=fun h=>rfl
  stmt:=fun l L t d hk=>by
   have:=c_ast_Names1 t d ((h++[.cells p.c,.cells [.own (h.length+2) l.length],.arr 9 1 (l.map qa1)])++L) (h.length+1) (h.length+2) l (by simp) (by simp) (by omega);simpa using this
  root:=fun x L e _=>by
   have:=c_ast_noRoot e ((h++[.cells p.c,.cells [.own (h.length+2) x.length],.arr 9 1 (x.map qa1)])++L);simpa[qb2]using this }
 refine qaj (c_ast_walk B p o (by omega)) ?_;rintro r h' ⟨rfl,rfl⟩;simp-dsimp[go_sem,hN];rw[qd4,←hI]
theorem c_ast_copied(e:Ex):APure Tryz.prog 211 [.agg e.x] (.agg e.x):=by
 refine qak Tryz.func211 Tryz.ntmps211 rfl (by kernel_rfl) rfl rfl fun E h hN hh hu hb=>?_;simp[go_sem]at hb;simp-dsimp[go_sem,hN];refine qam e.args.length (fun n=>True) (fun n=>⟨[(1,.ptr h.length 0),(2,.ptr (h.length+1) 0),(9,.slice (e.args.map Ex.c)),(10,I e.args.length),(11,I n)],h++[.cells [I e.op,I e.n,S e.s,.own (h.length+2) n],.cells [I 0,I 0,S ⟨#[]⟩,.nils],.arr 59 4 ((e.args.take n).map Ex.c)]⟩) trivial ((nilc_wk E _ (p:=h.length) (j:=3) (t:=59) (sz:=4) (xs:=[I e.op,I e.n,S e.s,.nils]) (by simp) rfl).trans ?_) ?_
 ·simp;exact wkA
 intro n hn _;have hw:=qa2 hn hb.2.1;simp-dsimp[go_sem,hN];refine cnd ?_ ?_<;>intro hc<;>simp at hc
 ·have hlt:SizeOf.sizeOf e.args[n]<SizeOf.sizeOf e:=Ex.arg_lt (List.getElem_mem hc);simp-dsimp[go_sem,hN,hc];refine qai 5 mixed (by kernel_rfl) (by kernel_rfl) ?_;simp-dsimp[go_sem,hN,hc];refine qax (c_ast_copied e.args[n]) (by simp) ?_;simp-dsimp[go_sem,hN,hc,hw];have et:(e.args.map Ex.c).take (n+1)=(e.args.map Ex.c).take n++[e.args[n].x]:=by
   rw[List.take_succ_eq_append_getElem (by simpa using hc)];simp[Ex.c_eq]
  rw[et];exact⟨by omega,by omega,wkA⟩
 ·simp-dsimp[go_sem,hN];rw[if_pos (by omega),List.take_of_length_le (by simpa using hc)]
termination_by SizeOf.sizeOf e
theorem ready_step{P:Program}{N:Nat}{Q:AExit→Env→Prop}{l:List Oper}{n:Nat}{L:Array Bool}{e:Env}(rs:List Nat)(hne:rs≠[])(hr:Region.ready .any l.toArray L=rs)
  (h:∀i,i∈rs→match l[i]? with
  |some o=>stepF P N Q (l.map (·.dst)) o e fun e'=>allF P N Q l n (L.setIfInBounds i true) e'
  |none=>False):allF P N Q l (n+1) L e:=⟨fun h0=>(hne (hr▸h0)).elim,fun i hi=>h i (hr▸hi)⟩
theorem c_ast_Exprs1(e:Ex)(h:qab)(p i:Nat)(l:List Ex)(hp:h[p]?=some (.cells [.own i l.length]))(hi:h[i]?=some (.uarr 59 4 (l.map Ex.c)))(hl:l.length+1≤68719476736) :
  ACalls Tryz.prog 210 [.agg e.x,.ptr p 0] h fun r h'=>r=.ret (.tuple [])∧h'=(h.set i (.uarr 59 4 ((l++[e]).map Ex.c))).set p (.cells [.own i (l.length+1)]):=by
 refine qaz Tryz.func210 Tryz.ntmps210 rfl (by kernel_rfl) rfl fun E hN hh hu hb hb' hua=>?_;simp[go_sem]at hb;simp-dsimp[go_sem,hN];have hpl:p<h.length:=(List.getElem?_eq_some_iff.1 hp).1;have hil:i<h.length:=(List.getElem?_eq_some_iff.1 hi).1;have hpi:p≠i:=by rintro rfl;rw[hp]at hi;cases hi
 have hip:i≠p:=fun h=>hpi h.symm;have hp1:∀l:qab,(h++l)[p]?=h[p]?:=fun l=>List.getElem?_append_left hpl;have hi1:∀l:qab,(h++l)[i]?=h[i]?:=fun l=>List.getElem?_append_left hil;have hs1:∀(y:AObj) (l:qab),(h++l).set i y=h.set i y++l:=fun y l=>List.set_append_left _ _ hil;have hs2:∀(y:AObj) (l:qab),(h++l).set p y=h.set p y++l:=fun y l=>List.set_append_left _ _ hpl;have hs3:∀(o y:AObj) (l:qab),(h.set i o++l).set p y=(h.set i o).set p y++l:=fun o y l=>List.set_append_left _ _ (by simpa using hpl);have hs4:∀(o y:AObj) (l:qab),(h.set i o++l).set i y=h.set i y++l:=fun o y l=>by rw[List.set_append_left _ _ (by simpa using hil),List.set_set]
 have hs5:∀(o o' y:AObj) (l:qab),((h.set i o).set p o'++l).set i y=(h.set i y).set p o'++l:=fun o o' y l=>by rw[List.set_append_left _ _ (by simpa using hil),List.set_comm _ _ hpi,List.set_set]
 have hA:∀(o:AObj) (l:qab),(h.set i o++l)[i]?=some o:=fun o l=>by rw[List.getElem?_append_left (by simpa using hil)];simp[hil]
 have hB:∀(o:AObj) (L:qab),(h.set i o++L)[p]?=some (.cells [.own i l.length]):=fun o L=>by rw[List.getElem?_append_left (by simpa using hpl),List.getElem?_set_ne hip];exact hp
 have hC:∀(o o':AObj) (L:qab),((h.set i o).set p o'++L)[i]?=some o:=fun o o' L=>by rw[List.getElem?_append_left (by simpa using hil),List.getElem?_set_ne hpi];simp[hil]
 have hlast:∀z:List AV,(l.map Ex.c++[z])[l.length]?=some z:=fun z=>by rw[List.getElem?_append_right (by simp)];simp
 have hset:∀y z:List AV,(l.map Ex.c++[z]).set l.length y=l.map Ex.c++[y]:=fun y z=>by rw[List.set_append_right _ _ (by simp)];simp
 have hfin:∀e1:Env,e1.h=(h.set i (AObj.uarr 59 4 (l.map Ex.c++[e.x]))).set p (AObj.cells [AV.own i (l.length+1)])++[AObj.cells e.x] →
   fnPost Tryz.prog [] h.length (fun r h'=>r=AEnd.ret (AV.tuple [])∧h'=(h.set i (AObj.uarr 59 4 (l.map Ex.c++[e.x]))).set p (AObj.cells [AV.own i (l.length+1)])) .normal e1:=fun e1 he=>by
  refine⟨trivial,.tuple [],_,.refl _,rfl,by rw[he];exact hwk.app0 _,by simp,?_,rfl,rfl⟩;simpa using(qcg (qcg hu (by simp[AObj.under])) (by simp[AObj.under,qao,AV.under,hil]):hUnder h.length ((h.set i (AObj.uarr 59 4 (l.map Ex.c++[e.x]))).set p (AObj.cells [AV.own i (l.length+1)]))=true)
 show AWp _ _ _ _ _;refine awp_drawX 5 mixed (by kernel_rfl) ?_;simp[opsD,stepD,go_sem,hN,hp1,hi1,hp,hi,DR.next,rdOf,qce];refine⟨_,(c_ast_copied e).at _,by simp[sepD,List.zipIdx],?_⟩;refine ready_step [5] (by simp) (by kernel_rfl) ?_;intro i' hi';simp only[List.mem_singleton]at hi';subst hi';simp[go_sem,hN,hp1,hi1,hp,hi,hA,hB,hC,hlast,hset,hs1,hs2,hs3,hs4,hs5];refine⟨by omega,ready_step [6,8] (by simp) (by kernel_rfl) ?_⟩;intro i' hi';simp only[List.mem_cons,List.mem_singleton,List.not_mem_nil,or_false]at hi';rcases hi' with rfl|rfl
 ·simp[go_sem,hN,hp1,hi1,hp,hi,hA,hB,hC,hlast,hset,hs1,hs2,hs3,hs4,hs5];refine ready_step [7,8] (by simp) (by kernel_rfl) ?_;intro i' hi';simp only[List.mem_cons,List.mem_singleton,List.not_mem_nil,or_false]at hi';rcases hi' with rfl|rfl
  ·simp[go_sem,hN,hp1,hi1,hp,hi,hA,hB,hC,hlast,hset,hs1,hs2,hs3,hs4,hs5];refine ready_step [8] (by simp) (by kernel_rfl) ?_;intro i' hi';simp only[List.mem_singleton]at hi';subst hi';simp[go_sem,hN,hp1,hi1,hp,hi,hA,hB,hC,hlast,hset,hs1,hs2,hs3,hs4,hs5];refine⟨by kernel_rfl,hfin _ ?_⟩;simp
  ·simp[go_sem,hN,hp1,hi1,hp,hi,hA,hB,hC,hlast,hset,hs1,hs2,hs3,hs4,hs5];refine ready_step [7] (by simp) (by kernel_rfl) ?_;intro i' hi';simp only[List.mem_singleton]at hi';subst hi';simp[go_sem,hN,hp1,hi1,hp,hi,hA,hB,hC,hlast,hset,hs1,hs2,hs3,hs4,hs5];refine⟨by kernel_rfl,hfin _ ?_⟩;simp
 ·simp[go_sem,hN,hp1,hi1,hp,hi,hA,hB,hC,hlast,hset,hs1,hs2,hs3,hs4,hs5];refine ready_step [6] (by simp) (by kernel_rfl) ?_;intro i' hi';simp only[List.mem_singleton]at hi';subst hi';simp[go_sem,hN,hp1,hi1,hp,hi,hA,hB,hC,hlast,hset,hs1,hs2,hs3,hs4,hs5];refine ready_step [7] (by simp) (by kernel_rfl) ?_;intro i' hi';simp only[List.mem_singleton]at hi';subst hi';simp[go_sem,hN,hp1,hi1,hp,hi,hA,hB,hC,hlast,hset,hs1,hs2,hs3,hs4,hs5];refine⟨by kernel_rfl,hfin _ ?_⟩;simp
theorem c_ast_Exprs(p:Proc):APure Tryz.prog 167 [.agg p.c] (.slice ((qcc p).map Ex.c)):=by
 refine qak Tryz.func167 Tryz.ntmps167 rfl (by kernel_rfl) rfl rfl fun E h hN hh hu hb=>?_;simp[go_sem]at hb;simp-dsimp[go_sem,hN];have B:CB Tryz.prog 209 210 [] [.ptr (h.length+1) 0] (fun l:List Ex=>h++[.cells p.c,.cells [.own (h.length+2) l.length],.uarr 59 4 (l.map Ex.c)]) keepS exprR (h.length+3) List.length 68719476735:={
  hS:=fun s _ _=>by simp[keepS]
  hR:=fun s _=>by simp[exprR]
  len:=fun x=>by simp
  und:=fun x=>by rw[qan hu];simp[go_sem]
  ucs:=rfl
  ucr:=by simp[qao,AV.under]
  ncs:=fun h=>rfl
  ncr:=fun h=>rfl
  stmt:=fun x L t d _=>by
   have:=c_ast_noStmt t d ((h++[.cells p.c,.cells [.own (h.length+2) x.length],.uarr 59 4 (x.map Ex.c)])++L);simpa[keepS]using this
  root:=fun l L e hk=>by
   have:=c_ast_Exprs1 e ((h++[.cells p.c,.cells [.own (h.length+2) l.length],.uarr 59 4 (l.map Ex.c)])++L) (h.length+1) (h.length+2) l (by simp) (by simp) (by omega);simpa[exprR]using this }
 have X:=acalls_wk (h:=h++[.cells p.c,.cells [.nils]]) (fun E=>by
  have:=nilcu_wk E ⟨[],h++[.cells p.c,.cells [.nils]]⟩ (p:=h.length+1) (j:=0) (t:=59) (sz:=4) (xs:=[.nils]) (by simp) rfl;simpa using this) (c_ast_walk B p [] (by simp))
 have Y:=acalls_wkR (h2:=h++[.cells p.c,.cells [.own (h.length+2) (qcc p).length],.arr 59 4 ((qcc p).map Ex.c)]) (fun E=>by
  have:=qef E ⟨[],h++[.cells p.c,.cells [.own (h.length+2) (qcc p).length],.uarr 59 4 ((qcc p).map Ex.c)]⟩ (i:=h.length+2) (t:=59) (sz:=4) (rows:=(qcc p).map Ex.c) (by simp);simpa[qcc]using this) X
 refine qaj Y ?_;rintro r h' ⟨rfl,rfl⟩;simp-dsimp[go_sem,hN]
end Go.Proofs.YtilhejdbiionhaaGreatDoor

set_option maxRecDepth 4000
namespace Go.Proofs.YtilhejdbiionhaaGreatDoor
open Go Go.Abs Go.Cw
theorem c_types_signature(op:Int):APure Tryz.prog 281 [I op] (.tuple [I (qcm op).1,I (qcm op).2]):=by
 refine qak Tryz.func281 Tryz.ntmps281 rfl (by kernel_rfl) rfl rfl fun E h hN hh hu hb=>?_;by_cases h1:op=1
 ·subst h1;simp-dsimp[go_sem,hN,qcm]
 by_cases h25:op=25
 ·subst h25;simp-dsimp[go_sem,hN,qcm]
 by_cases h26:op=26
 ·subst h26;simp-dsimp[go_sem,hN,qcm]
 by_cases h27:op=27
 ·subst h27;simp-dsimp[go_sem,hN,qcm]
 by_cases h4:op=4
 ·subst h4;simp-dsimp[go_sem,hN,qcm]
 by_cases h5:op=5
 ·subst h5;simp-dsimp[go_sem,hN,qcm]
 by_cases h6:op=6
 ·subst h6;simp-dsimp[go_sem,hN,qcm]
 by_cases h7:op=7
 ·subst h7;simp-dsimp[go_sem,hN,qcm]
 by_cases h8:op=8
 ·subst h8;simp-dsimp[go_sem,hN,qcm]
 by_cases h9:op=9
 ·subst h9;simp-dsimp[go_sem,hN,qcm]
 by_cases h2:op=2
 ·subst h2;simp-dsimp[go_sem,hN,qcm]
 by_cases h19:op=19
 ·subst h19;simp-dsimp[go_sem,hN,qcm]
 by_cases h23:op=23
 ·subst h23;simp-dsimp[go_sem,hN,qcm]
 by_cases h16:op=16
 ·subst h16;simp-dsimp[go_sem,hN,qcm]
 by_cases h17:op=17
 ·subst h17;simp-dsimp[go_sem,hN,qcm]
 by_cases h18:op=18
 ·subst h18;simp-dsimp[go_sem,hN,qcm]
 by_cases h20:op=20
 ·subst h20;simp-dsimp[go_sem,hN,qcm]
 by_cases h21:op=21
 ·subst h21;simp-dsimp[go_sem,hN,qcm]
 by_cases h22:op=22
 ·subst h22;simp-dsimp[go_sem,hN,qcm]
 simp-dsimp[go_sem,hN,qcm,h1,h25,h26,h27,h4,h5,h6,h7,h8,h9,h2,h19,h23,h16,h17,h18,h20,h21,h22]
theorem c_types_compared(op ty:Int):APure Tryz.prog 280 [I op,I ty] (Bo (cmpOk op ty)):=by
 refine qak Tryz.func280 Tryz.ntmps280 rfl (by kernel_rfl) rfl rfl fun E h hN hh hu hb=>?_;simp-dsimp[go_sem,hN,cmpOk]
 try grind
theorem c_nondeterministic(op:Int):APure Tryz.prog 169 [I op] (Bo (nonDet op)):=by
 refine qak Tryz.func169 Tryz.ntmps169 rfl (by kernel_rfl) rfl rfl fun E h hN hh hu hb=>?_;simp-dsimp[go_sem,hN,nonDet]
 try grind
theorem c_types_plain(s:qac):APure Tryz.prog 70 [S s] (Bo (qa3 s)):=by
 refine qak Tryz.func70 Tryz.ntmps70 rfl (by kernel_rfl) rfl rfl fun E h hN hh hu hb=>?_;simp[go_sem]at hb;simp-dsimp[go_sem,hN];refine qam s.size (fun n=>allL okB ((bl s).drop n)=allL okB (bl s)) (fun n=>⟨[(0,S s),(3,I n)],h⟩) (by simp) wkA ?_;intro n hn hI;have hw:=qa2 hn hb;simp-dsimp[go_sem,hN];refine cnd ?_ ?_<;>intro hc<;>try simp at hc
 ·rw[bdrop hc,allL]at hI;simp-dsimp[go_sem,hN,hc];refine cnd (fun hg=>?_) (fun hg=>?_)
  ·simp-dsimp[go_sem,hN];simp[qa3,←hI,okB,hg]
  ·simp-dsimp[go_sem,hN,hw];exact⟨hc,by simpa[okB,hg]using hI,wkA⟩
 ·rw[bend (by omega),allL]at hI;simp-dsimp[go_sem,hN,qa3,←hI]
end Go.Proofs.YtilhejdbiionhaaGreatDoor

set_option maxRecDepth 4000
namespace Go.Proofs.YtilhejdbiionhaaGreatDoor
open Go Go.Abs Go.Cw
theorem c_num_Neg(a:Int):APure Tryz.prog 215 [I a] (.tuple [I (qdn a).1,I (qdn a).2]):=by
 refine qak Tryz.func215 Tryz.ntmps215 rfl (by kernel_rfl) rfl rfl fun E h hN hh hu hb=>?_;simp-dsimp[go_sem,hN];refine cnd ?_ ?_<;>intro h0<;>simp at h0<;>simp-dsimp[go_sem,hN,qdn,h0]
theorem c_num_Add(a b:Int):APure Tryz.prog 254 [I a,I b] (.tuple [I (numAdd a b).1,I (numAdd a b).2]):=by
 refine qak Tryz.func254 Tryz.ntmps254 rfl (by kernel_rfl) rfl rfl fun E h hN hh hu hb=>?_;simp-dsimp[go_sem,hN]
 repeat refine⟨by grind,?_⟩
 refine cnd ?_ ?_<;>intro h0<;>simp at h0<;>simp-dsimp[go_sem,hN]<;>grind[numAdd]
theorem c_num_Sub(a b:Int):APure Tryz.prog 156 [I a,I b] (.tuple [I (qb4 a b).1,I (qb4 a b).2]):=by
 refine qak Tryz.func156 Tryz.ntmps156 rfl (by kernel_rfl) rfl rfl fun E h hN hh hu hb=>?_;simp-dsimp[go_sem,hN]
 repeat refine⟨by grind,?_⟩
 refine cnd ?_ ?_<;>intro h0<;>simp at h0<;>simp-dsimp[go_sem,hN]<;>grind[qb4]
theorem c_num_Mul(a b:Int):APure Tryz.prog 255 [I a,I b] (.tuple [I (numMul a b).1,I (numMul a b).2]):=by
 refine qak Tryz.func255 Tryz.ntmps255 rfl (by kernel_rfl) rfl rfl fun E h hN hh hu hb=>?_;simp-dsimp[go_sem,hN]
 repeat refine⟨by grind,?_⟩
 refine cnd ?_ ?_<;>intro h0<;>simp at h0<;>simp-dsimp[go_sem,hN]
 ·grind[numMul]
 refine cnd ?_ ?_<;>intro h1<;>simp at h1<;>simp-dsimp[go_sem,hN]
 ·refine qaa (c_num_Neg b) ?_;simp-dsimp[go_sem,hN];grind[numMul]
 refine cnd ?_ ?_<;>intro h2<;>simp at h2<;>simp-dsimp[go_sem,hN]
 ·refine qaa (c_num_Neg a) ?_;simp-dsimp[go_sem,hN];grind[numMul]
 repeat refine⟨by grind,?_⟩
 refine cnd ?_ ?_<;>intro h3<;>simp at h3<;>simp-dsimp[go_sem,hN]<;>grind[numMul]
theorem c_num_Div(a b:Int):APure Tryz.prog 256 [I a,I b] (.tuple [I (numDiv a b).1,I (numDiv a b).2]):=by
 refine qak Tryz.func256 Tryz.ntmps256 rfl (by kernel_rfl) rfl rfl fun E h hN hh hu hb=>?_;simp-dsimp[go_sem,hN];refine cnd ?_ ?_<;>intro h0<;>simp at h0<;>simp-dsimp[go_sem,hN]
 ·grind[numDiv]
 refine cnd ?_ ?_<;>intro h1<;>simp at h1<;>simp-dsimp[go_sem,hN]
 ·refine qaa (c_num_Neg a) ?_;simp-dsimp[go_sem,hN];grind[numDiv]
 repeat refine⟨by grind,?_⟩
 refine cnd ?_ ?_<;>intro h3<;>simp at h3<;>simp-dsimp[go_sem,hN]<;>grind[numDiv]
theorem c_num_Mod(a b:Int):APure Tryz.prog 257 [I a,I b] (.tuple [I (numMod a b).1,I (numMod a b).2]):=by
 refine qak Tryz.func257 Tryz.ntmps257 rfl (by kernel_rfl) rfl rfl fun E h hN hh hu hb=>?_;simp-dsimp[go_sem,hN];refine cnd ?_ ?_<;>intro h0<;>simp at h0<;>simp-dsimp[go_sem,hN]
 ·grind[numMod]
 refine cnd ?_ ?_<;>intro h1<;>simp at h1<;>simp-dsimp[go_sem,hN]
 ·grind[numMod]
 repeat refine⟨by grind,?_⟩
 refine cnd ?_ ?_<;>intro h3<;>simp at h3<;>simp-dsimp[go_sem,hN]<;>grind[numMod]
theorem c_cmp_isNaN(a:Int):APure Tryz.prog 293 [I a] (Bo false):=by
 refine qak Tryz.func293 Tryz.ntmps293 rfl (by kernel_rfl) rfl rfl fun E h hN hh hu hb=>?_;simp-dsimp[go_sem,hN]
theorem c_cmp_isNaN64(a:Int):APure Tryz.prog 308 [I a] (Bo false):=by
 refine qak Tryz.func308 Tryz.ntmps308 rfl (by kernel_rfl) rfl rfl fun E h hN hh hu hb=>?_;simp-dsimp[go_sem,hN]
theorem c_cmp_Compare(a b:Int):APure Tryz.prog 275 [I a,I b] (I (cmpI a b)):=by
 refine qak Tryz.func275 Tryz.ntmps275 rfl (by kernel_rfl) rfl rfl fun E h hN hh hu hb=>?_;simp-dsimp[go_sem,hN];refine qaa (c_cmp_isNaN a) ?_;simp-dsimp[go_sem,hN];refine qaa (c_cmp_isNaN b) ?_;simp-dsimp[go_sem,hN];refine cnd ?_ ?_<;>intro h0<;>simp at h0<;>simp-dsimp[go_sem,hN]
 ·grind[cmpI]
 refine cnd ?_ ?_<;>intro h1<;>simp at h1<;>simp-dsimp[go_sem,hN]<;>grind[cmpI]
theorem c_cmp_Compare64(a b:Int):APure Tryz.prog 294 [I a,I b] (I (cmpI a b)):=by
 refine qak Tryz.func294 Tryz.ntmps294 rfl (by kernel_rfl) rfl rfl fun E h hN hh hu hb=>?_;simp-dsimp[go_sem,hN];refine qaa (c_cmp_isNaN64 a) ?_;simp-dsimp[go_sem,hN];refine qaa (c_cmp_isNaN64 b) ?_;simp-dsimp[go_sem,hN];refine cnd ?_ ?_<;>intro h0<;>simp at h0<;>simp-dsimp[go_sem,hN]
 ·grind[cmpI]
 refine cnd ?_ ?_<;>intro h1<;>simp at h1<;>simp-dsimp[go_sem,hN]<;>grind[cmpI]
theorem c_pair_numbers(u v:V):APure Tryz.prog 276 [.agg [I u.k,I u.n,S u.s,I v.k,I v.n,S v.s]] (I (cmpI u.n v.n)):=by
 refine qak Tryz.func276 Tryz.ntmps276 rfl (by kernel_rfl) rfl rfl fun E h hN hh hu hb=>?_;simp-dsimp[go_sem,hN];refine qaa (c_cmp_Compare64 u.n v.n) ?_;simp-dsimp[go_sem,hN]
end Go.Proofs.YtilhejdbiionhaaGreatDoor

set_option maxRecDepth 4000
namespace Go.Proofs.YtilhejdbiionhaaGreatDoor
open Go Go.Abs Go.Cw Go.Shelf
def renC:Ren:=⟨fun| 106=>295| 213=>309| 265=>312|x=>x,fun| 3=>3| 9=>9|x=>x,fun x=>x⟩
theorem laysC:Lays.n106 Tryz.prog renC where
 mixed:=by kernel_rfl
 f106:=by kernel_rfl
 f213:=by kernel_rfl
 f265:=by kernel_rfl
 t3:=by kernel_rfl
 a3:=fun _=>by kernel_rfl
 z3:=fun _=>by kernel_rfl
 v3:=fun _=>by kernel_rfl
 t9:=by kernel_rfl
 a9:=fun _=>by kernel_rfl
 z9:=fun _=>by kernel_rfl
 v9:=fun _=>by kernel_rfl
theorem c_strings_Compare(a b:qac):APure Tryz.prog 295 [S a,S b] (I (cmpS a b)) :=
 apure_calls (l:=[.string a,.string b]) (r:=.int .i64 (cmpS a b)) rfl ⟨_,laysC.f106,rfl,rfl⟩ fun w=>Any.strings_Compare laysC a b w
theorem c_pair_strings(u v:V):APure Tryz.prog 277 [.agg [I u.k,I u.n,S u.s,I v.k,I v.n,S v.s]] (I (cmpS u.s v.s)):=by
 refine qak Tryz.func277 Tryz.ntmps277 rfl (by kernel_rfl) rfl rfl fun E h hN hh hu hb=>?_;simp-dsimp[go_sem,hN];refine qaa (c_strings_Compare u.s v.s) ?_;simp-dsimp[go_sem,hN]
theorem c_value_Compare(u v:V):APure Tryz.prog 258 [.agg u.c,.agg v.c] (I (cmpV u v)):=by
 refine qak Tryz.func258 Tryz.ntmps258 rfl (by kernel_rfl) rfl rfl fun E h hN hh hu hb=>?_;simp-dsimp[go_sem,hN];refine cnd ?_ ?_<;>intro h0<;>simp at h0<;>simp-dsimp[go_sem,hN]
 ·refine qaa (c_cmp_Compare u.k v.k) ?_;simp-dsimp[go_sem,hN];simp[cmpV,h0]
 refine cnd ?_ ?_<;>intro h1<;>simp at h1<;>simp-dsimp[go_sem,hN]
 ·refine qaa (c_pair_strings u v) ?_;simp-dsimp[go_sem,hN];simp[cmpV,h0,h1]
 ·refine qaa (c_pair_numbers u v) ?_;simp-dsimp[go_sem,hN];simp[cmpV,h0,h1]
end Go.Proofs.YtilhejdbiionhaaGreatDoor

set_option maxRecDepth 4000
namespace Go.Proofs.YtilhejdbiionhaaGreatDoor
open Go Go.Abs Go.Cw
@[go_sem] theorem zero_int:zeroAV Tryz.prog 3=some (I 0):=by kernel_rfl
@[go_sem] theorem zero_bool:zeroAV Tryz.prog 4=some (Bo false):=by kernel_rfl
@[go_sem] theorem zero_Value:zeroAV Tryz.prog 54=some (.agg [I 0,I 0,S ⟨#[]⟩]):=by kernel_rfl
theorem c_types_of(vars:List (qac×Int))(e:Ex)(d:Nat)(hv:chkE e d=0)(h:qab)(m:Nat)(hm:h[m]?=some (.map (kAV I vars))) :
  ACalls Tryz.prog 270 [.agg e.x,.mapr m] h fun r h'=>r=.ret (.tuple [I (ofE vars e).1,I (ofE vars e).2])∧h'=h:=by
 refine qaz Tryz.func270 Tryz.ntmps270 rfl (by kernel_rfl) rfl fun E hN hh hu hb hb' hua=>?_;simp[go_sem]at hb;have hml:m<h.length:=(List.getElem?_eq_some_iff.1 hm).1;have a1:∀l:qab,(h++l)[m]?=h[m]?:=fun l=>List.getElem?_append_left hml;simp-dsimp[go_sem,hN];refine cnd ?_ ?_<;>intro h0<;>simp at h0
 ·have ho:ofE vars e=varT (qbg vars e.s):=by rw[ofE_eq,if_pos h0]
  rcases hk:qbg vars e.s with _|ty
  ·rw[hk]at ho;simp-dsimp[go_sem,hN,a1,hm,hk];rw[ho];exact⟨_,.refl _,h,by simp[go_sem],by simp[go_sem],by simp,by simp[hu,go_sem],rfl,rfl⟩
  ·rw[hk]at ho;simp-dsimp[go_sem,hN,a1,hm,hk]
   repeat refine⟨by grind,?_⟩
   refine cnd ?_ ?_<;>intro h1<;>simp at h1
   ·simp-dsimp[go_sem,hN];rw[ho,varT,if_pos (by omega)];exact⟨_,.refl _,h,by simp[go_sem],by simp[go_sem],by simp,by simp[hu,go_sem],rfl,rfl⟩
   ·simp-dsimp[go_sem,hN];rw[ho,varT,if_neg (by omega)];exact⟨_,.refl _,h,by simp[go_sem],by simp[go_sem],by simp,by simp[hu,go_sem],rfl,rfl⟩
 simp-dsimp[go_sem,hN];refine qap (α:=List Int) e.args.length (fun n o=>((ofL vars e.args).1=(ofL vars (e.args.drop n)).1∧((ofL vars e.args).1=0→(ofL vars e.args).2=o++(ofL vars (e.args.drop n)).2))∧o.length=n) (fun n o=>⟨[(1,.mapr m),(2,.ptr h.length 0),(8,.own (h.length+1) o.length),(39,.slice (e.args.map Ex.c)),(40,I e.args.length),(41,I n)],h++[.cells e.x,.arr 3 1 (o.map iRow)]⟩) [] (by simp) ((nil_wk E _ 8 3 1 rfl).trans ?_) ?_
 ·exact(Wk.mk (by simp[hh]) (by simp[go_sem]) (by simp[hu,qan hu,go_sem]) (by simp[go_sem];omega))
 intro n o hn ⟨⟨hI1,hI2⟩,hol⟩;have hw:=qa2 hn hb.2.1;simp-dsimp[go_sem,hN];refine cnd ?_ ?_<;>intro hc<;>simp at hc
 ·have hlt:SizeOf.sizeOf e.args[n]<SizeOf.sizeOf e:=Ex.arg_lt (List.getElem_mem hc);rw[qaf hc,ofL]at hI1 hI2;simp-dsimp[go_sem,hN,hc];refine qaj (c_types_of vars e.args[n] (d+1) (chkE_args hv _ (List.getElem_mem hc)) _ m (by rw[a1];exact hm)) ?_;rintro r h' ⟨rfl,rfl⟩;simp-dsimp[go_sem,hN];refine cnd ?_ ?_<;>intro h1<;>simp at h1
  ·simp-dsimp[go_sem,hN];rw[if_pos h1]at hI1;simp only at hI1;have ho:ofE vars e=(0,(ofE vars e.args[n]).2):=by rw[ofE_eq vars e,if_neg h0,if_pos (by rw[hI1];exact h1),hI1]
   rw[ho];exact⟨_,.refl _,h,by simp[go_sem],by simp[go_sem],by simp,by simp[hu,go_sem],rfl,rfl⟩
  ·rw[if_neg (by simpa using h1)]at hI1 hI2;simp only at hI1 hI2;simp-dsimp[go_sem,hN,hw];refine⟨by omega,hc,o++[(ofE vars e.args[n]).1],⟨⟨hI1,fun h2=>by rw[hI2 h2];simp⟩,by simp;omega⟩,?_⟩;exact(Wk.mk (by simp[hh]) (by simp[go_sem]) (by simp[hu,qan hu,go_sem]) (by simp[go_sem];omega))
 rw[List.drop_eq_nil_of_le (by omega),ofL]at hI1 hI2;simp only at hI1 hI2;have hI3:=hI2 hI1;rw[List.append_nil]at hI3;have hoe:=ofE_eq vars e;rw[if_neg h0,hI1,if_neg (by simp),hI3]at hoe;have har:=qd5 hv;simp-dsimp[go_sem,hN];refine cnd ?_ ?_<;>intro h1<;>simp at h1
 ·rw[if_pos h1]at hoe;have h2:o.length=2:=by
   have:qb0 e.op=2:=by unfold qb0;rw[if_neg (by omega),if_neg (by omega),if_neg (by omega)]
   omega
  obtain⟨x,y,rfl⟩:∃x y,o=[x,y]:=by
   match o,h2 with
   | [x,y],_=>exact⟨x,y,rfl⟩
  simp at hoe;simp-dsimp[go_sem,hN];refine qai 13 mixed (by kernel_rfl) (by kernel_rfl) ?_;simp-dsimp[go_sem,hN,iRow];refine qae (c_types_compared e.op x) (by simp) ?_;simp-dsimp[go_sem,hN]
  repeat refine⟨by grind,?_⟩
  refine cnd (fun h3=>?_) (fun h3=>?_)
  ·simp-dsimp[go_sem,hN];rw[hoe,if_pos (by simp at h3;grind)];exact⟨_,.refl _,h,by simp[go_sem],by simp[go_sem],by simp,by simp[hu,go_sem],rfl,rfl⟩
  ·simp-dsimp[go_sem,hN];rw[hoe,if_neg (by simp at h3;grind)];exact⟨_,.refl _,h,by simp[go_sem],by simp[go_sem],by simp,by simp[hu,go_sem],rfl,rfl⟩
 rw[if_neg (by omega)]at hoe;simp-dsimp[go_sem,hN];refine qaa (c_types_signature e.op) ?_;simp-dsimp[go_sem,hN];refine qam o.length (fun n=>(o.drop n).all (fun t=>decide (t=(qcm e.op).1))=o.all (fun t=>decide (t=(qcm e.op).1))) (fun n=>⟨[(13,I (qcm e.op).1),(14,I (qcm e.op).2),(89,.slice (o.map iRow)),(90,I o.length),(91,I n)],h⟩) (by simp) ((norm_wk E _).trans ?_) ?_
 ·exact(Wk.mk (by simp[hh]) (by simp[go_sem]) (by simp[hu,qan hu,go_sem]) (by simp[go_sem];try omega))
 intro n hn hJ;have hw:=qa2 hn (by omega);simp-dsimp[go_sem,hN];refine cnd ?_ ?_<;>intro hc<;>simp at hc
 ·rw[qaf hc,List.all_cons]at hJ;simp-dsimp[go_sem,hN,hc,iRow];refine cnd ?_ ?_<;>intro h3<;>simp at h3
  ·simp-dsimp[go_sem,hN];rw[hoe,if_neg (by rw[←hJ];simp[h3])];exact⟨_,.refl _,h,by simp[go_sem],by simp[go_sem],by simp,by simp[hu,go_sem],rfl,rfl⟩
  ·simp-dsimp[go_sem,hN,hw];refine⟨hc,by simpa[h3]using hJ,?_⟩;exact(Wk.mk (by simp[hh]) (by simp[go_sem]) (by simp[hu,qan hu,go_sem]) (by simp[go_sem];try omega))
 ·rw[List.drop_eq_nil_of_le (by omega)]at hJ;simp-dsimp[go_sem,hN];rw[hoe,if_pos (by rw[←hJ];rfl)];exact⟨_,.refl _,h,by simp[go_sem],by simp[go_sem],by simp,by simp[hu,go_sem],rfl,rfl⟩
termination_by SizeOf.sizeOf e
end Go.Proofs.YtilhejdbiionhaaGreatDoor
