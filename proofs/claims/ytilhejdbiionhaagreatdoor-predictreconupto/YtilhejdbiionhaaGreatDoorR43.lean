/- Part 43 of a proof: W46, W46b, W46c, W46d, W46e -/
import Derived.Test.YtilhejdbiionhaaGreatDoorR20
import Derived.Test.YtilhejdbiionhaaGreatDoorR27
import Derived.Test.YtilhejdbiionhaaGreatDoorR42
set_option linter.all false

set_option maxRecDepth 4000
set_option maxHeartbeats 4000000
namespace Go.Proofs.YtilhejdbiionhaaGreatDoor
open Go Go.Abs Go.Cw
section
attribute [local go_sem] RM.c
variable (C:Cfg)
theorem c_ref15_two(m:RM)(op:Int)(a b:V)(ha:qcx a)(hb2:qcx b):APure Tryz.prog 272 [.agg (m.c C),I op,.agg a.c,.agg b.c] (.tuple [.agg (twoR m op a b).1.c,.agg ((twoR m op a b).2.c C)]):=by
 refine qak Tryz.func272 Tryz.ntmps272 rfl (by kernel_rfl) rfl rfl fun E h hN hh hu hb=>?_;by_cases hA:op=4∨op=5∨op=6∨op=7∨op=8
 ·have e:twoR m op a b=if a.k=1∧b.k=1 then calcR m (arithR op a.n b.n)else(V.nil,m.ab 1009):=by unfold twoR;rw[if_pos hA]
  rw[e];rcases hA with rfl|rfl|rfl|rfl|rfl <;>
  ·simp-dsimp[go_sem,hN];refine cnd (fun h1=>?_) (fun h1=>?_)
   ·rw[if_neg (by simp at h1;grind)];simp-dsimp[go_sem,hN];refine qaa (qbf C m) ?_;simp-dsimp[go_sem,hN]
   ·rw[if_pos (by simpa using h1)];simp-dsimp[go_sem,hN];refine qaa (c_ref15_arithmetic _ a.n b.n ha.1 hb2.1) ?_;simp-dsimp[go_sem,hN];refine qaa (c_ref15_calculated C m _ _) ?_;simp-dsimp[go_sem,hN]
 have hA':op≠4∧op≠5∧op≠6∧op≠7∧op≠8:=by simpa using hA
 obtain⟨n4,n5,n6,n7,n8⟩:=hA';by_cases h16:op=16
 ·subst h16;have e:twoR m 16 a b=if a.k=3∧b.k=3 then(vB (decide (a.n=1)&&decide (b.n=1)),m)else(V.nil,m.ab 1009):=by unfold twoR;simp
  rw[e];simp-dsimp[go_sem,hN];refine cnd (fun h1=>?_) (fun h1=>?_)
  ·rw[if_neg (by simp at h1;grind)];simp-dsimp[go_sem,hN];refine qaa (qbf C m) ?_;simp-dsimp[go_sem,hN]
  ·rw[if_pos (by simpa using h1)];simp-dsimp[go_sem,hN];refine qa4 11 mixed (by kernel_rfl) ?_;simp-dsimp[go_sem,hN];refine qax (qc3 _) (by simp) ?_;simp-dsimp[go_sem,hN]
   all_goals try simp[sepD,List.zipIdx]
 by_cases h17:op=17
 ·subst h17;have e:twoR m 17 a b=if a.k=3∧b.k=3 then(vB (decide (a.n=1)||decide (b.n=1)),m)else(V.nil,m.ab 1009):=by unfold twoR;simp
  rw[e];simp-dsimp[go_sem,hN];refine cnd (fun h1=>?_) (fun h1=>?_)
  ·rw[if_neg (by simp at h1;grind)];simp-dsimp[go_sem,hN];refine qaa (qbf C m) ?_;simp-dsimp[go_sem,hN]
  ·rw[if_pos (by simpa using h1)];simp-dsimp[go_sem,hN];refine qa4 11 mixed (by kernel_rfl) ?_;simp-dsimp[go_sem,hN];refine qax (qc3 _) (by simp) ?_;simp-dsimp[go_sem,hN]
   all_goals try simp[sepD,List.zipIdx]
 by_cases h19:op=19
 ·subst h19;have hwid:IntKind.i64.wrap ((a.s.size:Int)+b.s.size)=(a.s.size:Int)+b.s.size:=wrapI (by omega) (by have:=ha.2;have:=hb2.2;omega);have hw64:W64 ((a.s.size:Int)+b.s.size)=(a.s.size:Int)+b.s.size:=hwid;have e:twoR m 19 a b=if a.k=2∧b.k=2 then(if 64<W64 (a.s.size+b.s.size:Int)then(V.nil,m.ab 1006)else(vS (a.s++b.s),m))else(V.nil,m.ab 1009):=by unfold twoR;simp
  rw[hw64]at e;rw[e];simp-dsimp[go_sem,hN,hwid];refine cnd (fun h1=>?_) (fun h1=>?_)
  ·rw[if_neg (by simp at h1;grind)];simp-dsimp[go_sem,hN];refine qaa (qbf C m) ?_;simp-dsimp[go_sem,hN]
  ·rw[if_pos (by simpa using h1)];simp-dsimp[go_sem,hN,hwid];refine cnd ?_ ?_<;>intro h2<;>simp at h2
   ·rw[if_pos h2];simp-dsimp[go_sem,hN];refine qaa (qbm C m 1006) ?_;simp-dsimp[go_sem,hN]
   ·rw[if_neg (by omega)];simp-dsimp[go_sem,hN];refine qa4 8 mixed (by kernel_rfl) ?_;simp-dsimp[go_sem,hN,vS]
    try omega
    all_goals try simp[sepD,List.zipIdx]
    all_goals try omega
 have e:twoR m op a b=if (a.k=1∧b.k=1)∨(a.k=2∧b.k=2)∨(a.k=3∧b.k=3∧(op=10∨op=11))then(vB (cmpBy op (cmpR a b)),m)else(V.nil,m.ab 1009):=by
  unfold twoR;rw[if_neg hA,if_neg h16,if_neg h17,if_neg h19]
 rw[e];simp-dsimp[go_sem,hN,n4,n5,n6,n7,n8,h16,h17,h19]
 repeat refine⟨by grind,?_⟩
 refine cnd (fun h1=>?_) (fun h1=>?_)
 ·rw[if_neg (by simp at h1;grind)];simp-dsimp[go_sem,hN];refine qaa (qbf C m) ?_;simp-dsimp[go_sem,hN]
 ·rw[if_pos (by simp at h1;grind)];simp-dsimp[go_sem,hN];refine cnd ?_ ?_<;>intro h2<;>simp at h2
  ·have e2:cmpR a b = -1:=by unfold cmpR;rw[if_pos h2]
   rw[e2];simp-dsimp[go_sem,hN];refine qa4 6 mixed (by kernel_rfl) ?_;simp-dsimp[go_sem,hN];refine qax (c_ref15_compared op (-1)) (by simp) ?_;simp-dsimp[go_sem,hN];refine qax (qc3 _) (by simp) ?_;simp-dsimp[go_sem,hN]
   all_goals try simp[sepD,List.zipIdx]
  ·simp-dsimp[go_sem,hN];refine cnd ?_ ?_<;>intro h3<;>simp at h3
   ·have e2:cmpR a b=1:=by unfold cmpR;rw[if_neg (by grind),if_neg (by unfold eqVal;grind)]
    rw[e2];simp-dsimp[go_sem,hN];refine qa4 6 mixed (by kernel_rfl) ?_;simp-dsimp[go_sem,hN];refine qax (c_ref15_compared op 1) (by simp) ?_;simp-dsimp[go_sem,hN];refine qax (qc3 _) (by simp) ?_;simp-dsimp[go_sem,hN]
    all_goals try simp[sepD,List.zipIdx]
   ·have e2:cmpR a b=0:=by unfold cmpR;rw[if_neg (by grind),if_pos (by unfold eqVal;grind)]
    rw[e2];simp-dsimp[go_sem,hN];refine qa4 6 mixed (by kernel_rfl) ?_;simp-dsimp[go_sem,hN];refine qax (c_ref15_compared op 0) (by simp) ?_;simp-dsimp[go_sem,hN];refine qax (qc3 _) (by simp) ?_;simp-dsimp[go_sem,hN]
    all_goals try simp[sepD,List.zipIdx]
theorem c_ref15_one(m:RM)(op:Int)(a:V)(ha:qcx a)(hF:∀n,i64 n→APure Tryz.prog 287 [I n] (S (C.fmt n)))(hB:m.reads.length+1≤68719476736):APure Tryz.prog 273 [.agg (m.c C),I op,.agg a.c] (.tuple [.agg (oneR C m op a).1.c,.agg ((oneR C m op a).2.c C)]):=by
 refine qak Tryz.func273 Tryz.ntmps273 rfl (by kernel_rfl) rfl rfl fun E h hN hh hu hb=>?_;have hw:(∀X:Prop,X→X):=fun _ h=>h;by_cases h9:op=9
 ·subst h9;have e:oneR C m 9 a=if a.k≠1 then(V.nil,m.ab 1009)else calcR m (qdn a.n):=by unfold oneR;simp[wantR]
  rw[e];simp-dsimp[go_sem,hN];refine cnd (fun h1=>?_) (fun h1=>?_)
  ·rw[if_pos (by simpa using h1)];simp-dsimp[go_sem,hN];refine qaa (qbf C m) ?_;simp-dsimp[go_sem,hN]
  ·rw[if_neg (by simpa using h1)];simp-dsimp[go_sem,hN];refine qaa (c_ref01_Neg a.n ha.1) ?_;simp-dsimp[go_sem,hN];refine qaa (c_ref15_calculated C m _ _) ?_;simp-dsimp[go_sem,hN]
 by_cases h18:op=18
 ·subst h18;have e:oneR C m 18 a=if a.k≠3 then(V.nil,m.ab 1009)else(vB (decide (a.n=0)),m):=by unfold oneR;simp[wantR]
  rw[e];simp-dsimp[go_sem,hN];refine cnd (fun h1=>?_) (fun h1=>?_)
  ·rw[if_pos (by simpa using h1)];simp-dsimp[go_sem,hN];refine qaa (qbf C m) ?_;simp-dsimp[go_sem,hN]
  ·rw[if_neg (by simpa using h1)];simp-dsimp[go_sem,hN];refine qa4 6 mixed (by kernel_rfl) ?_;simp-dsimp[go_sem,hN];refine qax (qc3 _) (by simp) ?_;simp-dsimp[go_sem,hN]
   all_goals try simp[sepD,List.zipIdx]
 by_cases h20:op=20
 ·subst h20;have e:oneR C m 20 a=if a.k≠1 then(V.nil,m.ab 1009)else(vS (C.fmt a.n),m):=by unfold oneR;simp[wantR]
  rw[e];simp-dsimp[go_sem,hN];refine cnd (fun h1=>?_) (fun h1=>?_)
  ·rw[if_pos (by simpa using h1)];simp-dsimp[go_sem,hN];refine qaa (qbf C m) ?_;simp-dsimp[go_sem,hN]
  ·rw[if_neg (by simpa using h1)];simp-dsimp[go_sem,hN];refine qa4 6 mixed (by kernel_rfl) ?_;simp-dsimp[go_sem,hN];refine qax (hF a.n ha.1) (by simp) ?_;simp-dsimp[go_sem,hN,vS]
   all_goals try simp[sepD,List.zipIdx]
 by_cases h21:op=21
 ·subst h21;have e:oneR C m 21 a=if a.k≠2 then(V.nil,m.ab 1009)else(vI a.s.size,m):=by unfold oneR;simp[wantR]
  rw[e];simp-dsimp[go_sem,hN];refine cnd (fun h1=>?_) (fun h1=>?_)
  ·rw[if_pos (by simpa using h1)];simp-dsimp[go_sem,hN];refine qaa (qbf C m) ?_;simp-dsimp[go_sem,hN]
  ·rw[if_neg (by simpa using h1)];simp-dsimp[go_sem,hN];refine qa4 6 mixed (by kernel_rfl) ?_;simp-dsimp[go_sem,hN];refine qax (c_ref15_num a.s.size) (by simp) ?_;simp-dsimp[go_sem,hN]
   all_goals try simp[sepD,List.zipIdx]
 have e:oneR C m op a=if a.k≠2 then(V.nil,m.ab 1009)else
   if (qbl C m a.s).2.st≠0 then(V.nil,(qbl C m a.s).2)
   else if op=24 then(vB (!decide ((qbl C m a.s).1.k=0)),(qbl C m a.s).2)
   else if (qbl C m a.s).1.k=0 then(⟨if op=23 then 2 else 1,0,em⟩,(qbl C m a.s).2)
   else if (qbl C m a.s).1.k≠(if op=23 then 2 else 1)then(V.nil,(qbl C m a.s).2.ab 1003)
   else((qbl C m a.s).1,(qbl C m a.s).2):=by
  unfold oneR wantR;simp only[h9,h18,h20,h21,if_false,or_self]
 rw[e];simp-dsimp[go_sem,hN,h9,h18,h20,h21];refine cnd (fun h1=>?_) (fun h1=>?_)
 ·rw[if_pos (by simpa using h1)];simp-dsimp[go_sem,hN];refine qaa (qbf C m) ?_;simp-dsimp[go_sem,hN]
 rw[if_neg (by simpa using h1)];simp-dsimp[go_sem,hN,h9,h18,h20,h21];refine qaa (c_ref15_Fetch C m a.s hB) ?_;obtain⟨x,hx⟩:∃x,qbl C m a.s=x:=⟨_,rfl⟩
 obtain⟨v,t⟩:=x;simp only[hx];simp-dsimp[go_sem,hN];refine qaa (qbw C t) ?_;simp-dsimp[go_sem,hN];refine cnd ?_ ?_<;>intro h2<;>simp at h2
 ·rw[if_pos h2];simp-dsimp[go_sem,hN];refine qa4 3 mixed (by kernel_rfl) ?_;simp-dsimp[go_sem,hN,V.nil]
  all_goals try simp[sepD,List.zipIdx]
 rw[if_neg (by simp[h2])];simp-dsimp[go_sem,hN];refine cnd ?_ ?_<;>intro h3<;>simp at h3
 ·rw[if_pos h3];simp-dsimp[go_sem,hN];refine qa4 6 mixed (by kernel_rfl) ?_;simp-dsimp[go_sem,hN];refine qax (qc3 _) (by simp) ?_;simp-dsimp[go_sem,hN]
  all_goals try simp[sepD,List.zipIdx]
 rw[if_neg h3];simp-dsimp[go_sem,hN];by_cases h23:op=23
 ·subst h23;simp-dsimp[go_sem,hN];refine cnd ?_ ?_<;>intro h4<;>simp at h4
  ·rw[if_pos h4];simp-dsimp[go_sem,hN];refine qa4 4 mixed (by kernel_rfl) ?_;simp-dsimp[go_sem,hN]
   all_goals try simp[sepD,List.zipIdx]
  rw[if_neg h4];simp-dsimp[go_sem,hN];refine cnd ?_ ?_<;>intro h5<;>simp at h5
  ·rw[if_pos (by simpa using h5)];simp-dsimp[go_sem,hN];refine qaa (qbm C t 1003) ?_;simp-dsimp[go_sem,hN,V.nil]
  rw[if_neg (by simpa using h5)];simp-dsimp[go_sem,hN];refine qa4 3 mixed (by kernel_rfl) ?_;simp-dsimp[go_sem,hN]
  all_goals try simp[sepD,List.zipIdx]
 ·simp-dsimp[go_sem,hN,h23];refine cnd ?_ ?_<;>intro h4<;>simp at h4
  ·rw[if_pos h4];simp-dsimp[go_sem,hN,h23];refine qa4 4 mixed (by kernel_rfl) ?_;simp-dsimp[go_sem,hN,h23]
   all_goals try simp[sepD,List.zipIdx]
  rw[if_neg h4];simp-dsimp[go_sem,hN];refine cnd ?_ ?_<;>intro h5<;>simp at h5
  ·rw[if_pos (by simpa[h23]using h5)];simp-dsimp[go_sem,hN];refine qaa (qbm C t 1003) ?_;simp-dsimp[go_sem,hN,V.nil]
  rw[if_neg (by simpa[h23]using h5)];simp-dsimp[go_sem,hN];refine qa4 3 mixed (by kernel_rfl) ?_;simp-dsimp[go_sem,hN]
  all_goals try simp[sepD,List.zipIdx]
theorem c_ref15_Operate(m:RM)(op:Int)(l:List V)(hl:∀v∈l,qcx v)(hF:∀n,i64 n→APure Tryz.prog 287 [I n] (S (C.fmt n)))(hB:m.reads.length+1≤68719476736):APure Tryz.prog 244 [.agg (m.c C),I op,.slice (l.map V.c)] (.tuple [.agg (opR C m op l).1.c,.agg ((opR C m op l).2.c C)]):=by
 refine qak Tryz.func244 Tryz.ntmps244 rfl (by kernel_rfl) rfl rfl fun E h hN hh hu hb=>?_;rcases l with _|⟨a,_|⟨b,_|⟨c,r⟩⟩⟩
 ·rw[show opR C m op []=(V.nil,m.ab 1009)from rfl];simp-dsimp[go_sem,hN];refine qaa (qbf C m) ?_;simp-dsimp[go_sem,hN]
 ·rw[show opR C m op [a]=oneR C m op a from rfl];simp-dsimp[go_sem,hN];refine qai 8 mixed (by kernel_rfl) (by kernel_rfl) ?_;simp-dsimp[go_sem,hN];refine qax (c_ref15_one C m op a (hl a (by simp)) hF hB) (fun _=>trivial) ?_;simp-dsimp[go_sem,hN]
  all_goals try simp[sepD,List.zipIdx]
 ·rw[show opR C m op [a,b]=twoR m op a b from rfl];simp-dsimp[go_sem,hN];refine qai 11 mixed (by kernel_rfl) (by kernel_rfl) ?_;simp-dsimp[go_sem,hN];refine qax (c_ref15_two C m op a b (hl a (by simp)) (hl b (by simp))) (fun _=>trivial) ?_;simp-dsimp[go_sem,hN]
  all_goals try simp[sepD,List.zipIdx]
 ·rw[show opR C m op (a::b::c::r)=(V.nil,m.ab 1009)from rfl];simp-dsimp[go_sem,hN];refine cnd ?_ ?_<;>intro h1<;>simp at h1
  ·omega
  simp-dsimp[go_sem,hN];refine cnd ?_ ?_<;>intro h1<;>simp at h1
  ·omega
  simp-dsimp[go_sem,hN];refine qaa (qbf C m) ?_;simp-dsimp[go_sem,hN]
end
end Go.Proofs.YtilhejdbiionhaaGreatDoor

set_option maxRecDepth 4000
set_option maxHeartbeats 4000000
namespace Go.Proofs.YtilhejdbiionhaaGreatDoor
open Go Go.Abs Go.Cw
section
attribute [local go_sem] RM.c
variable (C:Cfg) (hC:rngC C) (hf:∀n,i64 n→qa3 (C.fmt n)=true) (hF:∀n,i64 n→APure Tryz.prog 287 [I n] (S (C.fmt n)))
abbrev zRM:List AV:=[.nils,Bo false,.nils,.nils,.nils,.nils,I 0,I 0,.nils,.nils,.nils,.nils,S em,I 0]
include hC hf hF
theorem c_ref15_eval_of(e:Ex)(m:RM)(r p:Nat)(hX:rngX e)(hI0:RInv (r+nodes e) p m)(hm:m.st=0)
  (hEA:∀a∈e.args,∀(m:RM) (r p:Nat),rngX a→RInv (r+nodes a) p m→m.st=0→APure Tryz.prog 199 [.agg (m.c C),.agg a.x] (.tuple [.agg (evR C a m).1.c,.agg ((evR C a m).2.c C)])) :
  APure Tryz.prog 199 [.agg (m.c C),.agg e.x] (.tuple [.agg (evR C e m).1.c,.agg ((evR C e m).2.c C)]):=by
 refine qak Tryz.func199 Tryz.ntmps199 rfl (by kernel_rfl) rfl rfl fun E h hN hh hu hb=>?_;have hX':=(qdd _).1 hX;simp[go_sem]at hb;rw[evR_eq];simp-dsimp[go_sem,hN];refine cnd ?_ ?_<;>intro h1<;>simp at h1
 ·rw[if_pos h1];simp-dsimp[go_sem,hN];refine qa4 5 mixed (by kernel_rfl) ?_;simp-dsimp[go_sem,hN];refine qax (c_ref15_num e.n) (by simp) ?_;simp-dsimp[go_sem,hN]
  all_goals try simp[sepD,List.zipIdx]
 rw[if_neg h1];simp-dsimp[go_sem,hN];refine cnd ?_ ?_<;>intro h2<;>simp at h2
 ·rw[if_pos h2];simp-dsimp[go_sem,hN];refine qa4 5 mixed (by kernel_rfl) ?_;simp-dsimp[go_sem,hN,vS]
  all_goals try simp[sepD,List.zipIdx]
 rw[if_neg h2];simp-dsimp[go_sem,hN];refine cnd ?_ ?_<;>intro h3<;>simp at h3
 ·rw[if_pos h3];simp-dsimp[go_sem,hN];refine qaa (c_ref06_Has m.vars e.s) ?_;simp-dsimp[go_sem,hN];refine cnd ?_ ?_<;>intro h4<;>simp at h4
  ·rw[if_neg (by simp[h4])];simp-dsimp[go_sem,hN];refine qaa (qbf C m) ?_;simp-dsimp[go_sem,hN]
  ·rw[if_pos h4];simp-dsimp[go_sem,hN];refine qa4 7 mixed (by kernel_rfl) ?_;simp-dsimp[go_sem,hN];refine qax (c_ref06_Get m.vars e.s) (by simp) ?_;simp-dsimp[go_sem,hN]
   all_goals try simp[sepD,List.zipIdx]
 rw[if_neg h3];simp-dsimp[go_sem,hN];have hn:=nodes_eq e;refine qap (α:=List V×RM) e.args.length (fun n a=>a.1.length=n∧(∀v∈a.1,qcx v)∧a.2.st=0∧RInv (r+1+nodesL (e.args.drop n)) p a.2∧evRL C e.args m=(a.1++(evRL C (e.args.drop n) a.2).1,(evRL C (e.args.drop n) a.2).2))
  (fun n a=>⟨[(2,P0 h.length),(3,P0 (h.length+1)),(4,P0 (h.length+2)),(5,P0 (h.length+3)),(6,.own (h.length+4) a.1.length),(7,I n)],h++[.cells (a.2.c C),.cells e.x,.cells [I 0,I 0,S em],.cells zRM,.arr 54 3 (a.1.map V.c)]⟩)
  ([],m) ⟨rfl,by simp,hm,by simpa using hI0.mono (by omega) (Nat.le_refl _),by simp⟩ ((nil_wk E _ 6 54 3 (by simp[go_sem])).trans ?_) ?_
 ·simp;exact wkA
 rintro n ⟨acc,mm⟩ hn' ⟨hal,hav,hms,hRI,hI⟩;dsimp only at hal hav hms hRI hI;have hw:=qa2 hn' (show _≤68719476736 by first|exact hb.2.1|exact hb.2|exact hb.1|omega);simp-dsimp[go_sem,hN];refine cnd ?_ ?_<;>intro hc<;>simp at hc
 ·rw[qaf hc]at hI hRI;rw[nodesL_cons]at hRI;rw[evRL]at hI;have hRI':RInv ((r+1+nodesL (e.args.drop (n+1)))+nodes e.args[n]) p mm:=hRI.mono (by omega) (Nat.le_refl _);have hE:=evR_inv hC hf e.args[n] mm _ p (hX'.2 _ (List.getElem_mem hc)) hRI' hms;simp-dsimp[go_sem,hN,hc];refine qa4 13 mixed (by kernel_rfl) ?_;simp-dsimp[go_sem,hN,hc];refine qax (hEA e.args[n] (List.getElem_mem hc) mm _ p (hX'.2 _ (List.getElem_mem hc)) hRI' hms) (by simp) ?_;obtain⟨x,hx⟩:∃x,evR C e.args[n] mm=x:=⟨_,rfl⟩
  obtain⟨v,t⟩:=x;simp only[hx]at hI hE⊢;simp-dsimp[go_sem,hN];refine⟨by simp[sepD,List.zipIdx],?_⟩;refine qaa (qbw C t) ?_;simp-dsimp[go_sem,hN];refine cnd ?_ ?_<;>intro h4<;>simp at h4
  ·rw[if_pos h4]at hI;rw[hI,if_pos h4];simp-dsimp[go_sem,hN];refine qa4 3 mixed (by kernel_rfl) ?_;simp-dsimp[go_sem,hN,V.nil]
   all_goals try simp[sepD,List.zipIdx]
  ·rw[if_neg (by simp[h4])]at hI;have hE':=hE h4;simp-dsimp[go_sem,hN,hw];refine⟨by omega,hc,acc++[v],t,⟨by simp[hal],?_,h4,hE'.1,?_⟩,wkA⟩
   ·intro u hu;rcases List.mem_append.1 hu with hu|hu
    ·exact hav u hu
    ·simp at hu;subst hu;exact hE'.2
   ·rw[hI];simp
 ·rw[List.drop_eq_nil_of_le (by omega),evRL]at hI;simp only[List.append_nil]at hI;rw[hI,if_neg (by simp[hms])];simp-dsimp[go_sem,hN];have hbd:=hRI.lenR;refine qaa (c_ref15_Operate C mm e.op acc hav hF (by omega)) ?_;simp-dsimp[go_sem,hN]
theorem c_ref15_eval(e:Ex)(m:RM)(r p:Nat)(hX:rngX e)(hI0:RInv (r+nodes e) p m)(hm:m.st=0):APure Tryz.prog 199 [.agg (m.c C),.agg e.x] (.tuple [.agg (evR C e m).1.c,.agg ((evR C e m).2.c C)]) :=
 c_ref15_eval_of C hC hf hF e m r p hX hI0 hm (fun a ha m' r' p' hXa hIa hma=>by
  have hlt:SizeOf.sizeOf a<SizeOf.sizeOf e:=Ex.arg_lt ha;exact c_ref15_eval a m' r' p' hXa hIa hma)
termination_by SizeOf.sizeOf e
end
end Go.Proofs.YtilhejdbiionhaaGreatDoor

set_option maxRecDepth 4000
set_option maxHeartbeats 400000
namespace Go.Proofs.YtilhejdbiionhaaGreatDoor
open Go Go.Abs Go.Cw
abbrev zRL:List AV:=[.nils,Bo false,.nils,.nils,.nils,.nils,I 0,I 0,.nils,.nils,.nils,.nils,S em,I 0]
section
attribute [local go_sem] RM.c
variable (C:Cfg) (hC:rngC C) (hf:∀n,i64 n→qa3 (C.fmt n)=true) (hF:∀n,i64 n→APure Tryz.prog 287 [I n] (S (C.fmt n)))
include hC hf hF
theorem c_ref15_loop(s:St)(a b:Int)(m:RM)(ha:i64 a)(hb2:i64 b)(hI0:RInv 0 0 m)(hm:m.st=0)
  (hBd:∀m,RInv 0 0 m→m.st=0→APure Tryz.prog 100 [.agg (m.c C),.slice (s.body.map St.c)] (.agg ((blkR C s.body m).c C)))
  (hBi:∀m,RInv 0 0 m→m.st=0→(blkR C s.body m).st=0→RInv 0 0 (blkR C s.body m)) :
  APure Tryz.prog 202 [.agg (m.c C),.agg s.x,I a,I b] (.agg ((if a<b∧((qb4 b a).2≠0∨s.max<(qb4 b a).1)then m.ab 1005 else loopR (blkR C s.body) s.name b (b - a).toNat a m).c C)):=by
 refine qak Tryz.func202 Tryz.ntmps202 rfl (by kernel_rfl) rfl rfl fun E h hN hh hu hb=>?_;simp[go_sem]at hb;obtain⟨R,hR⟩:∃R,(if a<b∧((qb4 b a).2≠0∨s.max<(qb4 b a).1)then m.ab 1005 else loopR (blkR C s.body) s.name b (b - a).toNat a m)=R:=⟨_,rfl⟩
 rw[hR];simp-dsimp[go_sem,hN];refine qaa (c_ref01_Sub b a hb2 ha) ?_;simp-dsimp[go_sem,hN];refine⟨by grind,?_⟩;refine cnd (fun h1=>?_) (fun h1=>?_)
 ·rw[if_pos (by simp at h1;grind)]at hR;subst hR;simp-dsimp[go_sem,hN];refine qaa (qbm C m 1005) ?_;simp-dsimp[go_sem,hN]
 rw[if_neg (by simp at h1;grind)]at hR;simp-dsimp[go_sem,hN];have hab:b - a<18446744073709551616:=by have:=ha.1;have:=hb2.2;omega
 refine qap (α:=RM) (b - a).toNat (fun n mm=>(mm.st=0→RInv 0 0 mm)∧loopR (blkR C s.body) s.name b ((b - a).toNat - n) (a+n) mm=R)
  (fun n mm=>⟨[(3,I b),(4,P0 h.length),(5,P0 (h.length+1)),(8,P0 (h.length+2)),(11,I (a+n))],h++[.cells (mm.c C),.cells s.x,.cells zRL]⟩) m ⟨fun _=>hI0,by simpa using hR⟩ wkA ?_
 rintro n mm hn ⟨hRI,hI⟩;simp-dsimp[go_sem,hN];refine qae (qbw C mm) (by simp) ?_;simp-dsimp[go_sem,hN];refine cnd ?_ ?_<;>intro hc<;>simp at hc
 ·have hlt:n<(b - a).toNat:=by omega
  have hif:i64 (a+n):=⟨by have:=ha.1;omega,by have:=hb2.2;omega⟩
  have hw:IntKind.i64.wrap (a+(n:Int)+1)=a+((n+1:Nat):Int):=by rw[wrapI (by have:=ha.1;omega) (by have:=hb2.2;omega)];omega
  have hRI:=hRI hc.2;have hcast:a+((n:Int)+1)=a+((n+1:Nat):Int):=by omega
  obtain⟨f,hfu⟩:∃f,(b - a).toNat - n=f+1:=⟨(b - a).toNat - n - 1,by omega⟩
  have hfu2:(b - a).toNat - (n+1)=f:=by omega
  have hTick:=c_ref15_Tick C mm;have hTi:=fun h2=>tickR_inv hRI h2;rw[hfu,loopR,if_pos ⟨by omega,hc.2⟩,show W64 (a+(n:Int)+1)=a+((n+1:Nat):Int)from hw]at hI;obtain⟨T,hTe⟩:∃T,qdo mm=T:=⟨_,rfl⟩
  rw[hTe]at hI hTick hTi;have hTr:=qbw C T;simp-dsimp[go_sem,hN];refine qaa hTick ?_;simp-dsimp[go_sem,hN];refine qaa hTr ?_;simp-dsimp[go_sem,hN];refine cnd ?_ ?_<;>intro h2<;>simp at h2
  ·have hT:=hTi h2;have hV:=hT.var (p:=0) (rng_vI hif) s.name;have hlv:=hT.lenV;rw[if_pos h2]at hI;have hset:=c_ref15_set T.vars ⟨s.name,vI (a+n)⟩ (by omega);have hV0:=hV.mono (Nat.zero_le _) (Nat.le_refl _);have hB1:=hBd _ hV0 h2;have hB2:=hBi _ hV0 h2;obtain⟨V,hVe⟩:∃V,setR T.vars ⟨s.name,vI (a+n)⟩=V:=⟨_,rfl⟩
   rw[hVe]at hset;simp only[hVe]at hB1 hB2 hI;obtain⟨B,hBe⟩:∃B,blkR C s.body { T with vars:=V }=B:=⟨_,rfl⟩
   simp only[hBe]at hB1 hB2 hI;simp only[RM.c]at hB1;simp-dsimp[go_sem,hN];refine qai 7 mixed (by kernel_rfl) (by kernel_rfl) ?_;simp-dsimp[go_sem,hN];refine qax (c_ref15_num (a+n)) (by simp) ?_;simp-dsimp[go_sem,hN];refine qaa hset ?_;simp-dsimp[go_sem,hN];refine qaa hB1 ?_;simp-dsimp[go_sem,hN,hw];have hlt2:(n:Int)<b - a:=by omega
   refine⟨hlt2,B,⟨hB2,?_⟩,?_⟩
   ·rw[hfu2,hcast];exact hI
   ·exact wkA
  ·rw[if_neg h2]at hI;simp-dsimp[go_sem,hN,hw];refine⟨by omega,T,⟨fun h3=>absurd h3 h2,by rw[hfu2,hcast];exact hI⟩,wkA⟩
 ·have he:loopR (blkR C s.body) s.name b ((b - a).toNat - n) (a+n) mm=mm:=by
   by_cases h2:mm.st=0
   ·exact loopR_end _ (fun g=>hc g h2)
   ·exact loopR_dead _ _ h2
  rw[he]at hI;subst hI;simp-dsimp[go_sem,hN]
end
end Go.Proofs.YtilhejdbiionhaaGreatDoor

set_option maxRecDepth 4000
set_option maxHeartbeats 4000000
namespace Go.Proofs.YtilhejdbiionhaaGreatDoor
open Go Go.Abs Go.Cw
section
attribute [local go_sem] RM.c
variable (C:Cfg) (hC:rngC C) (hf:∀n,i64 n→qa3 (C.fmt n)=true) (hF:∀n,i64 n→APure Tryz.prog 287 [I n] (S (C.fmt n)))
include hC hf hF
theorem c_ref15_stmt_of(t:St)(d:Nat)(m:RM)(hok:okS t d)(hg:goS t)(hI0:RInv 8192 1 m)(hm:m.st=0)
  (hB1:∀m,RInv 0 0 m→m.st=0→APure Tryz.prog 100 [.agg (m.c C),.slice (t.body.map St.c)] (.agg ((blkR C t.body m).c C)))
  (hB2:∀m,RInv 0 0 m→m.st=0→APure Tryz.prog 100 [.agg (m.c C),.slice (t.els.map St.c)] (.agg ((blkR C t.els m).c C))) :
  APure Tryz.prog 153 [.agg (m.c C),.agg t.x] (.agg ((stR C t m).c C)):=by
 refine qak Tryz.func153 Tryz.ntmps153 rfl (by kernel_rfl) rfl rfl fun E h hN hh hu hb=>?_;have hok':=(qco _ _).1 hok;have hg':=(goS_iff _).1 hg;have hop:=okS_op hok;simp[go_sem]at hb;obtain⟨R,hR⟩:∃R,stR C t m=R:=⟨_,rfl⟩
 rw[hR];rw[stR_eq]at hR;simp-dsimp[go_sem,hN];refine cnd ?_ ?_<;>intro h8<;>simp at h8
 ·rw[if_pos h8]at hR;subst hR;simp-dsimp[go_sem,hN];refine qaa (qbm C m t.max) ?_;simp-dsimp[go_sem,hN]
 rw[if_neg h8]at hR;have hgx:=hg'.1 h8;have hI1:RInv (4097+nodes t.a) 1 m:=hI0.mono (by have:=hgx.2;omega) (Nat.le_refl _);have hEv:=c_ref15_eval C hC hf hF t.a m 4097 1 hgx.1 hI1 hm;have hA:=evR_inv hC hf t.a m 4097 1 hgx.1 hI1 hm;obtain⟨x,hx⟩:∃x,evR C t.a m=x:=⟨_,rfl⟩
 obtain⟨u,m1⟩:=x;simp only[hx]at hA hR hEv;simp-dsimp[go_sem,hN];refine qaa hEv ?_;simp-dsimp[go_sem,hN];refine qaa (qbw C m1) ?_;simp-dsimp[go_sem,hN];refine cnd ?_ ?_<;>intro h1<;>simp at h1
 ·rw[if_pos h1]at hR;subst hR;simp-dsimp[go_sem,hN]
 rw[if_neg (by simp[h1])]at hR;have hA:=hA h1;have hA0:=hA.1.mono (Nat.zero_le _) (Nat.zero_le _);have hlv:=hA.1.lenV;have hlp:=hA.1.lenP;have hlo:=hA.1.lenO;have hlt:=hA.1.ot;by_cases ho:t.op=1∨t.op=2
 ·rw[if_pos ho]at hR;subst hR;rcases ho with ho|ho <;>
  ·simp-dsimp[go_sem,hN,ho];refine qaa (c_ref15_set m1.vars ⟨t.name,u⟩ (by omega)) ?_;simp-dsimp[go_sem,hN,ho]
 have ho1:t.op≠1∧t.op≠2:=by omega
 rw[if_neg ho]at hR;by_cases h4:t.op=4
 ·rw[if_pos h4]at hR;subst hR;simp-dsimp[go_sem,hN,h4];refine qaa (c_ref15_Store C m1 u.s V.nil (by omega) (by omega)) ?_;simp-dsimp[go_sem,hN]
 rw[if_neg h4]at hR;by_cases h7:t.op=7
 ·rw[if_pos h7]at hR;subst hR;simp-dsimp[go_sem,hN,h7];refine qaa (c_ref15_Emit C m1 u (by omega)) ?_;simp-dsimp[go_sem,hN]
 rw[if_neg h7]at hR;by_cases h5:t.op=5
 ·rw[if_pos h5]at hR;simp-dsimp[go_sem,hN,h5];refine cnd ?_ ?_<;>intro h2<;>simp at h2
  ·rw[if_pos h2]at hR;subst hR;simp-dsimp[go_sem,hN];refine qaa (hB1 m1 hA0 h1) ?_;simp-dsimp[go_sem,hN]
  ·rw[if_neg h2]at hR;subst hR;simp-dsimp[go_sem,hN];refine qaa (hB2 m1 hA0 h1) ?_;simp-dsimp[go_sem,hN]
 rw[if_neg h5]at hR;have h36:t.op=3∨t.op=6:=by omega
 have hgb:=hg'.2.1 h36;have hI2:RInv (0+nodes t.b) 1 m1:=hA.1.mono (by have:=hgb.2;omega) (Nat.le_refl _);have hEv2:=c_ref15_eval C hC hf hF t.b m1 0 1 hgb.1 hI2 h1;have hB:=evR_inv hC hf t.b m1 0 1 hgb.1 hI2 h1;obtain⟨y,hy⟩:∃y,evR C t.b m1=y:=⟨_,rfl⟩
 obtain⟨v,m2⟩:=y;simp only[hy]at hB hR hEv2;simp-dsimp[go_sem,hN,ho1.1,ho1.2,h4,h7,h5];refine qaa hEv2 ?_;simp-dsimp[go_sem,hN];refine qaa (qbw C m2) ?_;simp-dsimp[go_sem,hN];refine cnd ?_ ?_<;>intro h2<;>simp at h2
 ·rw[if_pos h2]at hR;subst hR;simp-dsimp[go_sem,hN]
 rw[if_neg (by simp[h2])]at hR;have hB:=hB h2;have hlp2:=hB.1.lenP;have hlo2:=hB.1.lenO;by_cases h3:t.op=3
 ·rw[if_pos h3]at hR;subst hR;simp-dsimp[go_sem,hN,h3];refine qaa (c_ref15_Store C m2 u.s v (by omega) (by omega)) ?_;simp-dsimp[go_sem,hN]
 ·rw[if_neg h3]at hR;have hlp3:=c_ref15_loop C hC hf hF t u.n v.n m2 hA.2.1 hB.2.1 (hB.1.mono (Nat.zero_le _) (Nat.zero_le _)) h2 hB1 (fun m hm h0 h3=>blkR_inv hC hf t.body (d+1) m hok'.2.1 hg'.2.2.1 hm h0 h3);rw[hR]at hlp3;simp-dsimp[go_sem,hN,h3];refine qaa hlp3 ?_;simp-dsimp[go_sem,hN]
end
end Go.Proofs.YtilhejdbiionhaaGreatDoor

set_option maxRecDepth 4000
set_option maxHeartbeats 4000000
namespace Go.Proofs.YtilhejdbiionhaaGreatDoor
open Go Go.Abs Go.Cw
abbrev zRB:List AV:=[.nils,Bo false,.nils,.nils,.nils,.nils,I 0,I 0,.nils,.nils,.nils,.nils,S em,I 0]
section
attribute [local go_sem] RM.c
variable (C:Cfg) (hC:rngC C) (hf:∀n,i64 n→qa3 (C.fmt n)=true) (hF:∀n,i64 n→APure Tryz.prog 287 [I n] (S (C.fmt n)))
include hC hf hF
theorem c_ref15_block_of(l:List St)(d:Nat)(m:RM)(hok:okL l d)(hg:∀x∈l,goS x)(hI0:RInv 0 0 m)(hm:m.st=0)
  (hS:∀x∈l,∀m,RInv 8192 1 m→m.st=0→APure Tryz.prog 153 [.agg (m.c C),.agg x.x] (.agg ((stR C x m).c C))) :
  APure Tryz.prog 100 [.agg (m.c C),.slice (l.map St.c)] (.agg ((blkR C l m).c C)):=by
 refine qak Tryz.func100 Tryz.ntmps100 rfl (by kernel_rfl) rfl rfl fun E h hN hh hu hb=>?_;simp[go_sem]at hb;obtain⟨R,hR⟩:∃R,blkR C l m=R:=⟨_,rfl⟩
 rw[hR];simp-dsimp[go_sem,hN];refine qap (α:=RM) l.length (fun n mm=>(mm.st=0→RInv 0 0 mm)∧blkR C (l.drop n) mm=R)
  (fun n mm=>⟨[(1,.slice (l.map St.c)),(2,P0 h.length),(4,P0 (h.length+1)),(5,I n)],h++[.cells (mm.c C),.cells zRB]⟩) m ⟨fun _=>hI0,by simpa using hR⟩ wkA ?_
 rintro n mm hn ⟨hRI,hI⟩;have hw:=qa2 hn (show _≤68719476736 by first|exact hb.2.1|exact hb.2|exact hb.1|omega);simp-dsimp[go_sem,hN];refine qae (qbw C mm) (by simp) ?_;simp-dsimp[go_sem,hN];refine cnd ?_ ?_<;>intro hc<;>simp at hc
 ·have hRI:=hRI hc.2;have hc1:n<l.length:=by omega
  have hTick:=c_ref15_Tick C mm;have hTi:=fun h2=>tickR_inv hRI h2;rw[qaf hc1,blkR,if_neg (by simp[hc.2])]at hI;obtain⟨T,hTe⟩:∃T,qdo mm=T:=⟨_,rfl⟩
  rw[hTe]at hI hTick hTi;have hTr:=qbw C T;simp-dsimp[go_sem,hN];refine qaa hTick ?_;simp-dsimp[go_sem,hN];refine qaa hTr ?_;simp-dsimp[go_sem,hN];refine cnd ?_ ?_<;>intro h2<;>simp at h2
  ·have hT:=hTi h2;rw[if_pos h2]at hI;have hS1:=hS l[n] (List.getElem_mem hc1) T hT h2;have hS2:=stR_inv hC hf l[n] d T (hok _ (List.getElem_mem hc1)) (hg _ (List.getElem_mem hc1)) hT h2;obtain⟨B,hBe⟩:∃B,stR C l[n] T=B:=⟨_,rfl⟩
   rw[hBe]at hI hS1 hS2;simp only[RM.c]at hS1;simp-dsimp[go_sem,hN,hc1];refine qai 5 mixed (by kernel_rfl) (by kernel_rfl) ?_;simp-dsimp[go_sem,hN,hc1];refine qaa hS1 ?_;simp-dsimp[go_sem,hN,hw];refine⟨B,⟨hS2,hI⟩,wkA⟩
  ·rw[if_neg h2]at hI;simp-dsimp[go_sem,hN,hw];refine⟨hc1,_,⟨fun h3=>absurd h3 h2,hI⟩,wkA⟩
 ·have he:blkR C (l.drop n) mm=mm:=by
   by_cases h2:mm.st=0
   ·rw[List.drop_eq_nil_of_le (by by_cases hn2:n<l.length;exact absurd h2 (hc (by omega));omega),blkR]
   ·exact blkR_dead C _ h2
  rw[he]at hI;subst hI;simp-dsimp[go_sem,hN]
mutual
theorem c_ref15_stmt(t:St)(d:Nat)(m:RM)(hok:okS t d)(hg:goS t)(hI0:RInv 8192 1 m)(hm:m.st=0):APure Tryz.prog 153 [.agg (m.c C),.agg t.x] (.agg ((stR C t m).c C)):=by
 have hs1:SizeOf.sizeOf t.body<SizeOf.sizeOf t:=St.body_le t;have hs2:SizeOf.sizeOf t.els<SizeOf.sizeOf t:=St.els_le t;have hok':=(qco _ _).1 hok;have hg':=(goS_iff _).1 hg;exact c_ref15_stmt_of C hC hf hF t d m hok hg hI0 hm (fun m1 hA h1=>c_ref15_block t.body (d+1) m1 hok'.2.1 hg'.2.2.1 hA h1) (fun m1 hA h1=>c_ref15_block t.els (d+1) m1 hok'.2.2 hg'.2.2.2 hA h1)
termination_by SizeOf.sizeOf t
theorem c_ref15_block(l:List St)(d:Nat)(m:RM)(hok:okL l d)(hg:∀x∈l,goS x)(hI0:RInv 0 0 m)(hm:m.st=0):APure Tryz.prog 100 [.agg (m.c C),.slice (l.map St.c)] (.agg ((blkR C l m).c C)) :=
 c_ref15_block_of C hC hf hF l d m hok hg hI0 hm (fun x hx m1 hI1 h1=>by
  have hlt:SizeOf.sizeOf x<SizeOf.sizeOf l:=List.sizeOf_lt_of_mem hx;exact c_ref15_stmt x d m1 (hok _ hx) (hg _ hx) hI1 h1)
termination_by SizeOf.sizeOf l
end
end
end Go.Proofs.YtilhejdbiionhaaGreatDoor
