/- Part 41 of a proof: W45, W33, W34, W46, W46b -/
import Derived.Shelf.Small.Strs
import Derived.Shelf.Strconv.Itoa4
import Derived.Lib.ItoaLen
import Derived.Test.YtdbpbpmikpdjcaaGreatDoorQ13
import Derived.Test.YtdbpbpmikpdjcaaGreatDoorQ14
import Derived.Test.YtdbpbpmikpdjcaaGreatDoorQ15
import Derived.Test.YtdbpbpmikpdjcaaGreatDoorQ18
import Derived.Test.YtdbpbpmikpdjcaaGreatDoorQ19
import Derived.Test.YtdbpbpmikpdjcaaGreatDoorQ20
import Derived.Test.YtdbpbpmikpdjcaaGreatDoorQ21
import Derived.Test.YtdbpbpmikpdjcaaGreatDoorQ23
import Derived.Test.YtdbpbpmikpdjcaaGreatDoorQ25
import Derived.Test.YtdbpbpmikpdjcaaGreatDoorQ29
import Derived.Test.YtdbpbpmikpdjcaaGreatDoorQ30
import Derived.Test.YtdbpbpmikpdjcaaGreatDoorQ31
import Derived.Test.YtdbpbpmikpdjcaaGreatDoorQ33
import Derived.Test.YtdbpbpmikpdjcaaGreatDoorQ40
set_option linter.all false

set_option maxRecDepth 4000
set_option maxHeartbeats 2000000
namespace Go.Proofs.YtdbpbpmikpdjcaaGreatDoor
open Go Go.Abs Go.Cw
section
attribute [local go_sem] RM.c
variable (C:Cfg)
theorem qbi (m:RM) (c:Int):APure Tryz.prog 163 [.agg (m.c C),I c] (.agg ((m.ab c).c C)):=by
 refine qak Tryz.func163 Tryz.ntmps163 rfl (by kernel_rfl) rfl rfl fun E h hN hh hu hb=>?_
 simp -dsimp [go_sem,hN]
 try simp [RM.ab]
theorem c_ref15_restart (m:RM) (k:qad):APure Tryz.prog 207 [.agg (m.c C),S k] (.agg ((m.rst k).c C)):=by
 refine qak Tryz.func207 Tryz.ntmps207 rfl (by kernel_rfl) rfl rfl fun E h hN hh hu hb=>?_
 simp -dsimp [go_sem,hN]
 try simp [RM.rst]
theorem qbp (m:RM):APure Tryz.prog 97 [.agg (m.c C)] (Bo (decide (m.st=0))):=by
 refine qak Tryz.func97 Tryz.ntmps97 rfl (by kernel_rfl) rfl rfl fun E h hN hh hu hb=>?_
 simp -dsimp [go_sem,hN]
theorem c_ref15_with (l:List qad) (k:qad) (hB:l.length+1≤68719476736):APure Tryz.prog 208 [.slice (l.map qbe),S k] (.slice ((qd5 l k).map qbe)):=by
 have hle:=posS_le k l
 refine qak Tryz.func208 Tryz.ntmps208 rfl (by kernel_rfl) rfl rfl fun E h hN hh hu hb=>?_
 simp [go_sem] at hb
 simp -dsimp [go_sem,hN]
 refine qai l.length (fun n=>n+posS k (l.drop n)=posS k l) (fun n=>⟨[(0,.slice (l.map qbe)),(1,S k),(5,I n)],h⟩) (by simp) (Wk.mk (by simp [hh]) (by simp [go_sem]) (by simp [hu,qab hu,go_sem]) (by simp [go_sem])) ?_
 intro n hn hI
 have hw:=qav hn (show _≤68719476736 by omega)
 simp -dsimp [go_sem,hN]
 by_cases hc:n<l.length
 ·
  rw [qae hc,posS] at hI
  simp -dsimp [go_sem,hN,hc]
  refine cnd ?_ ?_<;>intro hg<;>try simp at hg
  ·
   simp -dsimp [go_sem,hN,hw]
   rw [if_pos hg] at hI
   exact ⟨hc,by omega,(Wk.mk (by simp [hh]) (by simp [go_sem]) (by simp [hu,qab hu,go_sem]) (by simp [go_sem]))⟩
  ·
   rw [if_neg (by simp [hg])] at hI
   have hp:posS k l=n:=by omega
   simp -dsimp [go_sem,hN,hc]
   refine cnd ?_ ?_<;>intro hk<;>try simp at hk
   ·
    simp -dsimp [go_sem,hN]
    unfold qd5
    rw [hp,if_pos (by rw [List.getElem?_eq_getElem hc,hk])]
   ·
    simp -dsimp [go_sem,hN]
    refine ⟨by omega,by omega,by omega,by omega,by omega,?_⟩
    rw [if_pos (by omega)]
    unfold qd5
    rw [hp,if_neg (by rw [List.getElem?_eq_getElem hc];simpa using hk)]
    simp [qbe,List.map_take,List.map_drop]
 ·
  rw [List.drop_eq_nil_of_le (by omega),posS] at hI
  have hp:posS k l=n:=by omega
  have hnone:l[n]?=none:=List.getElem?_eq_none (by omega)
  simp -dsimp [go_sem,hN,hc]
  refine ⟨by omega,by omega,by omega,by omega,by omega,?_⟩
  rw [if_pos (by omega)]
  unfold qd5
  rw [hp,if_neg (by simp [hnone])]
  simp [qbe,List.map_take,List.map_drop]
theorem c_ref15_set (l:List Pr) (p:Pr) (hB:l.length+1≤68719476736):APure Tryz.prog 95 [.slice (l.map Pr.c),.agg p.c] (.slice ((setR l p).map Pr.c)):=by
 have hle:=posP_le p.key l
 refine qak Tryz.func95 Tryz.ntmps95 rfl (by kernel_rfl) rfl rfl fun E h hN hh hu hb=>?_
 simp [go_sem] at hb
 simp -dsimp [go_sem,hN]
 refine qai l.length (fun n=>n+posP p.key (l.drop n)=posP p.key l) (fun n=>⟨[(0,.slice (l.map Pr.c)),(3,P0 h.length),(5,I n)],h++[.cells p.c]⟩) (by simp) (Wk.mk (by simp [hh]) (by simp [go_sem]) (by simp [hu,qab hu,go_sem]) (by simp [go_sem])) ?_
 intro n hn hI
 have hw:=qav hn (show _≤68719476736 by omega)
 simp -dsimp [go_sem,hN]
 refine qah 12 mixed (by kernel_rfl) (by kernel_rfl) ?_
 by_cases hc:n<l.length
 ·
  rw [qae hc,posP] at hI
  simp -dsimp [go_sem,hN,hc]
  refine cnd ?_ ?_<;>intro hg<;>try simp at hg
  ·
   simp -dsimp [go_sem,hN,hw]
   rw [if_pos hg] at hI
   exact ⟨hc,by omega,(Wk.mk (by simp [hh]) (by simp [go_sem]) (by simp [hu,qab hu,go_sem]) (by simp [go_sem]))⟩
  ·
   rw [if_neg (by simp [hg])] at hI
   have hp:posP p.key l=n:=by omega
   simp -dsimp [go_sem,hN]
   refine qah 12 mixed (by kernel_rfl) (by kernel_rfl) ?_
   simp -dsimp [go_sem,hN,hc]
   refine cnd ?_ ?_<;>intro hk<;>try simp at hk
   ·
    have e:setR l p=l.take n++p::l.drop (n+1):=by
     unfold setR restP
     rw [hp,if_pos (by simp [List.getElem?_eq_getElem hc,hk])]
    simp -dsimp [go_sem,hN,hw]
    refine ⟨by omega,by omega,by omega,by omega,by omega,?_⟩
    rw [if_pos (by omega),e]
    simp [List.map_take,List.map_drop,Pr.c,V.c]
   ·
    have e:setR l p=l.take n++p::l.drop n:=by
     unfold setR restP
     rw [hp,if_neg (by simp [List.getElem?_eq_getElem hc];simpa using hk)]
    simp -dsimp [go_sem,hN]
    refine ⟨by omega,by omega,by omega,by omega,by omega,?_⟩
    rw [if_pos (by omega),e]
    simp [List.map_take,List.map_drop,Pr.c,V.c]
 ·
  rw [List.drop_eq_nil_of_le (by omega),posP] at hI
  have hp:posP p.key l=n:=by omega
  have hnone:l[n]?=none:=List.getElem?_eq_none (by omega)
  have e:setR l p=l.take n++p::l.drop n:=by
   unfold setR restP
   rw [hp,if_neg (by simp [hnone])]
  simp -dsimp [go_sem,hN,hc]
  refine qah 12 mixed (by kernel_rfl) (by kernel_rfl) ?_
  simp -dsimp [go_sem,hN,hc]
  refine ⟨by omega,by omega,by omega,by omega,by omega,?_⟩
  rw [if_pos (by omega),e]
  simp [List.map_take,List.map_drop,Pr.c,V.c]
theorem c_ref15_Fetch (m:RM) (k:qad) (hB:m.reads.length+1≤68719476736):APure Tryz.prog 278 [.agg (m.c C),S k] (.tuple [.agg (qbh C m k).1.c,.agg ((qbh C m k).2.c C)]):=by
 refine qak Tryz.func278 Tryz.ntmps278 rfl (by kernel_rfl) rfl rfl fun E h hN hh hu hb=>?_
 simp -dsimp [go_sem,hN]
 refine qaa (c_ref04_Valid k) ?_
 simp -dsimp [go_sem,hN]
 refine cnd ?_ ?_<;>intro h0<;>try simp at h0
 ·
  have e:qbh C m k=(V.nil,m.ab 1004):=by unfold qbh;rw [if_pos h0]
  rw [e]
  simp -dsimp [go_sem,hN]
  refine qaa (qbi C m 1004) ?_
  simp -dsimp [go_sem,hN]
 simp -dsimp [go_sem,hN]
 refine qaa (c_ref15_Has m.puts k) ?_
 simp -dsimp [go_sem,hN]
 refine cnd ?_ ?_<;>intro h1<;>try simp at h1
 ·
  have e:qbh C m k=(getP m.own k,m):=by unfold qbh;rw [if_neg (by simp [h0]),if_pos h1]
  rw [e]
  simp -dsimp [go_sem,hN]
  refine qa5 6 mixed (by kernel_rfl) ?_
  simp -dsimp [go_sem,hN]
  refine qay (c_ref06_Get m.own k) (by simp) ?_
  simp -dsimp [go_sem,hN]
  simp [sepD,List.zipIdx]
 simp -dsimp [go_sem,hN]
 refine qaf (c_ref15_Has C.rd k) (by simp) ?_
 simp -dsimp [go_sem,hN]
 refine cnd (fun h2=>?_) (fun h2=>?_)
 ·
  have e:qbh C m k=(V.nil,m.rst k):=by unfold qbh;rw [if_neg (by simp [h0]),if_neg (by simp [h1]),if_pos (by simpa using h2)]
  rw [e]
  simp -dsimp [go_sem,hN]
  refine qaa (c_ref15_restart C m k) ?_
  simp -dsimp [go_sem,hN]
 ·
  have e:qbh C m k=(getP C.state k,{ m with reads:=qd5 m.reads k }):=by unfold qbh;rw [if_neg (by simp [h0]),if_neg (by simp [h1]),if_neg (by simpa using h2)]
  rw [e]
  simp -dsimp [go_sem,hN]
  refine qaa (c_ref15_with m.reads k hB) ?_
  simp -dsimp [go_sem,hN]
  refine qa5 6 mixed (by kernel_rfl) ?_
  simp -dsimp [go_sem,hN]
  refine qay (c_ref06_Get C.state k) (by simp) ?_
  simp -dsimp [go_sem,hN]
  simp [sepD,List.zipIdx]
theorem c_ref15_Store (m:RM) (k:qad) (v:V) (hB:m.puts.length+1≤68719476736) (hB2:m.own.length+1≤68719476736):APure Tryz.prog 165 [.agg (m.c C),S k,.agg v.c] (.agg ((storeR C m k v).c C)):=by
 refine qak Tryz.func165 Tryz.ntmps165 rfl (by kernel_rfl) rfl rfl fun E h hN hh hu hb=>?_
 simp -dsimp [go_sem,hN]
 refine qaa (c_ref04_Valid k) ?_
 simp -dsimp [go_sem,hN]
 refine cnd ?_ ?_<;>intro h0<;>try simp at h0
 ·
  have e:storeR C m k v=m.ab 1004:=by unfold storeR;rw [if_pos h0]
  rw [e]
  simp -dsimp [go_sem,hN]
  refine qaa (qbi C m 1004) ?_
  simp -dsimp [go_sem,hN]
 simp -dsimp [go_sem,hN]
 refine qaf (c_ref15_Has C.wr k) (by simp) ?_
 simp -dsimp [go_sem,hN]
 refine cnd (fun h2=>?_) (fun h2=>?_)
 ·
  have e:storeR C m k v=m.rst k:=by unfold storeR;rw [if_neg (by simp [h0]),if_pos (by simpa using h2)]
  rw [e]
  simp -dsimp [go_sem,hN]
  refine qaa (c_ref15_restart C m k) ?_
  simp -dsimp [go_sem,hN]
 ·
  have e:storeR C m k v = { m with puts:=qd5 m.puts k,own:=setR m.own ⟨k,v⟩ }:=by unfold storeR;rw [if_neg (by simp [h0]),if_neg (by simpa using h2)]
  rw [e]
  simp -dsimp [go_sem,hN]
  refine qaa (c_ref15_with m.puts k hB) ?_
  simp -dsimp [go_sem,hN]
  refine qaa (c_ref15_set m.own ⟨k,v⟩ hB2) ?_
  simp -dsimp [go_sem,hN]
theorem c_ref15_Emit (m:RM) (v:V) (hB:m.out.length+1≤68719476736):APure Tryz.prog 166 [.agg (m.c C),.agg v.c] (.agg ((emitR m v).c C)):=by
 refine qak Tryz.func166 Tryz.ntmps166 rfl (by kernel_rfl) rfl rfl fun E h hN hh hu hb=>?_
 simp -dsimp [go_sem,hN]
 refine cnd ?_ ?_<;>intro h0<;>simp at h0
 ·
  have e:emitR m v=m.ab 1007:=by unfold emitR;rw [if_pos (by omega)]
  rw [e]
  simp -dsimp [go_sem,hN]
  refine qaa (qbi C m 1007) ?_
  simp -dsimp [go_sem,hN]
 ·
  have e:emitR m v = { m with out:=m.out++[v] }:=by unfold emitR;rw [if_neg (by omega)]
  rw [e]
  simp -dsimp [go_sem,hN]
  exact ⟨by omega,by omega⟩
theorem c_ref15_Tick (m:RM):APure Tryz.prog 132 [.agg (m.c C)] (.agg ((qdk m).c C)):=by
 refine qak Tryz.func132 Tryz.ntmps132 rfl (by kernel_rfl) rfl rfl fun E h hN hh hu hb=>?_
 simp -dsimp [go_sem,hN]
 refine cnd ?_ ?_<;>intro h0<;>simp at h0
 ·
  have e:qdk m=({ m with steps:=W64 (m.steps+1) }:RM).ab 1008:=by unfold qdk;rw [if_pos h0]
  rw [e]
  simp -dsimp [go_sem,hN]
  refine qaa (qbi C { m with steps:=W64 (m.steps+1) } 1008) ?_
  simp -dsimp [go_sem,hN]
 ·
  have e:qdk m = { m with steps:=W64 (m.steps+1) }:=by unfold qdk;rw [if_neg (by have:W64 (m.steps+1)=IntKind.i64.wrap (m.steps+1):=rfl;omega)]
  rw [e]
  simp -dsimp [go_sem,hN]
theorem c_ref15_Commit (m:RM):APure Tryz.prog 99 [.agg (m.c C)] (.agg (Eff.c ⟨1,m.code,m.out,m.reads,m.puts,m.own,m.miss,m.steps⟩)):=by
 refine qak Tryz.func99 Tryz.ntmps99 rfl (by kernel_rfl) rfl rfl fun E h hN hh hu hb=>?_
 simp -dsimp [go_sem,hN]
theorem c_ref15_ended (m:RM):APure Tryz.prog 98 [.agg (m.c C)] (.agg (Eff.c ⟨m.st,m.code,[],m.reads,m.puts,[],m.miss,m.steps⟩)):=by
 refine qak Tryz.func98 Tryz.ntmps98 rfl (by kernel_rfl) rfl rfl fun E h hN hh hu hb=>?_
 simp -dsimp [go_sem,hN]
theorem c_ref15_nothing:APure Tryz.prog 94 [] (.agg wrongE.c):=by
 refine qak Tryz.func94 Tryz.ntmps94 rfl (by kernel_rfl) rfl rfl fun E h hN hh hu hb=>?_
 simp -dsimp [go_sem,hN,wrongE]
theorem c_ref15_num (n:Int):APure Tryz.prog 202 [I n] (.agg (vI n).c):=by
 refine qak Tryz.func202 Tryz.ntmps202 rfl (by kernel_rfl) rfl rfl fun E h hN hh hu hb=>?_
 simp -dsimp [go_sem,hN,vI]
theorem qcy (b:Bool):APure Tryz.prog 274 [Bo b] (.agg (vB b).c):=by
 refine qak Tryz.func274 Tryz.ntmps274 rfl (by kernel_rfl) rfl rfl fun E h hN hh hu hb=>?_
 simp -dsimp [go_sem,hN]
 refine cnd (fun h0=>?_) (fun h0=>?_)<;>subst h0<;>simp -dsimp [go_sem,hN,vB]
theorem qbd (m:RM):APure Tryz.prog 203 [.agg (m.c C)] (.tuple [.agg V.nil.c,.agg ((m.ab 1009).c C)]):=by
 refine qak Tryz.func203 Tryz.ntmps203 rfl (by kernel_rfl) rfl rfl fun E h hN hh hu hb=>?_
 simp -dsimp [go_sem,hN]
 refine qaa (qbi C m 1009) ?_
 simp -dsimp [go_sem,hN]
theorem c_ref15_calculated (m:RM) (n e:Int):APure Tryz.prog 273 [.agg (m.c C),I n,I e] (.tuple [.agg (calcR m (n,e)).1.c,.agg ((calcR m (n,e)).2.c C)]):=by
 refine qak Tryz.func273 Tryz.ntmps273 rfl (by kernel_rfl) rfl rfl fun E h hN hh hu hb=>?_
 simp -dsimp [go_sem,hN]
 refine cnd ?_ ?_<;>intro h0<;>simp at h0
 ·
  have e1:calcR m (n,e)=(V.nil,m.ab 1002):=by unfold calcR;rw [if_pos h0]
  rw [e1]
  simp -dsimp [go_sem,hN]
  refine qaa (qbi C m 1002) ?_
  simp -dsimp [go_sem,hN]
 simp -dsimp [go_sem,hN]
 refine cnd ?_ ?_<;>intro h1<;>simp at h1
 ·
  have e1:calcR m (n,e)=(V.nil,m.ab 1001):=by unfold calcR;rw [if_neg h0,if_pos h1]
  rw [e1]
  simp -dsimp [go_sem,hN]
  refine qaa (qbi C m 1001) ?_
  simp -dsimp [go_sem,hN]
 ·
  have e1:calcR m (n,e)=(vI n,m):=by unfold calcR;rw [if_neg h0,if_neg (by simpa using h1)]
  rw [e1]
  simp -dsimp [go_sem,hN]
  refine qa5 4 mixed (by kernel_rfl) ?_
  simp -dsimp [go_sem,hN]
  refine qay (c_ref15_num n) (by simp) ?_
  simp -dsimp [go_sem,hN]
  all_goals try simp [sepD,List.zipIdx]
theorem c_ref15_arithmetic (op a b:Int) (ha:i64 a) (hb2:i64 b):APure Tryz.prog 272 [I op,I a,I b] (.tuple [I (arithR op a b).1,I (arithR op a b).2]):=by
 refine qak Tryz.func272 Tryz.ntmps272 rfl (by kernel_rfl) rfl rfl fun E h hN hh hu hb=>?_
 by_cases h4:op=4
 ·
  subst h4
  simp -dsimp [go_sem,hN]
  refine qaa (c_ref01_Add a b ha hb2) ?_
  simp -dsimp [go_sem,hN,arithR]
 by_cases h5:op=5
 ·
  subst h5
  simp -dsimp [go_sem,hN]
  refine qaa (c_ref01_Sub a b ha hb2) ?_
  simp -dsimp [go_sem,hN,arithR]
 by_cases h6:op=6
 ·
  subst h6
  simp -dsimp [go_sem,hN]
  refine qaa (c_ref01_Mul a b ha hb2) ?_
  simp -dsimp [go_sem,hN,arithR]
 by_cases h7:op=7
 ·
  subst h7
  simp -dsimp [go_sem,hN]
  refine qaa (c_ref01_Div a b ha hb2) ?_
  simp -dsimp [go_sem,hN,arithR]
 simp -dsimp [go_sem,hN,h4,h5,h6,h7]
 refine qaa (c_ref01_Mod a b) ?_
 simp -dsimp [go_sem,hN,arithR,h4,h5,h6,h7]
theorem c_ref15_compared (op c:Int):APure Tryz.prog 275 [I op,I c] (Bo (cmpBy op c)):=by
 refine qak Tryz.func275 Tryz.ntmps275 rfl (by kernel_rfl) rfl rfl fun E h hN hh hu hb=>?_
 by_cases h10:op=10
 · subst h10;simp -dsimp [go_sem,hN,cmpBy]
 by_cases h11:op=11
 · subst h11;simp -dsimp [go_sem,hN,cmpBy]
 by_cases h12:op=12
 · subst h12;simp -dsimp [go_sem,hN,cmpBy]
 by_cases h13:op=13
 · subst h13;simp -dsimp [go_sem,hN,cmpBy]
 by_cases h14:op=14
 · subst h14;simp -dsimp [go_sem,hN,cmpBy]
 simp -dsimp [go_sem,hN,cmpBy,h10,h11,h12,h13,h14]
end
end Go.Proofs.YtdbpbpmikpdjcaaGreatDoor

set_option maxRecDepth 8000
set_option maxHeartbeats 2000000
namespace Go.Proofs.YtdbpbpmikpdjcaaGreatDoor
open Go Go.Abs Go.Cw
variable {tT:TypeId} {tx:Nat×Nat} {g:Nat}
def runC (p:Proc) (args:List V) (ft:Foot):List AV:=[S p.name,.slice (p.params.map Param.c),.slice (p.body.map St.c),.slice (args.map V.c),Bo ft.all,.slice (ft.reads.map qbe),.slice (ft.writes.map qbe)]
attribute [local go_sem] runC
end Go.Proofs.YtdbpbpmikpdjcaaGreatDoor

set_option maxRecDepth 8000
set_option maxHeartbeats 2000000
namespace Go.Proofs.YtdbpbpmikpdjcaaGreatDoor
open Go Go.Abs Go.Cw
theorem c_ref15_ascending (l:List qad):APure Tryz.prog 131 [.slice (l.map qbe)] (Bo (ascK none l&&decide ((l.length:Int)≤64))):=by
 refine qak Tryz.func131 Tryz.ntmps131 rfl (by kernel_rfl) rfl rfl fun E h hN hh hu hb=>?_
 simp [go_sem] at hb
 simp -dsimp [go_sem,hN]
 refine qai l.length (fun n=>ascK (qcn l n) (l.drop n)=ascK none l) (fun n=>⟨[(0,.slice (l.map qbe)),(3,I n)],h⟩) (by simp [qcn]) (Wk.mk (by simp [hh]) (by simp [go_sem]) (by simp [hu,qab hu,go_sem]) (by simp [go_sem])) ?_
 intro n hn hI
 have hw:=qav hn hb.1
 simp -dsimp [go_sem,hN]
 refine cnd ?_ ?_<;>intro hc<;>simp at hc
 ·
  rw [qae hc,ascK] at hI
  simp -dsimp [go_sem,hN,hc]
  refine qah 19 mixed (by kernel_rfl) (by kernel_rfl) ?_
  simp -dsimp [go_sem,hN,hc]
  refine qay (c_ref04_Valid _) (by simp) ?_
  cases n with
  | zero =>
   simp -dsimp [go_sem,hN]
   refine cnd ?_ ?_<;>intro hg<;>try simp at hg
   ·
    simp -dsimp [go_sem,hN]
    grind [qcn,after]
   ·
    simp -dsimp [go_sem,hN,hw]
    exact ⟨hc,by simpa [hg,qcn,hc,after] using hI,(Wk.mk (by simp [hh]) (by simp [go_sem]) (by simp [hu,qab hu,go_sem]) (by simp [go_sem]))⟩
  | succ m =>
   have hm:m<l.length:=by omega
   have hw2:=wrapN (Nat.le_of_lt hm) hb.1
   simp at hw
   simp -dsimp [go_sem,hN,hw2,hm,hc]
   refine ⟨fun hk=>⟨hk,by omega⟩,cnd (fun hg=>?_) (fun hg=>?_)⟩<;>rw [sLe_not] at hg<;>simp at hg
   ·
    simp -dsimp [go_sem,hN]
    rw [← hI]
    rcases hg with h1 | h1<;>simp [qcn,hm,after,h1]
   ·
    simp -dsimp [go_sem,hN,hw]
    simp [hg,qcn,hm,after] at hI
    exact ⟨hc,by simpa [qcn,hc] using hI,(Wk.mk (by simp [hh]) (by simp [go_sem]) (by simp [hu,qab hu,go_sem]) (by simp [go_sem]))⟩
 ·
  rw [List.drop_eq_nil_of_le (by omega),ascK] at hI
  simp -dsimp [go_sem,hN,← hI]
theorem c_ref15_ValidFoot (f:Foot):APure Tryz.prog 93 [.agg f.c] (Bo (footOk f.all f.reads f.writes)):=by
 refine qak Tryz.func93 Tryz.ntmps93 rfl (by kernel_rfl) rfl rfl fun E h hN hh hu hb=>?_
 simp -dsimp [go_sem,hN]
 refine cnd ?_ ?_<;>intro h0<;>try simp at h0
 all_goals simp -dsimp [go_sem,hN,footOk,h0]
 refine qaa (c_ref15_ascending f.reads) ?_
 simp -dsimp [go_sem,hN]
 refine qaf (c_ref15_ascending f.writes) (by simp) ?_
 simp -dsimp [go_sem,hN,footOk,h0]
variable {tT:TypeId} {tx:Nat×Nat} {g:Nat}
attribute [local go_sem] runC
end Go.Proofs.YtdbpbpmikpdjcaaGreatDoor

set_option maxRecDepth 4000
set_option maxHeartbeats 4000000
namespace Go.Proofs.YtdbpbpmikpdjcaaGreatDoor
open Go Go.Abs Go.Cw
section
attribute [local go_sem] RM.c
variable (C:Cfg)
theorem c_ref15_two (m:RM) (op:Int) (a b:V) (ha:qdh a) (hb2:qdh b):APure Tryz.prog 242 [.agg (m.c C),I op,.agg a.c,.agg b.c] (.tuple [.agg (twoR m op a b).1.c,.agg ((twoR m op a b).2.c C)]):=by
 refine qak Tryz.func242 Tryz.ntmps242 rfl (by kernel_rfl) rfl rfl fun E h hN hh hu hb=>?_
 by_cases hA:op=4∨op=5∨op=6∨op=7∨op=8
 ·
  have e:twoR m op a b=if a.k=1∧b.k=1 then calcR m (arithR op a.n b.n) else (V.nil,m.ab 1009):=by unfold twoR;rw [if_pos hA]
  rw [e]
  rcases hA with rfl | rfl | rfl | rfl | rfl <;>
  ·
   simp -dsimp [go_sem,hN]
   refine cnd (fun h1=>?_) (fun h1=>?_)
   ·
    rw [if_neg (by simp at h1;grind)]
    simp -dsimp [go_sem,hN]
    refine qaa (qbd C m) ?_
    simp -dsimp [go_sem,hN]
   ·
    rw [if_pos (by simpa using h1)]
    simp -dsimp [go_sem,hN]
    refine qaa (c_ref15_arithmetic _ a.n b.n ha.1 hb2.1) ?_
    simp -dsimp [go_sem,hN]
    refine qaa (c_ref15_calculated C m _ _) ?_
    simp -dsimp [go_sem,hN]
 have hA':op≠4∧op≠5∧op≠6∧op≠7∧op≠8:=by simpa using hA
 obtain ⟨n4,n5,n6,n7,n8⟩:=hA'
 by_cases h16:op=16
 ·
  subst h16
  have e:twoR m 16 a b=if a.k=3∧b.k=3 then (vB (decide (a.n=1)&&decide (b.n=1)),m) else (V.nil,m.ab 1009):=by unfold twoR;simp
  rw [e]
  simp -dsimp [go_sem,hN]
  refine cnd (fun h1=>?_) (fun h1=>?_)
  ·
   rw [if_neg (by simp at h1;grind)]
   simp -dsimp [go_sem,hN]
   refine qaa (qbd C m) ?_
   simp -dsimp [go_sem,hN]
  ·
   rw [if_pos (by simpa using h1)]
   simp -dsimp [go_sem,hN]
   refine qa5 11 mixed (by kernel_rfl) ?_
   simp -dsimp [go_sem,hN]
   refine qay (qcy _) (by simp) ?_
   simp -dsimp [go_sem,hN]
   all_goals try simp [sepD,List.zipIdx]
 by_cases h17:op=17
 ·
  subst h17
  have e:twoR m 17 a b=if a.k=3∧b.k=3 then (vB (decide (a.n=1)||decide (b.n=1)),m) else (V.nil,m.ab 1009):=by unfold twoR;simp
  rw [e]
  simp -dsimp [go_sem,hN]
  refine cnd (fun h1=>?_) (fun h1=>?_)
  ·
   rw [if_neg (by simp at h1;grind)]
   simp -dsimp [go_sem,hN]
   refine qaa (qbd C m) ?_
   simp -dsimp [go_sem,hN]
  ·
   rw [if_pos (by simpa using h1)]
   simp -dsimp [go_sem,hN]
   refine qa5 11 mixed (by kernel_rfl) ?_
   simp -dsimp [go_sem,hN]
   refine qay (qcy _) (by simp) ?_
   simp -dsimp [go_sem,hN]
   all_goals try simp [sepD,List.zipIdx]
 by_cases h19:op=19
 ·
  subst h19
  have hwid:IntKind.i64.wrap ((a.s.size:Int)+b.s.size)=(a.s.size:Int)+b.s.size:=wrapI (by omega) (by have:=ha.2;have:=hb2.2;omega)
  have hw64:W64 ((a.s.size:Int)+b.s.size)=(a.s.size:Int)+b.s.size:=hwid
  have e:twoR m 19 a b=if a.k=2∧b.k=2 then (if 64<W64 (a.s.size+b.s.size:Int) then (V.nil,m.ab 1006) else (vS (a.s++b.s),m)) else (V.nil,m.ab 1009):=by unfold twoR;simp
  rw [hw64] at e
  rw [e]
  simp -dsimp [go_sem,hN,hwid]
  refine cnd (fun h1=>?_) (fun h1=>?_)
  ·
   rw [if_neg (by simp at h1;grind)]
   simp -dsimp [go_sem,hN]
   refine qaa (qbd C m) ?_
   simp -dsimp [go_sem,hN]
  ·
   rw [if_pos (by simpa using h1)]
   simp -dsimp [go_sem,hN,hwid]
   refine cnd ?_ ?_<;>intro h2<;>simp at h2
   ·
    rw [if_pos h2]
    simp -dsimp [go_sem,hN]
    refine qaa (qbi C m 1006) ?_
    simp -dsimp [go_sem,hN]
   ·
    rw [if_neg (by omega)]
    simp -dsimp [go_sem,hN]
    refine qa5 8 mixed (by kernel_rfl) ?_
    simp -dsimp [go_sem,hN,vS]
    try omega
    all_goals try simp [sepD,List.zipIdx]
    all_goals try omega
 have e:twoR m op a b=if (a.k=1∧b.k=1)∨(a.k=2∧b.k=2)∨(a.k=3∧b.k=3∧(op=10∨op=11)) then (vB (cmpBy op (cmpR a b)),m) else (V.nil,m.ab 1009):=by
  unfold twoR;rw [if_neg hA,if_neg h16,if_neg h17,if_neg h19]
 rw [e]
 simp -dsimp [go_sem,hN,n4,n5,n6,n7,n8,h16,h17,h19]
 repeat refine ⟨by grind,?_⟩
 refine cnd (fun h1=>?_) (fun h1=>?_)
 ·
  rw [if_neg (by simp at h1;grind)]
  simp -dsimp [go_sem,hN]
  refine qaa (qbd C m) ?_
  simp -dsimp [go_sem,hN]
 ·
  rw [if_pos (by simp at h1;grind)]
  simp -dsimp [go_sem,hN]
  refine cnd ?_ ?_<;>intro h2<;>simp at h2
  ·
   have e2:cmpR a b = -1:=by unfold cmpR;rw [if_pos h2]
   rw [e2]
   simp -dsimp [go_sem,hN]
   refine qa5 6 mixed (by kernel_rfl) ?_
   simp -dsimp [go_sem,hN]
   refine qay (c_ref15_compared op (-1)) (by simp) ?_
   simp -dsimp [go_sem,hN]
   refine qay (qcy _) (by simp) ?_
   simp -dsimp [go_sem,hN]
   all_goals try simp [sepD,List.zipIdx]
  ·
   simp -dsimp [go_sem,hN]
   refine cnd ?_ ?_<;>intro h3<;>simp at h3
   ·
    have e2:cmpR a b=1:=by unfold cmpR;rw [if_neg (by grind),if_neg (by unfold eqVal;grind)]
    rw [e2]
    simp -dsimp [go_sem,hN]
    refine qa5 6 mixed (by kernel_rfl) ?_
    simp -dsimp [go_sem,hN]
    refine qay (c_ref15_compared op 1) (by simp) ?_
    simp -dsimp [go_sem,hN]
    refine qay (qcy _) (by simp) ?_
    simp -dsimp [go_sem,hN]
    all_goals try simp [sepD,List.zipIdx]
   ·
    have e2:cmpR a b=0:=by unfold cmpR;rw [if_neg (by grind),if_pos (by unfold eqVal;grind)]
    rw [e2]
    simp -dsimp [go_sem,hN]
    refine qa5 6 mixed (by kernel_rfl) ?_
    simp -dsimp [go_sem,hN]
    refine qay (c_ref15_compared op 0) (by simp) ?_
    simp -dsimp [go_sem,hN]
    refine qay (qcy _) (by simp) ?_
    simp -dsimp [go_sem,hN]
    all_goals try simp [sepD,List.zipIdx]
theorem c_ref15_one (m:RM) (op:Int) (a:V) (ha:qdh a) (hF:∀ n,i64 n→APure Tryz.prog 277 [I n] (S (C.fmt n))) (hB:m.reads.length+1≤68719476736):APure Tryz.prog 243 [.agg (m.c C),I op,.agg a.c] (.tuple [.agg (oneR C m op a).1.c,.agg ((oneR C m op a).2.c C)]):=by
 refine qak Tryz.func243 Tryz.ntmps243 rfl (by kernel_rfl) rfl rfl fun E h hN hh hu hb=>?_
 have hw:(∀ X:Prop,X→X):=fun _ h=>h
 by_cases h9:op=9
 ·
  subst h9
  have e:oneR C m 9 a=if a.k≠1 then (V.nil,m.ab 1009) else calcR m (qdi a.n):=by unfold oneR;simp [wantR]
  rw [e]
  simp -dsimp [go_sem,hN]
  refine cnd (fun h1=>?_) (fun h1=>?_)
  ·
   rw [if_pos (by simpa using h1)]
   simp -dsimp [go_sem,hN]
   refine qaa (qbd C m) ?_
   simp -dsimp [go_sem,hN]
  ·
   rw [if_neg (by simpa using h1)]
   simp -dsimp [go_sem,hN]
   refine qaa (c_ref01_Neg a.n ha.1) ?_
   simp -dsimp [go_sem,hN]
   refine qaa (c_ref15_calculated C m _ _) ?_
   simp -dsimp [go_sem,hN]
 by_cases h18:op=18
 ·
  subst h18
  have e:oneR C m 18 a=if a.k≠3 then (V.nil,m.ab 1009) else (vB (decide (a.n=0)),m):=by unfold oneR;simp [wantR]
  rw [e]
  simp -dsimp [go_sem,hN]
  refine cnd (fun h1=>?_) (fun h1=>?_)
  ·
   rw [if_pos (by simpa using h1)]
   simp -dsimp [go_sem,hN]
   refine qaa (qbd C m) ?_
   simp -dsimp [go_sem,hN]
  ·
   rw [if_neg (by simpa using h1)]
   simp -dsimp [go_sem,hN]
   refine qa5 6 mixed (by kernel_rfl) ?_
   simp -dsimp [go_sem,hN]
   refine qay (qcy _) (by simp) ?_
   simp -dsimp [go_sem,hN]
   all_goals try simp [sepD,List.zipIdx]
 by_cases h20:op=20
 ·
  subst h20
  have e:oneR C m 20 a=if a.k≠1 then (V.nil,m.ab 1009) else (vS (C.fmt a.n),m):=by unfold oneR;simp [wantR]
  rw [e]
  simp -dsimp [go_sem,hN]
  refine cnd (fun h1=>?_) (fun h1=>?_)
  ·
   rw [if_pos (by simpa using h1)]
   simp -dsimp [go_sem,hN]
   refine qaa (qbd C m) ?_
   simp -dsimp [go_sem,hN]
  ·
   rw [if_neg (by simpa using h1)]
   simp -dsimp [go_sem,hN]
   refine qa5 6 mixed (by kernel_rfl) ?_
   simp -dsimp [go_sem,hN]
   refine qay (hF a.n ha.1) (by simp) ?_
   simp -dsimp [go_sem,hN,vS]
   all_goals try simp [sepD,List.zipIdx]
 by_cases h21:op=21
 ·
  subst h21
  have e:oneR C m 21 a=if a.k≠2 then (V.nil,m.ab 1009) else (vI a.s.size,m):=by unfold oneR;simp [wantR]
  rw [e]
  simp -dsimp [go_sem,hN]
  refine cnd (fun h1=>?_) (fun h1=>?_)
  ·
   rw [if_pos (by simpa using h1)]
   simp -dsimp [go_sem,hN]
   refine qaa (qbd C m) ?_
   simp -dsimp [go_sem,hN]
  ·
   rw [if_neg (by simpa using h1)]
   simp -dsimp [go_sem,hN]
   refine qa5 6 mixed (by kernel_rfl) ?_
   simp -dsimp [go_sem,hN]
   refine qay (c_ref15_num a.s.size) (by simp) ?_
   simp -dsimp [go_sem,hN]
   all_goals try simp [sepD,List.zipIdx]
 have e:oneR C m op a=if a.k≠2 then (V.nil,m.ab 1009) else
   if (qbh C m a.s).2.st≠0 then (V.nil,(qbh C m a.s).2)
   else if op=24 then (vB (!decide ((qbh C m a.s).1.k=0)),(qbh C m a.s).2)
   else if (qbh C m a.s).1.k=0 then (⟨if op=23 then 2 else 1,0,em⟩,(qbh C m a.s).2)
   else if (qbh C m a.s).1.k≠(if op=23 then 2 else 1) then (V.nil,(qbh C m a.s).2.ab 1003)
   else ((qbh C m a.s).1,(qbh C m a.s).2):=by
  unfold oneR wantR
  simp only [h9,h18,h20,h21,if_false,or_self]
 rw [e]
 simp -dsimp [go_sem,hN,h9,h18,h20,h21]
 refine cnd (fun h1=>?_) (fun h1=>?_)
 ·
  rw [if_pos (by simpa using h1)]
  simp -dsimp [go_sem,hN]
  refine qaa (qbd C m) ?_
  simp -dsimp [go_sem,hN]
 rw [if_neg (by simpa using h1)]
 simp -dsimp [go_sem,hN,h9,h18,h20,h21]
 refine qaa (c_ref15_Fetch C m a.s hB) ?_
 obtain ⟨x,hx⟩:∃ x,qbh C m a.s=x:=⟨_,rfl⟩
 obtain ⟨v,t⟩:=x
 simp only [hx]
 simp -dsimp [go_sem,hN]
 refine qaa (qbp C t) ?_
 simp -dsimp [go_sem,hN]
 refine cnd ?_ ?_<;>intro h2<;>simp at h2
 ·
  rw [if_pos h2]
  simp -dsimp [go_sem,hN]
  refine qa5 3 mixed (by kernel_rfl) ?_
  simp -dsimp [go_sem,hN,V.nil]
  all_goals try simp [sepD,List.zipIdx]
 rw [if_neg (by simp [h2])]
 simp -dsimp [go_sem,hN]
 refine cnd ?_ ?_<;>intro h3<;>simp at h3
 ·
  rw [if_pos h3]
  simp -dsimp [go_sem,hN]
  refine qa5 6 mixed (by kernel_rfl) ?_
  simp -dsimp [go_sem,hN]
  refine qay (qcy _) (by simp) ?_
  simp -dsimp [go_sem,hN]
  all_goals try simp [sepD,List.zipIdx]
 rw [if_neg h3]
 simp -dsimp [go_sem,hN]
 by_cases h23:op=23
 ·
  subst h23
  simp -dsimp [go_sem,hN]
  refine cnd ?_ ?_<;>intro h4<;>simp at h4
  ·
   rw [if_pos h4]
   simp -dsimp [go_sem,hN]
   refine qa5 4 mixed (by kernel_rfl) ?_
   simp -dsimp [go_sem,hN]
   all_goals try simp [sepD,List.zipIdx]
  rw [if_neg h4]
  simp -dsimp [go_sem,hN]
  refine cnd ?_ ?_<;>intro h5<;>simp at h5
  ·
   rw [if_pos (by simpa using h5)]
   simp -dsimp [go_sem,hN]
   refine qaa (qbi C t 1003) ?_
   simp -dsimp [go_sem,hN,V.nil]
  rw [if_neg (by simpa using h5)]
  simp -dsimp [go_sem,hN]
  refine qa5 3 mixed (by kernel_rfl) ?_
  simp -dsimp [go_sem,hN]
  all_goals try simp [sepD,List.zipIdx]
 ·
  simp -dsimp [go_sem,hN,h23]
  refine cnd ?_ ?_<;>intro h4<;>simp at h4
  ·
   rw [if_pos h4]
   simp -dsimp [go_sem,hN,h23]
   refine qa5 4 mixed (by kernel_rfl) ?_
   simp -dsimp [go_sem,hN,h23]
   all_goals try simp [sepD,List.zipIdx]
  rw [if_neg h4]
  simp -dsimp [go_sem,hN]
  refine cnd ?_ ?_<;>intro h5<;>simp at h5
  ·
   rw [if_pos (by simpa [h23] using h5)]
   simp -dsimp [go_sem,hN]
   refine qaa (qbi C t 1003) ?_
   simp -dsimp [go_sem,hN,V.nil]
  rw [if_neg (by simpa [h23] using h5)]
  simp -dsimp [go_sem,hN]
  refine qa5 3 mixed (by kernel_rfl) ?_
  simp -dsimp [go_sem,hN]
  all_goals try simp [sepD,List.zipIdx]
theorem c_ref15_Operate (m:RM) (op:Int) (l:List V) (hl:∀ v∈l,qdh v) (hF:∀ n,i64 n→APure Tryz.prog 277 [I n] (S (C.fmt n))) (hB:m.reads.length+1≤68719476736):APure Tryz.prog 205 [.agg (m.c C),I op,.slice (l.map V.c)] (.tuple [.agg (opR C m op l).1.c,.agg ((opR C m op l).2.c C)]):=by
 refine qak Tryz.func205 Tryz.ntmps205 rfl (by kernel_rfl) rfl rfl fun E h hN hh hu hb=>?_
 rcases l with _ | ⟨a,_ | ⟨b,_ | ⟨c,r⟩⟩⟩
 ·
  rw [show opR C m op []=(V.nil,m.ab 1009) from rfl]
  simp -dsimp [go_sem,hN]
  refine qaa (qbd C m) ?_
  simp -dsimp [go_sem,hN]
 ·
  rw [show opR C m op [a]=oneR C m op a from rfl]
  simp -dsimp [go_sem,hN]
  refine qah 8 mixed (by kernel_rfl) (by kernel_rfl) ?_
  simp -dsimp [go_sem,hN]
  refine qay (c_ref15_one C m op a (hl a (by simp)) hF hB) (fun _=>trivial) ?_
  simp -dsimp [go_sem,hN]
  all_goals try simp [sepD,List.zipIdx]
 ·
  rw [show opR C m op [a,b]=twoR m op a b from rfl]
  simp -dsimp [go_sem,hN]
  refine qah 11 mixed (by kernel_rfl) (by kernel_rfl) ?_
  simp -dsimp [go_sem,hN]
  refine qay (c_ref15_two C m op a b (hl a (by simp)) (hl b (by simp))) (fun _=>trivial) ?_
  simp -dsimp [go_sem,hN]
  all_goals try simp [sepD,List.zipIdx]
 ·
  rw [show opR C m op (a::b::c::r)=(V.nil,m.ab 1009) from rfl]
  simp -dsimp [go_sem,hN]
  refine cnd ?_ ?_<;>intro h1<;>simp at h1
  · omega
  simp -dsimp [go_sem,hN]
  refine cnd ?_ ?_<;>intro h1<;>simp at h1
  · omega
  simp -dsimp [go_sem,hN]
  refine qaa (qbd C m) ?_
  simp -dsimp [go_sem,hN]
end
end Go.Proofs.YtdbpbpmikpdjcaaGreatDoor

set_option maxRecDepth 4000
set_option maxHeartbeats 4000000
namespace Go.Proofs.YtdbpbpmikpdjcaaGreatDoor
open Go Go.Abs Go.Cw
section
attribute [local go_sem] RM.c
variable (C:Cfg) (hC:rngC C) (hf:∀ n,i64 n→qa6 (C.fmt n)=true) (hF:∀ n,i64 n→APure Tryz.prog 277 [I n] (S (C.fmt n)))
abbrev zRM:List AV:=[.nils,Bo false,.nils,.nils,.nils,.nils,I 0,I 0,.nils,.nils,.nils,.nils,S em,I 0]
include hC hf hF
theorem c_ref15_eval_of (e:Ex) (m:RM) (r p:Nat) (hX:rngX e) (hI0:RInv (r+nodes e) p m) (hm:m.st=0)
  (hEA:∀ a∈e.args,∀ (m:RM) (r p:Nat),rngX a→RInv (r+nodes a) p m→m.st=0→APure Tryz.prog 164 [.agg (m.c C),.agg a.x] (.tuple [.agg (evR C a m).1.c,.agg ((evR C a m).2.c C)])) :
  APure Tryz.prog 164 [.agg (m.c C),.agg e.x] (.tuple [.agg (evR C e m).1.c,.agg ((evR C e m).2.c C)]):=by
 refine qak Tryz.func164 Tryz.ntmps164 rfl (by kernel_rfl) rfl rfl fun E h hN hh hu hb=>?_
 have hX':=(qd9 _).1 hX
 simp [go_sem] at hb
 rw [evR_eq]
 simp -dsimp [go_sem,hN]
 refine cnd ?_ ?_<;>intro h1<;>simp at h1
 ·
  rw [if_pos h1]
  simp -dsimp [go_sem,hN]
  refine qa5 5 mixed (by kernel_rfl) ?_
  simp -dsimp [go_sem,hN]
  refine qay (c_ref15_num e.n) (by simp) ?_
  simp -dsimp [go_sem,hN]
  all_goals try simp [sepD,List.zipIdx]
 rw [if_neg h1]
 simp -dsimp [go_sem,hN]
 refine cnd ?_ ?_<;>intro h2<;>simp at h2
 ·
  rw [if_pos h2]
  simp -dsimp [go_sem,hN]
  refine qa5 5 mixed (by kernel_rfl) ?_
  simp -dsimp [go_sem,hN,vS]
  all_goals try simp [sepD,List.zipIdx]
 rw [if_neg h2]
 simp -dsimp [go_sem,hN]
 refine cnd ?_ ?_<;>intro h3<;>simp at h3
 ·
  rw [if_pos h3]
  simp -dsimp [go_sem,hN]
  refine qaa (c_ref06_Has m.vars e.s) ?_
  simp -dsimp [go_sem,hN]
  refine cnd ?_ ?_<;>intro h4<;>simp at h4
  ·
   rw [if_neg (by simp [h4])]
   simp -dsimp [go_sem,hN]
   refine qaa (qbd C m) ?_
   simp -dsimp [go_sem,hN]
  ·
   rw [if_pos h4]
   simp -dsimp [go_sem,hN]
   refine qa5 7 mixed (by kernel_rfl) ?_
   simp -dsimp [go_sem,hN]
   refine qay (c_ref06_Get m.vars e.s) (by simp) ?_
   simp -dsimp [go_sem,hN]
   all_goals try simp [sepD,List.zipIdx]
 rw [if_neg h3]
 simp -dsimp [go_sem,hN]
 have hn:=nodes_eq e
 refine qat (α:=List V×RM) e.args.length (fun n a=>a.1.length=n∧(∀ v∈a.1,qdh v)∧a.2.st=0∧RInv (r+1+nodesL (e.args.drop n)) p a.2∧evRL C e.args m=(a.1++(evRL C (e.args.drop n) a.2).1,(evRL C (e.args.drop n) a.2).2))
  (fun n a=>⟨[(2,P0 h.length),(3,P0 (h.length+1)),(4,P0 (h.length+2)),(5,P0 (h.length+3)),(6,.own (h.length+4) a.1.length),(7,I n)],h++[.cells (a.2.c C),.cells e.x,.cells [I 0,I 0,S em],.cells zRM,.arr 77 3 (a.1.map V.c)]⟩)
  ([],m) ⟨rfl,by simp,hm,by simpa using hI0.mono (by omega) (Nat.le_refl _),by simp⟩ ((nil_wk E _ 6 77 3 (by simp [go_sem])).trans ?_) ?_
 ·
  simp
  exact (Wk.mk (by simp [hh]) (by simp [go_sem]) (by simp [hu,qab hu,go_sem]) (by simp [go_sem]))
 rintro n ⟨acc,mm⟩ hn' ⟨hal,hav,hms,hRI,hI⟩
 dsimp only at hal hav hms hRI hI
 have hw:=qav hn' (show _≤68719476736 by first | exact hb.2.1 | exact hb.2 | exact hb.1 | omega)
 simp -dsimp [go_sem,hN]
 refine cnd ?_ ?_<;>intro hc<;>simp at hc
 ·
  rw [qae hc] at hI hRI
  rw [nodesL_cons] at hRI
  rw [evRL] at hI
  have hRI':RInv ((r+1+nodesL (e.args.drop (n+1)))+nodes e.args[n]) p mm:=hRI.mono (by omega) (Nat.le_refl _)
  have hE:=evR_inv hC hf e.args[n] mm _ p (hX'.2 _ (List.getElem_mem hc)) hRI' hms
  simp -dsimp [go_sem,hN,hc]
  refine qa5 13 mixed (by kernel_rfl) ?_
  simp -dsimp [go_sem,hN,hc]
  refine qay (hEA e.args[n] (List.getElem_mem hc) mm _ p (hX'.2 _ (List.getElem_mem hc)) hRI' hms) (by simp) ?_
  obtain ⟨x,hx⟩:∃ x,evR C e.args[n] mm=x:=⟨_,rfl⟩
  obtain ⟨v,t⟩:=x
  simp only [hx] at hI hE ⊢
  simp -dsimp [go_sem,hN]
  refine ⟨by simp [sepD,List.zipIdx],?_⟩
  refine qaa (qbp C t) ?_
  simp -dsimp [go_sem,hN]
  refine cnd ?_ ?_<;>intro h4<;>simp at h4
  ·
   rw [if_pos h4] at hI
   rw [hI,if_pos h4]
   simp -dsimp [go_sem,hN]
   refine qa5 3 mixed (by kernel_rfl) ?_
   simp -dsimp [go_sem,hN,V.nil]
   all_goals try simp [sepD,List.zipIdx]
  ·
   rw [if_neg (by simp [h4])] at hI
   have hE':=hE h4
   simp -dsimp [go_sem,hN,hw]
   refine ⟨by omega,hc,acc++[v],t,⟨by simp [hal],?_,h4,hE'.1,?_⟩,(Wk.mk (by simp [hh]) (by simp [go_sem]) (by simp [hu,qab hu,go_sem]) (by simp [go_sem]))⟩
   ·
    intro u hu
    rcases List.mem_append.1 hu with hu | hu
    · exact hav u hu
    · simp at hu;subst hu;exact hE'.2
   · rw [hI];simp
 ·
  rw [List.drop_eq_nil_of_le (by omega),evRL] at hI
  simp only [List.append_nil] at hI
  rw [hI,if_neg (by simp [hms])]
  simp -dsimp [go_sem,hN]
  have hbd:=hRI.lenR
  refine qaa (c_ref15_Operate C mm e.op acc hav hF (by omega)) ?_
  simp -dsimp [go_sem,hN]
theorem c_ref15_eval (e:Ex) (m:RM) (r p:Nat) (hX:rngX e) (hI0:RInv (r+nodes e) p m) (hm:m.st=0):APure Tryz.prog 164 [.agg (m.c C),.agg e.x] (.tuple [.agg (evR C e m).1.c,.agg ((evR C e m).2.c C)]) :=
 c_ref15_eval_of C hC hf hF e m r p hX hI0 hm (fun a ha m' r' p' hXa hIa hma=>by
  have hlt:SizeOf.sizeOf a<SizeOf.sizeOf e:=Ex.arg_lt ha
  exact c_ref15_eval a m' r' p' hXa hIa hma)
termination_by SizeOf.sizeOf e
end
end Go.Proofs.YtdbpbpmikpdjcaaGreatDoor
