/- Part 45 of a proof. -/
import Derived.Shelf.Small.Strs
import Derived.Shelf.Strconv.Itoa4
import Derived.Lib.ItoaLen
import Derived.Test.YtbimdamecieomaaGreatDoorR31
import Derived.Test.YtbimdamecieomaaGreatDoorR44
set_option linter.all false
set_option maxRecDepth 4000
set_option maxHeartbeats 2000000
namespace Go.Proofs.YtbimdamecieomaaGreatDoor
open Go Go.Abs Go.Cw Tryz
section
attribute [local go_sem] RM.c
variable (C:Cfg)
theorem qbu(m:RM)(c:Int):APure prog 195 [.agg (m.c C),I c] (.agg ((m.ab c).c C)):=by
 refine ik func195 ntmps195 rfl ac rfl rfl fun E h hN hh hu hb=>?_;simp-dsimp[go_sem,hN]
 try simp[RM.ab]
theorem xn8(m:RM)(k:g9):APure prog 245 [.agg (m.c C),S k] (.agg ((m.rst k).c C)):=by
 refine ik func245 ntmps245 rfl ac rfl rfl fun E h hN hh hu hb=>?_;simp-dsimp[go_sem,hN]
 try simp[RM.rst]
theorem qbz(m:RM):APure prog 119 [.agg (m.c C)] (Bo (decide (m.st=0))):=by
 refine ik func119 ntmps119 rfl ac rfl rfl fun E h hN hh hu hb=>?_;simp-dsimp[go_sem,hN]
theorem xqv(l:List g9)(k:g9)(hB:l.length+1≤68719476736):APure prog 246 [.slice (l.map im),S k] (.slice ((sq l k).map im)):=by
 have ig:=qt4 k l;refine ik func246 ntmps246 rfl ac rfl rfl fun E h hN hh hu hb=>?_;simp[go_sem]at hb;simp-dsimp[go_sem,hN];refine jl l.length (fun n=>n+jv k (l.drop n)=jv k l) (fun n=>⟨[(0,.slice (l.map im)),(1,S k),(5,I n)],h⟩) ae ic ?_;intro n hn hI;have hw:=iv hn (show _≤68719476736 by omega);simp-dsimp[go_sem,hN];by_cases hc:n<l.length
 ·rw[ji hc,jv]at hI;simp-dsimp[go_sem,hN,hc];refine gy ?_ ?_<;>intro hg<;>try simp at hg
  ·simp-dsimp[go_sem,hN,hw];rw[if_pos hg]at hI;exact⟨hc,aa,ic⟩
  ·rw[if_neg qkk]at hI;have hp:jv k l=n:=aa;simp-dsimp[go_sem,hN,hc];refine gy ?_ ?_<;>intro hk<;>try simp at hk
   ·simp-dsimp[go_sem,hN];unfold sq;rw[hp,if_pos (by rw[da hc,hk])]
   ·simp-dsimp[go_sem,hN];refine⟨aa,aa,aa,aa,aa,?_⟩;rw[if_pos aa];unfold sq;rw[hp,if_neg (by rw[da hc];simpa using hk)];simp[im,qlm,qln]
 ·rw[cv aa,jv]at hI;have hp:jv k l=n:=aa;have qoe:l[n]?=none:=fa aa;simp-dsimp[go_sem,hN,hc];refine⟨aa,aa,aa,aa,aa,?_⟩;rw[if_pos aa];unfold sq;rw[hp,if_neg (by simp[qoe])];simp[im,qlm,qln]
theorem xei(l:List Pr)(p:Pr)(hB:l.length+1≤68719476736):APure prog 117 [.slice (l.map Pr.c),.agg p.c] (.slice ((py l p).map Pr.c)):=by
 have ig:=xek p.key l;refine ik func117 ntmps117 rfl ac rfl rfl fun E h hN hh hu hb=>?_;simp[go_sem]at hb;simp-dsimp[go_sem,hN];refine jl l.length (fun n=>n+rz p.key (l.drop n)=rz p.key l) (fun n=>⟨[(0,.slice (l.map Pr.c)),(3,P0 h.length),(5,I n)],h++[.cells p.c]⟩) ae ic ?_;intro n hn hI;have hw:=iv hn (show _≤68719476736 by omega);simp-dsimp[go_sem,hN];refine kf 12 mixed ac ac ?_;by_cases hc:n<l.length
 ·rw[ji hc,rz]at hI;simp-dsimp[go_sem,hN,hc];refine gy ?_ ?_<;>intro hg<;>try simp at hg
  ·simp-dsimp[go_sem,hN,hw];rw[if_pos hg]at hI;exact⟨hc,aa,ic⟩
  ·rw[if_neg qkk]at hI;have hp:rz p.key l=n:=aa;simp-dsimp[go_sem,hN];refine kf 12 mixed ac ac ?_;simp-dsimp[go_sem,hN,hc];refine gy ?_ ?_<;>intro hk<;>try simp at hk
   ·have e:py l p=l.take n++p::l.drop (n+1):=by
     unfold py qul;rw[hp,if_pos (by simp[da hc,hk])]
    simp-dsimp[go_sem,hN,hw];refine⟨aa,aa,aa,aa,aa,?_⟩;rw[if_pos aa,e];simp[qlm,qln,Pr.c,V.c]
   ·have e:py l p=l.take n++p::l.drop n:=by
     unfold py qul;rw[hp,if_neg (by simp[da hc];simpa using hk)]
    simp-dsimp[go_sem,hN];refine⟨aa,aa,aa,aa,aa,?_⟩;rw[if_pos aa,e];simp[qlm,qln,Pr.c,V.c]
 ·rw[cv aa,rz]at hI;have hp:rz p.key l=n:=aa;have qoe:l[n]?=none:=fa aa;have e:py l p=l.take n++p::l.drop n:=by
   unfold py qul;rw[hp,if_neg (by simp[qoe])]
  simp-dsimp[go_sem,hN,hc];refine kf 12 mixed ac ac ?_;simp-dsimp[go_sem,hN,hc];refine⟨aa,aa,aa,aa,aa,?_⟩;rw[if_pos aa,e];simp[qlm,qln,Pr.c,V.c]
theorem jet(m:RM)(k:g9)(hB:m.reads.length+1≤68719476736):APure prog 313 [.agg (m.c C),S k] (.tuple [.agg (od C m k).1.c,.agg ((od C m k).2.c C)]):=by
 refine ik func313 ntmps313 rfl ac rfl rfl fun E h hN hh hu hb=>?_;simp-dsimp[go_sem,hN];refine ia (qeb k) ?_;simp-dsimp[go_sem,hN];refine gy ?_ ?_<;>intro h0<;>try simp at h0
 ·have e:od C m k=(V.nil,m.ab 1004):=by unfold od;rw[if_pos h0]
  rw[e];simp-dsimp[go_sem,hN];refine ia (qbu C m 1004) ?_;simp-dsimp[go_sem,hN]
 simp-dsimp[go_sem,hN];refine ia (xhv m.puts k) ?_;simp-dsimp[go_sem,hN];refine gy ?_ ?_<;>intro h1<;>try simp at h1
 ·have e:od C m k=(lh m.own k,m):=by unfold od;rw[if_neg cg,if_pos h1]
  rw[e];simp-dsimp[go_sem,hN];refine tk 6 mixed ac ?_;simp-dsimp[go_sem,hN];refine ku (xlr m.own k) ae ?_;simp-dsimp[go_sem,hN];simp[pm,List.zipIdx]
 simp-dsimp[go_sem,hN];refine ka (xhv C.rd k) ae ?_;simp-dsimp[go_sem,hN];refine gy (fun h2=>?_) (fun h2=>?_)
 ·have e:od C m k=(V.nil,m.rst k):=by unfold od;rw[if_neg cg,if_neg qgk,if_pos ca]
  rw[e];simp-dsimp[go_sem,hN];refine ia (xn8 C m k) ?_;simp-dsimp[go_sem,hN]
 ·have e:od C m k=(lh C.state k,{ m with reads:=sq m.reads k }):=by unfold od;rw[if_neg cg,if_neg qgk,if_neg ca]
  rw[e];simp-dsimp[go_sem,hN];refine ia (xqv m.reads k hB) ?_;simp-dsimp[go_sem,hN];refine tk 6 mixed ac ?_;simp-dsimp[go_sem,hN];refine ku (xlr C.state k) ae ?_;simp-dsimp[go_sem,hN];simp[pm,List.zipIdx]
theorem xr1(m:RM)(k:g9)(v:V)(hB:m.puts.length+1≤68719476736)(hB2:m.own.length+1≤68719476736):APure prog 197 [.agg (m.c C),S k,.agg v.c] (.agg ((qm7 C m k v).c C)):=by
 refine ik func197 ntmps197 rfl ac rfl rfl fun E h hN hh hu hb=>?_;simp-dsimp[go_sem,hN];refine ia (qeb k) ?_;simp-dsimp[go_sem,hN];refine gy ?_ ?_<;>intro h0<;>try simp at h0
 ·have e:qm7 C m k v=m.ab 1004:=by unfold qm7;rw[if_pos h0]
  rw[e];simp-dsimp[go_sem,hN];refine ia (qbu C m 1004) ?_;simp-dsimp[go_sem,hN]
 simp-dsimp[go_sem,hN];refine ka (xhv C.wr k) ae ?_;simp-dsimp[go_sem,hN];refine gy (fun h2=>?_) (fun h2=>?_)
 ·have e:qm7 C m k v=m.rst k:=by unfold qm7;rw[if_neg cg,if_pos ca]
  rw[e];simp-dsimp[go_sem,hN];refine ia (xn8 C m k) ?_;simp-dsimp[go_sem,hN]
 ·have e:qm7 C m k v = { m with puts:=sq m.puts k,own:=py m.own ⟨k,v⟩ }:=by unfold qm7;rw[if_neg cg,if_neg ca]
  rw[e];simp-dsimp[go_sem,hN];refine ia (xqv m.puts k hB) ?_;simp-dsimp[go_sem,hN];refine ia (xei m.own ⟨k,v⟩ hB2) ?_;simp-dsimp[go_sem,hN]
theorem jn1(m:RM)(v:V)(hB:m.out.length+1≤68719476736):APure prog 198 [.agg (m.c C),.agg v.c] (.agg ((qqp m v).c C)):=by
 refine ik func198 ntmps198 rfl ac rfl rfl fun E h hN hh hu hb=>?_;simp-dsimp[go_sem,hN];refine gy ?_ ?_<;>intro h0<;>simp at h0
 ·have e:qqp m v=m.ab 1007:=by unfold qqp;rw[if_pos aa]
  rw[e];simp-dsimp[go_sem,hN];refine ia (qbu C m 1007) ?_;simp-dsimp[go_sem,hN]
 ·have e:qqp m v = { m with out:=m.out++[v] }:=by unfold qqp;rw[if_neg aa]
  rw[e];simp-dsimp[go_sem,hN];exact⟨aa,aa⟩
theorem xsh(m:RM):APure prog 156 [.agg (m.c C)] (.agg ((qu m).c C)):=by
 refine ik func156 ntmps156 rfl ac rfl rfl fun E h hN hh hu hb=>?_;simp-dsimp[go_sem,hN];refine gy ?_ ?_<;>intro h0<;>simp at h0
 ·have e:qu m=({ m with steps:=jt (m.steps+1) }:RM).ab 1008:=by unfold qu;rw[if_pos h0]
  rw[e];simp-dsimp[go_sem,hN];refine ia (qbu C { m with steps:=jt (m.steps+1) } 1008) ?_;simp-dsimp[go_sem,hN]
 ·have e:qu m = { m with steps:=jt (m.steps+1) }:=by unfold qu;rw[if_neg (by have:jt (m.steps+1)=IntKind.i64.wrap (m.steps+1):=rfl;omega)]
  rw[e];simp-dsimp[go_sem,hN]
theorem jb7(m:RM):APure prog 121 [.agg (m.c C)] (.agg (Eff.c ⟨1,m.code,m.out,m.reads,m.puts,m.own,m.miss,m.steps⟩)):=by
 refine ik func121 ntmps121 rfl ac rfl rfl fun E h hN hh hu hb=>?_;simp-dsimp[go_sem,hN]
theorem jma(m:RM):APure prog 120 [.agg (m.c C)] (.agg (Eff.c ⟨m.st,m.code,[],m.reads,m.puts,[],m.miss,m.steps⟩)):=by
 refine ik func120 ntmps120 rfl ac rfl rfl fun E h hN hh hu hb=>?_;simp-dsimp[go_sem,hN]
theorem jmg:APure prog 116 [] (.agg u4.c):=by
 refine ik func116 ntmps116 rfl ac rfl rfl fun E h hN hh hu hb=>?_;simp-dsimp[go_sem,hN,u4]
theorem xfn(n:Int):APure prog 240 [I n] (.agg (vI n).c):=by
 refine ik func240 ntmps240 rfl ac rfl rfl fun E h hN hh hu hb=>?_;simp-dsimp[go_sem,hN,vI]
theorem qdl(b:Bool):APure prog 309 [Bo b] (.agg (vB b).c):=by
 refine ik func309 ntmps309 rfl ac rfl rfl fun E h hN hh hu hb=>?_;simp-dsimp[go_sem,hN];refine gy (fun h0=>?_) (fun h0=>?_)<;>subst h0<;>simp-dsimp[go_sem,hN,vB]
theorem qbr(m:RM):APure prog 241 [.agg (m.c C)] (.tuple [.agg V.nil.c,.agg ((m.ab 1009).c C)]):=by
 refine ik func241 ntmps241 rfl ac rfl rfl fun E h hN hh hu hb=>?_;simp-dsimp[go_sem,hN];refine ia (qbu C m 1009) ?_;simp-dsimp[go_sem,hN]
theorem xsx(m:RM)(n e:Int):APure prog 308 [.agg (m.c C),I n,I e] (.tuple [.agg (zx m (n,e)).1.c,.agg ((zx m (n,e)).2.c C)]):=by
 refine ik func308 ntmps308 rfl ac rfl rfl fun E h hN hh hu hb=>?_;simp-dsimp[go_sem,hN];refine gy ?_ ?_<;>intro h0<;>simp at h0
 ·have e1:zx m (n,e)=(V.nil,m.ab 1002):=by unfold zx;rw[if_pos h0]
  rw[e1];simp-dsimp[go_sem,hN];refine ia (qbu C m 1002) ?_;simp-dsimp[go_sem,hN]
 simp-dsimp[go_sem,hN];refine gy ?_ ?_<;>intro h1<;>simp at h1
 ·have e1:zx m (n,e)=(V.nil,m.ab 1001):=by unfold zx;rw[if_neg h0,if_pos h1]
  rw[e1];simp-dsimp[go_sem,hN];refine ia (qbu C m 1001) ?_;simp-dsimp[go_sem,hN]
 ·have e1:zx m (n,e)=(vI n,m):=by unfold zx;rw[if_neg h0,if_neg av]
  rw[e1];simp-dsimp[go_sem,hN];refine tk 4 mixed ac ?_;simp-dsimp[go_sem,hN];refine ku (xfn n) ae ?_;simp-dsimp[go_sem,hN]
  all_goals try simp[pm,List.zipIdx]
theorem jez(op a b:Int)(ha:i64 a)(li:i64 b):APure prog 307 [I op,I a,I b] (.tuple [I (qoy op a b).1,I (qoy op a b).2]):=by
 refine ik func307 ntmps307 rfl ac rfl rfl fun E h hN hh hu hb=>?_;by_cases h4:op=4
 ·subst h4;simp-dsimp[go_sem,hN];refine ia (jj6 a b ha li) ?_;simp-dsimp[go_sem,hN,qoy]
 by_cases h5:op=5
 ·subst h5;simp-dsimp[go_sem,hN];refine ia (xmo a b ha li) ?_;simp-dsimp[go_sem,hN,qoy]
 by_cases h6:op=6
 ·subst h6;simp-dsimp[go_sem,hN];refine ia (jeh a b ha li) ?_;simp-dsimp[go_sem,hN,qoy]
 by_cases h7:op=7
 ·subst h7;simp-dsimp[go_sem,hN];refine ia (jne a b ha li) ?_;simp-dsimp[go_sem,hN,qoy]
 simp-dsimp[go_sem,hN,h4,h5,h6,h7];refine ia (xzb a b) ?_;simp-dsimp[go_sem,hN,qoy,h4,h5,h6,h7]
theorem xhd(op c:Int):APure prog 310 [I op,I c] (Bo (y8 op c)):=by
 refine ik func310 ntmps310 rfl ac rfl rfl fun E h hN hh hu hb=>?_;by_cases h10:op=10
 ·subst h10;simp-dsimp[go_sem,hN,y8]
 by_cases h11:op=11
 ·subst h11;simp-dsimp[go_sem,hN,y8]
 by_cases h12:op=12
 ·subst h12;simp-dsimp[go_sem,hN,y8]
 by_cases h13:op=13
 ·subst h13;simp-dsimp[go_sem,hN,y8]
 by_cases h14:op=14
 ·subst h14;simp-dsimp[go_sem,hN,y8]
 simp-dsimp[go_sem,hN,y8,h10,h11,h12,h13,h14]
end
end Go.Proofs.YtbimdamecieomaaGreatDoor
set_option maxRecDepth 8000
namespace Go.Proofs.YtbimdamecieomaaGreatDoor
open Go Go.Abs Go.Cw
section
theorem xaf{α:Type}{f:α→α→Bool}(hf:∀x,f x x=true):∀l,pw f l l=true
 | []=>rfl
 |x::l=>by simp[pw,hf,xaf hf l]
theorem jen(e:Eff):qpa e e=true:=by
 simp[qpa,xaf (f:=ug) (fun x=>by simp[ug]),xaf (f:=eqB) (fun x=>by simp[eqB]),xaf (f:=eqP) (fun x=>by simp[eqP,ug])]
variable {tT:TypeId} {tx:Nat×Nat} {g:Nat}
end
section
variable {tT:TypeId} {tx:Nat×Nat} {g:Nat}
def xtz(p:Proc)(args:List V)(ft:Foot):List AV:=[S p.name,.slice (p.params.map Param.c),.slice (p.body.map St.c),.slice (args.map V.c),Bo ft.all,.slice (ft.reads.map im),.slice (ft.writes.map im)]
attribute [local go_sem] xtz
end
end Go.Proofs.YtbimdamecieomaaGreatDoor
namespace Go.Proofs.YtbimdamecieomaaGreatDoor
open Go Go.Abs Go.Cw Tryz
section
theorem xvc(l:List g9):APure prog 155 [.slice (l.map im)] (Bo (ui none l&&decide ((l.length:Int)≤64))):=by
 refine ik func155 ntmps155 rfl ac rfl rfl fun E h hN hh hu hb=>?_;simp[go_sem]at hb;simp-dsimp[go_sem,hN];refine jl l.length (fun n=>ui (nv l n) (l.drop n)=ui none l) (fun n=>⟨[(0,.slice (l.map im)),(3,I n)],h⟩) qg6 ic ?_;intro n hn hI;have hw:=iv hn hb.1;simp-dsimp[go_sem,hN];refine gy ?_ ?_<;>intro hc<;>simp at hc
 ·rw[ji hc,ui]at hI;simp-dsimp[go_sem,hN,hc];refine kf 19 mixed ac ac ?_;simp-dsimp[go_sem,hN,hc];refine ku (qeb _) ae ?_;cases n with
  |zero =>
   simp-dsimp[go_sem,hN];refine gy ?_ ?_<;>intro hg<;>try simp at hg
   ·simp-dsimp[go_sem,hN];grind[nv,after]
   ·simp-dsimp[go_sem,hN,hw];exact⟨hc,qfs,ic⟩
  |succ m =>
   have hm:m<l.length:=aa;have oi:=qve (fp hm) hb.1;simp at hw;simp-dsimp[go_sem,hN,oi,hm,hc];refine⟨fun hk=>⟨hk,aa⟩,gy (fun hg=>?_) (fun hg=>?_)⟩<;>rw[xmi]at hg<;>simp at hg
   ·simp-dsimp[go_sem,hN];rw[←hI];rcases hg with h1|h1<;>simp[nv,hm,after,h1]
   ·simp-dsimp[go_sem,hN,hw];simp[hg,nv,hm,after]at hI;exact⟨hc,qfx,ic⟩
 ·rw[cv aa,ui]at hI;simp-dsimp[go_sem,hN,←hI]
theorem jhz(f:Foot):APure prog 115 [.agg f.c] (Bo (my f.all f.reads f.writes)):=by
 refine ik func115 ntmps115 rfl ac rfl rfl fun E h hN hh hu hb=>?_;simp-dsimp[go_sem,hN];refine gy ?_ ?_<;>intro h0<;>try simp at h0
 all_goals simp-dsimp[go_sem,hN,my,h0]
 refine ia (xvc f.reads) ?_;simp-dsimp[go_sem,hN];refine ka (xvc f.writes) ae ?_;simp-dsimp[go_sem,hN,my,h0]
variable {tT:TypeId} {tx:Nat×Nat} {g:Nat}
attribute [local go_sem] xtz
end
end Go.Proofs.YtbimdamecieomaaGreatDoor
set_option maxRecDepth 4000
set_option maxHeartbeats 4000000
namespace Go.Proofs.YtbimdamecieomaaGreatDoor
open Go Go.Abs Go.Cw Tryz
section
attribute [local go_sem] RM.c
variable (C:Cfg)
theorem jgi(m:RM)(op:Int)(a b:V)(ha:kp a)(li:kp b):APure prog 279 [.agg (m.c C),I op,.agg a.c,.agg b.c] (.tuple [.agg (yi m op a b).1.c,.agg ((yi m op a b).2.c C)]):=by
 refine ik func279 ntmps279 rfl ac rfl rfl fun E h hN hh hu hb=>?_;by_cases hA:op=4∨op=5∨op=6∨op=7∨op=8
 ·have e:yi m op a b=if a.k=1∧b.k=1 then zx m (qoy op a.n b.n)else(V.nil,m.ab 1009):=by unfold yi;rw[if_pos hA]
  rw[e];rcases hA with rfl|rfl|rfl|rfl|rfl <;>
  ·simp-dsimp[go_sem,hN];refine gy (fun h1=>?_) (fun h1=>?_)
   ·rw[if_neg b9];simp-dsimp[go_sem,hN];refine ia (qbr C m) ?_;simp-dsimp[go_sem,hN]
   ·rw[if_pos av];simp-dsimp[go_sem,hN];refine ia (jez _ a.n b.n ha.1 li.1) ?_;simp-dsimp[go_sem,hN];refine ia (xsx C m _ _) ?_;simp-dsimp[go_sem,hN]
 have hA':op≠4∧op≠5∧op≠6∧op≠7∧op≠8:=by simpa using hA
 obtain⟨n4,n5,n6,n7,n8⟩:=hA';by_cases h16:op=16
 ·subst h16;have e:yi m 16 a b=if a.k=3∧b.k=3 then(vB (decide (a.n=1)&&decide (b.n=1)),m)else(V.nil,m.ab 1009):=by unfold yi;simp
  rw[e];simp-dsimp[go_sem,hN];refine gy (fun h1=>?_) (fun h1=>?_)
  ·rw[if_neg b9];simp-dsimp[go_sem,hN];refine ia (qbr C m) ?_;simp-dsimp[go_sem,hN]
  ·rw[if_pos av];simp-dsimp[go_sem,hN];refine tk 11 mixed ac ?_;simp-dsimp[go_sem,hN];refine ku (qdl _) ae ?_;simp-dsimp[go_sem,hN]
   all_goals try simp[pm,List.zipIdx]
 by_cases h17:op=17
 ·subst h17;have e:yi m 17 a b=if a.k=3∧b.k=3 then(vB (decide (a.n=1)||decide (b.n=1)),m)else(V.nil,m.ab 1009):=by unfold yi;simp
  rw[e];simp-dsimp[go_sem,hN];refine gy (fun h1=>?_) (fun h1=>?_)
  ·rw[if_neg b9];simp-dsimp[go_sem,hN];refine ia (qbr C m) ?_;simp-dsimp[go_sem,hN]
  ·rw[if_pos av];simp-dsimp[go_sem,hN];refine tk 11 mixed ac ?_;simp-dsimp[go_sem,hN];refine ku (qdl _) ae ?_;simp-dsimp[go_sem,hN]
   all_goals try simp[pm,List.zipIdx]
 by_cases h19:op=19
 ·subst h19;have hwid:IntKind.i64.wrap ((a.s.size:Int)+b.s.size)=(a.s.size:Int)+b.s.size:=qe6 aa (by have:=ha.2;have:=li.2;omega);have hw64:jt ((a.s.size:Int)+b.s.size)=(a.s.size:Int)+b.s.size:=hwid;have e:yi m 19 a b=if a.k=2∧b.k=2 then(if 64<jt (a.s.size+b.s.size:Int)then(V.nil,m.ab 1006)else(vS (a.s++b.s),m))else(V.nil,m.ab 1009):=by unfold yi;simp
  rw[hw64]at e;rw[e];simp-dsimp[go_sem,hN,hwid];refine gy (fun h1=>?_) (fun h1=>?_)
  ·rw[if_neg b9];simp-dsimp[go_sem,hN];refine ia (qbr C m) ?_;simp-dsimp[go_sem,hN]
  ·rw[if_pos av];simp-dsimp[go_sem,hN,hwid];refine gy ?_ ?_<;>intro h2<;>simp at h2
   ·rw[if_pos h2];simp-dsimp[go_sem,hN];refine ia (qbu C m 1006) ?_;simp-dsimp[go_sem,hN]
   ·rw[if_neg aa];simp-dsimp[go_sem,hN];refine tk 8 mixed ac ?_;simp-dsimp[go_sem,hN,vS]
    try omega
    all_goals try simp[pm,List.zipIdx]
    all_goals try omega
 have e:yi m op a b=if (a.k=1∧b.k=1)∨(a.k=2∧b.k=2)∨(a.k=3∧b.k=3∧(op=10∨op=11))then(vB (y8 op (qti a b)),m)else(V.nil,m.ab 1009):=by
  unfold yi;rw[if_neg hA,if_neg h16,if_neg h17,if_neg h19]
 rw[e];simp-dsimp[go_sem,hN,n4,n5,n6,n7,n8,h16,h17,h19]
 repeat refine⟨ax,?_⟩
 refine gy (fun h1=>?_) (fun h1=>?_)
 ·rw[if_neg b9];simp-dsimp[go_sem,hN];refine ia (qbr C m) ?_;simp-dsimp[go_sem,hN]
 ·rw[if_pos b9];simp-dsimp[go_sem,hN];refine gy ?_ ?_<;>intro h2<;>simp at h2
  ·have e2:qti a b = -1:=by unfold qti;rw[if_pos h2]
   rw[e2];simp-dsimp[go_sem,hN];refine tk 6 mixed ac ?_;simp-dsimp[go_sem,hN];refine ku (xhd op (-1)) ae ?_;simp-dsimp[go_sem,hN];refine ku (qdl _) ae ?_;simp-dsimp[go_sem,hN]
   all_goals try simp[pm,List.zipIdx]
  ·simp-dsimp[go_sem,hN];refine gy ?_ ?_<;>intro h3<;>simp at h3
   ·have e2:qti a b=1:=by unfold qti;rw[if_neg ax,if_neg (by unfold ug;grind)]
    rw[e2];simp-dsimp[go_sem,hN];refine tk 6 mixed ac ?_;simp-dsimp[go_sem,hN];refine ku (xhd op 1) ae ?_;simp-dsimp[go_sem,hN];refine ku (qdl _) ae ?_;simp-dsimp[go_sem,hN]
    all_goals try simp[pm,List.zipIdx]
   ·have e2:qti a b=0:=by unfold qti;rw[if_neg ax,if_pos (by unfold ug;grind)]
    rw[e2];simp-dsimp[go_sem,hN];refine tk 6 mixed ac ?_;simp-dsimp[go_sem,hN];refine ku (xhd op 0) ae ?_;simp-dsimp[go_sem,hN];refine ku (qdl _) ae ?_;simp-dsimp[go_sem,hN]
    all_goals try simp[pm,List.zipIdx]
theorem jby(m:RM)(op:Int)(a:V)(ha:kp a)(hF:∀n,i64 n→APure prog 312 [I n] (S (C.fmt n)))(hB:m.reads.length+1≤68719476736):APure prog 280 [.agg (m.c C),I op,.agg a.c] (.tuple [.agg (tq C m op a).1.c,.agg ((tq C m op a).2.c C)]):=by
 refine ik func280 ntmps280 rfl ac rfl rfl fun E h hN hh hu hb=>?_;have hw:(∀X:Prop,X→X):=fun _ h=>h;by_cases h9:op=9
 ·subst h9;have e:tq C m 9 a=if a.k≠1 then(V.nil,m.ab 1009)else zx m (wj a.n):=qhy;rw[e];simp-dsimp[go_sem,hN];refine gy (fun h1=>?_) (fun h1=>?_)
  ·rw[if_pos av];simp-dsimp[go_sem,hN];refine ia (qbr C m) ?_;simp-dsimp[go_sem,hN]
  ·rw[if_neg av];simp-dsimp[go_sem,hN];refine ia (xuo a.n ha.1) ?_;simp-dsimp[go_sem,hN];refine ia (xsx C m _ _) ?_;simp-dsimp[go_sem,hN]
 by_cases h18:op=18
 ·subst h18;have e:tq C m 18 a=if a.k≠3 then(V.nil,m.ab 1009)else(vB (decide (a.n=0)),m):=qhy;rw[e];simp-dsimp[go_sem,hN];refine gy (fun h1=>?_) (fun h1=>?_)
  ·rw[if_pos av];simp-dsimp[go_sem,hN];refine ia (qbr C m) ?_;simp-dsimp[go_sem,hN]
  ·rw[if_neg av];simp-dsimp[go_sem,hN];refine tk 6 mixed ac ?_;simp-dsimp[go_sem,hN];refine ku (qdl _) ae ?_;simp-dsimp[go_sem,hN]
   all_goals try simp[pm,List.zipIdx]
 by_cases h20:op=20
 ·subst h20;have e:tq C m 20 a=if a.k≠1 then(V.nil,m.ab 1009)else(vS (C.fmt a.n),m):=qhy;rw[e];simp-dsimp[go_sem,hN];refine gy (fun h1=>?_) (fun h1=>?_)
  ·rw[if_pos av];simp-dsimp[go_sem,hN];refine ia (qbr C m) ?_;simp-dsimp[go_sem,hN]
  ·rw[if_neg av];simp-dsimp[go_sem,hN];refine tk 6 mixed ac ?_;simp-dsimp[go_sem,hN];refine ku (hF a.n ha.1) ae ?_;simp-dsimp[go_sem,hN,vS]
   all_goals try simp[pm,List.zipIdx]
 by_cases h21:op=21
 ·subst h21;have e:tq C m 21 a=if a.k≠2 then(V.nil,m.ab 1009)else(vI a.s.size,m):=qhy;rw[e];simp-dsimp[go_sem,hN];refine gy (fun h1=>?_) (fun h1=>?_)
  ·rw[if_pos av];simp-dsimp[go_sem,hN];refine ia (qbr C m) ?_;simp-dsimp[go_sem,hN]
  ·rw[if_neg av];simp-dsimp[go_sem,hN];refine tk 6 mixed ac ?_;simp-dsimp[go_sem,hN];refine ku (xfn a.s.size) ae ?_;simp-dsimp[go_sem,hN]
   all_goals try simp[pm,List.zipIdx]
 have e:tq C m op a=if a.k≠2 then(V.nil,m.ab 1009)else
   if (od C m a.s).2.st≠0 then(V.nil,(od C m a.s).2)
   else if op=24 then(vB (!decide ((od C m a.s).1.k=0)),(od C m a.s).2)
   else if (od C m a.s).1.k=0 then(⟨if op=23 then 2 else 1,0,em⟩,(od C m a.s).2)
   else if (od C m a.s).1.k≠(if op=23 then 2 else 1)then(V.nil,(od C m a.s).2.ab 1003)
   else((od C m a.s).1,(od C m a.s).2):=by
  unfold tq qr7;simp only[h9,h18,h20,h21,if_false,or_self]
 rw[e];simp-dsimp[go_sem,hN,h9,h18,h20,h21];refine gy (fun h1=>?_) (fun h1=>?_)
 ·rw[if_pos av];simp-dsimp[go_sem,hN];refine ia (qbr C m) ?_;simp-dsimp[go_sem,hN]
 rw[if_neg av];simp-dsimp[go_sem,hN,h9,h18,h20,h21];refine ia (jet C m a.s hB) ?_;obtain⟨x,hx⟩:∃x,od C m a.s=x:=⟨_,rfl⟩
 obtain⟨v,t⟩:=x;simp only[hx];simp-dsimp[go_sem,hN];refine ia (qbz C t) ?_;simp-dsimp[go_sem,hN];refine gy ?_ ?_<;>intro h2<;>simp at h2
 ·rw[if_pos h2];simp-dsimp[go_sem,hN];refine tk 3 mixed ac ?_;simp-dsimp[go_sem,hN,V.nil]
  all_goals try simp[pm,List.zipIdx]
 rw[if_neg qjf];simp-dsimp[go_sem,hN];refine gy ?_ ?_<;>intro h3<;>simp at h3
 ·rw[if_pos h3];simp-dsimp[go_sem,hN];refine tk 6 mixed ac ?_;simp-dsimp[go_sem,hN];refine ku (qdl _) ae ?_;simp-dsimp[go_sem,hN]
  all_goals try simp[pm,List.zipIdx]
 rw[if_neg h3];simp-dsimp[go_sem,hN];by_cases h23:op=23
 ·subst h23;simp-dsimp[go_sem,hN];refine gy ?_ ?_<;>intro h4<;>simp at h4
  ·rw[if_pos h4];simp-dsimp[go_sem,hN];refine tk 4 mixed ac ?_;simp-dsimp[go_sem,hN]
   all_goals try simp[pm,List.zipIdx]
  rw[if_neg h4];simp-dsimp[go_sem,hN];refine gy ?_ ?_<;>intro h5<;>simp at h5
  ·rw[if_pos (by simpa using h5)];simp-dsimp[go_sem,hN];refine ia (qbu C t 1003) ?_;simp-dsimp[go_sem,hN,V.nil]
  rw[if_neg (by simpa using h5)];simp-dsimp[go_sem,hN];refine tk 3 mixed ac ?_;simp-dsimp[go_sem,hN]
  all_goals try simp[pm,List.zipIdx]
 ·simp-dsimp[go_sem,hN,h23];refine gy ?_ ?_<;>intro h4<;>simp at h4
  ·rw[if_pos h4];simp-dsimp[go_sem,hN,h23];refine tk 4 mixed ac ?_;simp-dsimp[go_sem,hN,h23]
   all_goals try simp[pm,List.zipIdx]
  rw[if_neg h4];simp-dsimp[go_sem,hN];refine gy ?_ ?_<;>intro h5<;>simp at h5
  ·rw[if_pos (by simpa[h23]using h5)];simp-dsimp[go_sem,hN];refine ia (qbu C t 1003) ?_;simp-dsimp[go_sem,hN,V.nil]
  rw[if_neg (by simpa[h23]using h5)];simp-dsimp[go_sem,hN];refine tk 3 mixed ac ?_;simp-dsimp[go_sem,hN]
  all_goals try simp[pm,List.zipIdx]
theorem jl2(m:RM)(op:Int)(l:List V)(hl:∀v∈l,kp v)(hF:∀n,i64 n→APure prog 312 [I n] (S (C.fmt n)))(hB:m.reads.length+1≤68719476736):APure prog 243 [.agg (m.c C),I op,.slice (l.map V.c)] (.tuple [.agg (opR C m op l).1.c,.agg ((opR C m op l).2.c C)]):=by
 refine ik func243 ntmps243 rfl ac rfl rfl fun E h hN hh hu hb=>?_;rcases l with _|⟨a,_|⟨b,_|⟨c,r⟩⟩⟩
 ·rw[show opR C m op []=(V.nil,m.ab 1009)from rfl];simp-dsimp[go_sem,hN];refine ia (qbr C m) ?_;simp-dsimp[go_sem,hN]
 ·rw[show opR C m op [a]=tq C m op a from rfl];simp-dsimp[go_sem,hN];refine kf 8 mixed ac ac ?_;simp-dsimp[go_sem,hN];refine ku (jby C m op a (hl a ae) hF hB) (fun _=>trivial) ?_;simp-dsimp[go_sem,hN]
  all_goals try simp[pm,List.zipIdx]
 ·rw[show opR C m op [a,b]=yi m op a b from rfl];simp-dsimp[go_sem,hN];refine kf 11 mixed ac ac ?_;simp-dsimp[go_sem,hN];refine ku (jgi C m op a b (hl a ae) (hl b ae)) (fun _=>trivial) ?_;simp-dsimp[go_sem,hN]
  all_goals try simp[pm,List.zipIdx]
 ·rw[show opR C m op (a::b::c::r)=(V.nil,m.ab 1009)from rfl];simp-dsimp[go_sem,hN];refine gy ?_ ?_<;>intro h1<;>simp at h1
  ·omega
  simp-dsimp[go_sem,hN];refine gy ?_ ?_<;>intro h1<;>simp at h1
  ·omega
  simp-dsimp[go_sem,hN];refine ia (qbr C m) ?_;simp-dsimp[go_sem,hN]
end
section
attribute [local go_sem] RM.c
variable (C:Cfg) (hC:ur C) (hf:∀n,i64 n→ml (C.fmt n)=true) (hF:∀n,i64 n→APure prog 312 [I n] (S (C.fmt n)))
abbrev zRM:List AV:=[.nils,Bo false,.nils,.nils,.nils,.nils,I 0,I 0,.nils,.nils,.nils,.nils,S em,I 0]
include hC hf hF
theorem jj8(e:Ex)(m:RM)(r p:Nat)(hX:su e)(hI0:RInv (r+nodes e) p m)(hm:m.st=0)
  (hEA:∀a∈e.args,∀(m:RM) (r p:Nat),su a→RInv (r+nodes a) p m→m.st=0→APure prog 196 [.agg (m.c C),.agg a.x] (.tuple [.agg (jj C a m).1.c,.agg ((jj C a m).2.c C)])) :
  APure prog 196 [.agg (m.c C),.agg e.x] (.tuple [.agg (jj C e m).1.c,.agg ((jj C e m).2.c C)]):=by
 refine ik func196 ntmps196 rfl ac rfl rfl fun E h hN hh hu hb=>?_;have hX':=(qvc _).1 hX;simp[go_sem]at hb;rw[je5];simp-dsimp[go_sem,hN];refine gy ?_ ?_<;>intro h1<;>simp at h1
 ·rw[if_pos h1];simp-dsimp[go_sem,hN];refine tk 5 mixed ac ?_;simp-dsimp[go_sem,hN];refine ku (xfn e.n) ae ?_;simp-dsimp[go_sem,hN]
  all_goals try simp[pm,List.zipIdx]
 rw[if_neg h1];simp-dsimp[go_sem,hN];refine gy ?_ ?_<;>intro h2<;>simp at h2
 ·rw[if_pos h2];simp-dsimp[go_sem,hN];refine tk 5 mixed ac ?_;simp-dsimp[go_sem,hN,vS]
  all_goals try simp[pm,List.zipIdx]
 rw[if_neg h2];simp-dsimp[go_sem,hN];refine gy ?_ ?_<;>intro h3<;>simp at h3
 ·rw[if_pos h3];simp-dsimp[go_sem,hN];refine ia (xsn m.vars e.s) ?_;simp-dsimp[go_sem,hN];refine gy ?_ ?_<;>intro h4<;>simp at h4
  ·rw[if_neg (by simp[h4])];simp-dsimp[go_sem,hN];refine ia (qbr C m) ?_;simp-dsimp[go_sem,hN]
  ·rw[if_pos h4];simp-dsimp[go_sem,hN];refine tk 7 mixed ac ?_;simp-dsimp[go_sem,hN];refine ku (xlr m.vars e.s) ae ?_;simp-dsimp[go_sem,hN]
   all_goals try simp[pm,List.zipIdx]
 rw[if_neg h3];simp-dsimp[go_sem,hN];have hn:=qzo e;refine pa (α:=List V×RM) e.args.length (fun n a=>a.1.length=n∧(∀v∈a.1,kp v)∧a.2.st=0∧RInv (r+1+qok (e.args.drop n)) p a.2∧un C e.args m=(a.1++(un C (e.args.drop n) a.2).1,(un C (e.args.drop n) a.2).2))
  (fun n a=>⟨[(2,P0 h.length),(3,P0 (h.length+1)),(4,P0 (h.length+2)),(5,P0 (h.length+3)),(6,.own (h.length+4) a.1.length),(7,I n)],h++[.cells (a.2.c C),.cells e.x,.cells [I 0,I 0,S em],.cells zRM,.arr 71 3 (a.1.map V.c)]⟩)
  ([],m) ⟨rfl,ae,hm,by simpa using hI0.mono aa (ct _),ae⟩ ((qm4 E _ 6 71 3 af).trans ?_) ?_
 ·simp;exact ic
 rintro n ⟨iu,mm⟩ hn' ⟨wu,zw,hms,hRI,hI⟩;dsimp only at wu zw hms hRI hI;have hw:=iv hn' (show _≤68719476736 by first|exact hb.2.1|exact hb.2|exact hb.1|omega);simp-dsimp[go_sem,hN];refine gy ?_ ?_<;>intro hc<;>simp at hc
 ·rw[ji hc]at hI hRI;rw[qz2]at hRI;rw[un]at hI;have hRI':RInv ((r+1+qok (e.args.drop (n+1)))+nodes e.args[n]) p mm:=hRI.mono aa (ct _);have hE:=qz5 hC hf e.args[n] mm _ p (hX'.2 _ (c9 hc)) hRI' hms;simp-dsimp[go_sem,hN,hc];refine tk 13 mixed ac ?_;simp-dsimp[go_sem,hN,hc];refine ku (hEA e.args[n] (c9 hc) mm _ p (hX'.2 _ (c9 hc)) hRI' hms) ae ?_;obtain⟨x,hx⟩:∃x,jj C e.args[n] mm=x:=⟨_,rfl⟩
  obtain⟨v,t⟩:=x;simp only[hx]at hI hE⊢;simp-dsimp[go_sem,hN];refine⟨qic,?_⟩;refine ia (qbz C t) ?_;simp-dsimp[go_sem,hN];refine gy ?_ ?_<;>intro h4<;>simp at h4
  ·rw[if_pos h4]at hI;rw[hI,if_pos h4];simp-dsimp[go_sem,hN];refine tk 3 mixed ac ?_;simp-dsimp[go_sem,hN,V.nil]
   all_goals try simp[pm,List.zipIdx]
  ·rw[if_neg (by simp[h4])]at hI;have wz:=hE h4;simp-dsimp[go_sem,hN,hw];refine⟨aa,hc,iu++[v],t,⟨by simp[wu],?_,h4,wz.1,?_⟩,ic⟩
   ·intro u hu;rcases dt.1 hu with hu|hu
    ·exact zw u hu
    ·simp at hu;subst hu;exact wz.2
   ·rw[hI];simp
 ·rw[cv aa,un]at hI;simp only[e8]at hI;rw[hI,if_neg (by simp[hms])];simp-dsimp[go_sem,hN];have hbd:=hRI.lenR;refine ia (jl2 C mm e.op iu zw hF aa) ?_;simp-dsimp[go_sem,hN]
theorem xjn(e:Ex)(m:RM)(r p:Nat)(hX:su e)(hI0:RInv (r+nodes e) p m)(hm:m.st=0):APure prog 196 [.agg (m.c C),.agg e.x] (.tuple [.agg (jj C e m).1.c,.agg ((jj C e m).2.c C)]) :=
 jj8 C hC hf hF e m r p hX hI0 hm (fun a ha m' r' p' hXa hIa hma=>by
  have ib:SizeOf.sizeOf a<SizeOf.sizeOf e:=Ex.arg_lt ha;exact xjn a m' r' p' hXa hIa hma)
termination_by SizeOf.sizeOf e
end
end Go.Proofs.YtbimdamecieomaaGreatDoor
set_option maxHeartbeats 400000
namespace Go.Proofs.YtbimdamecieomaaGreatDoor
open Go Go.Abs Go.Cw Tryz
abbrev zRL:List AV:=[.nils,Bo false,.nils,.nils,.nils,.nils,I 0,I 0,.nils,.nils,.nils,.nils,S em,I 0]
section
attribute [local go_sem] RM.c
variable (C:Cfg) (hC:ur C) (hf:∀n,i64 n→ml (C.fmt n)=true) (hF:∀n,i64 n→APure prog 312 [I n] (S (C.fmt n)))
include hC hf hF
theorem jdo(s:St)(a b:Int)(m:RM)(ha:i64 a)(li:i64 b)(hI0:RInv 0 0 m)(hm:m.st=0)
  (hBd:∀m,RInv 0 0 m→m.st=0→APure prog 118 [.agg (m.c C),.slice (s.body.map St.c)] (.agg ((om C s.body m).c C)))
  (hBi:∀m,RInv 0 0 m→m.st=0→(om C s.body m).st=0→RInv 0 0 (om C s.body m)) :
  APure prog 199 [.agg (m.c C),.agg s.x,I a,I b] (.agg ((if a<b∧((Cw.t0 b a).2≠0∨s.max<(Cw.t0 b a).1)then m.ab 1005 else xz (om C s.body) s.name b (b - a).toNat a m).c C)):=by
 refine ik func199 ntmps199 rfl ac rfl rfl fun E h hN hh hu hb=>?_;simp[go_sem]at hb;obtain⟨R,hR⟩:∃R,(if a<b∧((Cw.t0 b a).2≠0∨s.max<(Cw.t0 b a).1)then m.ab 1005 else xz (om C s.body) s.name b (b - a).toNat a m)=R:=⟨_,rfl⟩
 rw[hR];simp-dsimp[go_sem,hN];refine ia (xmo b a li ha) ?_;simp-dsimp[go_sem,hN];refine⟨ax,?_⟩;refine gy (fun h1=>?_) (fun h1=>?_)
 ·rw[if_pos b9]at hR;subst hR;simp-dsimp[go_sem,hN];refine ia (qbu C m 1005) ?_;simp-dsimp[go_sem,hN]
 rw[if_neg b9]at hR;simp-dsimp[go_sem,hN];have wt:b - a<18446744073709551616:=by have:=ha.1;have:=li.2;omega
 refine pa (α:=RM) (b - a).toNat (fun n mm=>(mm.st=0→RInv 0 0 mm)∧xz (om C s.body) s.name b ((b - a).toNat - n) (a+n) mm=R)
  (fun n mm=>⟨[(3,I b),(4,P0 h.length),(5,P0 (h.length+1)),(8,P0 (h.length+2)),(11,I (a+n))],h++[.cells (mm.c C),.cells s.x,.cells zRL]⟩) m ⟨fun _=>hI0,qj7⟩ ic ?_
 rintro n mm hn ⟨hRI,hI⟩;simp-dsimp[go_sem,hN];refine ka (qbz C mm) ae ?_;simp-dsimp[go_sem,hN];refine gy ?_ ?_<;>intro hc<;>simp at hc
 ·have ib:n<(b - a).toNat:=aa;have hif:i64 (a+n):=⟨by have:=ha.1;omega,by have:=li.2;omega⟩
  have hw:IntKind.i64.wrap (a+(n:Int)+1)=a+((n+1:Nat):Int):=by rw[qe6 (by have:=ha.1;omega) (by have:=li.2;omega)];omega
  have hRI:=hRI hc.2;have hcast:a+((n:Int)+1)=a+((n+1:Nat):Int):=aa;obtain⟨f,hfu⟩:∃f,(b - a).toNat - n=f+1:=⟨(b - a).toNat - n - 1,aa⟩
  have hfu2:(b - a).toNat - (n+1)=f:=aa;have xbn:=xsh C mm;have hTi:=fun h2=>xd5 hRI h2;rw[hfu,xz,if_pos ⟨aa,hc.2⟩,show jt (a+(n:Int)+1)=a+((n+1:Nat):Int)from hw]at hI;obtain⟨T,hTe⟩:∃T,qu mm=T:=⟨_,rfl⟩
  rw[hTe]at hI xbn hTi;have hTr:=qbz C T;simp-dsimp[go_sem,hN];refine ia xbn ?_;simp-dsimp[go_sem,hN];refine ia hTr ?_;simp-dsimp[go_sem,hN];refine gy ?_ ?_<;>intro h2<;>simp at h2
  ·have hT:=hTi h2;have hV:=hT.var (p:=0) (qqb hif) s.name;have hlv:=hT.lenV;rw[if_pos h2]at hI;have ss:=xei T.vars ⟨s.name,vI (a+n)⟩ aa;have hV0:=hV.mono (di _) (ct _);have hB1:=hBd _ hV0 h2;have hB2:=hBi _ hV0 h2;obtain⟨V,hVe⟩:∃V,py T.vars ⟨s.name,vI (a+n)⟩=V:=⟨_,rfl⟩
   rw[hVe]at ss;simp only[hVe]at hB1 hB2 hI;obtain⟨B,hBe⟩:∃B,om C s.body { T with vars:=V }=B:=⟨_,rfl⟩
   simp only[hBe]at hB1 hB2 hI;simp only[RM.c]at hB1;simp-dsimp[go_sem,hN];refine kf 7 mixed ac ac ?_;simp-dsimp[go_sem,hN];refine ku (xfn (a+n)) ae ?_;simp-dsimp[go_sem,hN];refine ia ss ?_;simp-dsimp[go_sem,hN];refine ia hB1 ?_;simp-dsimp[go_sem,hN,hw];have xai:(n:Int)<b - a:=aa;refine⟨xai,B,⟨hB2,?_⟩,?_⟩
   ·rw[hfu2,hcast];exact hI
   ·exact ic
  ·rw[if_neg h2]at hI;simp-dsimp[go_sem,hN,hw];refine⟨aa,T,⟨fun h3=>absurd h3 h2,by rw[hfu2,hcast];exact hI⟩,ic⟩
 ·have he:xz (om C s.body) s.name b ((b - a).toNat - n) (a+n) mm=mm:=by
   by_cases h2:mm.st=0
   ·exact xdm _ (fun g=>hc g h2)
   ·exact xbv _ _ h2
  rw[he]at hI;subst hI;simp-dsimp[go_sem,hN]
end
end Go.Proofs.YtbimdamecieomaaGreatDoor
set_option maxHeartbeats 4000000
namespace Go.Proofs.YtbimdamecieomaaGreatDoor
open Go Go.Abs Go.Cw Tryz
section
attribute [local go_sem] RM.c
variable (C:Cfg) (hC:ur C) (hf:∀n,i64 n→ml (C.fmt n)=true) (hF:∀n,i64 n→APure prog 312 [I n] (S (C.fmt n)))
include hC hf hF
theorem jlp(t:St)(d:Nat)(m:RM)(jm:tv t d)(hg:Cw.t8 t)(hI0:RInv 8192 1 m)(hm:m.st=0)
  (hB1:∀m,RInv 0 0 m→m.st=0→APure prog 118 [.agg (m.c C),.slice (t.body.map St.c)] (.agg ((om C t.body m).c C)))
  (hB2:∀m,RInv 0 0 m→m.st=0→APure prog 118 [.agg (m.c C),.slice (t.els.map St.c)] (.agg ((om C t.els m).c C))) :
  APure prog 157 [.agg (m.c C),.agg t.x] (.agg ((stR C t m).c C)):=by
 refine ik func157 ntmps157 rfl ac rfl rfl fun E h hN hh hu hb=>?_;have qw:=(xc _ _).1 jm;have jf:=(qsn _).1 hg;have jy:=xaj jm;simp[go_sem]at hb;obtain⟨R,hR⟩:∃R,stR C t m=R:=⟨_,rfl⟩
 rw[hR];rw[xpu]at hR;simp-dsimp[go_sem,hN];refine gy ?_ ?_<;>intro h8<;>simp at h8
 ·rw[if_pos h8]at hR;subst hR;simp-dsimp[go_sem,hN];refine ia (qbu C m t.max) ?_;simp-dsimp[go_sem,hN]
 rw[if_neg h8]at hR;have hgx:=jf.1 h8;have uq:RInv (4097+nodes t.a) 1 m:=hI0.mono (by have:=hgx.2;omega) (ct _);have hEv:=xjn C hC hf hF t.a m 4097 1 hgx.1 uq hm;have hA:=qz5 hC hf t.a m 4097 1 hgx.1 uq hm;obtain⟨x,hx⟩:∃x,jj C t.a m=x:=⟨_,rfl⟩
 obtain⟨u,m1⟩:=x;simp only[hx]at hA hR hEv;simp-dsimp[go_sem,hN];refine ia hEv ?_;simp-dsimp[go_sem,hN];refine ia (qbz C m1) ?_;simp-dsimp[go_sem,hN];refine gy ?_ ?_<;>intro h1<;>simp at h1
 ·rw[if_pos h1]at hR;subst hR;simp-dsimp[go_sem,hN]
 rw[if_neg qgk]at hR;have hA:=hA h1;have hA0:=hA.1.mono (di _) (di _);have hlv:=hA.1.lenV;have hlp:=hA.1.lenP;have hlo:=hA.1.lenO;have ib:=hA.1.ot;by_cases ho:t.op=1∨t.op=2
 ·rw[if_pos ho]at hR;subst hR;rcases ho with ho|ho <;>
  ·simp-dsimp[go_sem,hN,ho];refine ia (xei m1.vars ⟨t.name,u⟩ aa) ?_;simp-dsimp[go_sem,hN,ho]
 have ly:t.op≠1∧t.op≠2:=aa;rw[if_neg ho]at hR;by_cases h4:t.op=4
 ·rw[if_pos h4]at hR;subst hR;simp-dsimp[go_sem,hN,h4];refine ia (xr1 C m1 u.s V.nil aa aa) ?_;simp-dsimp[go_sem,hN]
 rw[if_neg h4]at hR;by_cases h7:t.op=7
 ·rw[if_pos h7]at hR;subst hR;simp-dsimp[go_sem,hN,h7];refine ia (jn1 C m1 u aa) ?_;simp-dsimp[go_sem,hN]
 rw[if_neg h7]at hR;by_cases h5:t.op=5
 ·rw[if_pos h5]at hR;simp-dsimp[go_sem,hN,h5];refine gy ?_ ?_<;>intro h2<;>simp at h2
  ·rw[if_pos h2]at hR;subst hR;simp-dsimp[go_sem,hN];refine ia (hB1 m1 hA0 h1) ?_;simp-dsimp[go_sem,hN]
  ·rw[if_neg h2]at hR;subst hR;simp-dsimp[go_sem,hN];refine ia (hB2 m1 hA0 h1) ?_;simp-dsimp[go_sem,hN]
 rw[if_neg h5]at hR;have h36:t.op=3∨t.op=6:=aa;have hgb:=jf.2.1 h36;have mt:RInv (0+nodes t.b) 1 m1:=hA.1.mono (by have:=hgb.2;omega) (ct _);have hEv2:=xjn C hC hf hF t.b m1 0 1 hgb.1 mt h1;have hB:=qz5 hC hf t.b m1 0 1 hgb.1 mt h1;obtain⟨y,hy⟩:∃y,jj C t.b m1=y:=⟨_,rfl⟩
 obtain⟨v,m2⟩:=y;simp only[hy]at hB hR hEv2;simp-dsimp[go_sem,hN,ly.1,ly.2,h4,h7,h5];refine ia hEv2 ?_;simp-dsimp[go_sem,hN];refine ia (qbz C m2) ?_;simp-dsimp[go_sem,hN];refine gy ?_ ?_<;>intro h2<;>simp at h2
 ·rw[if_pos h2]at hR;subst hR;simp-dsimp[go_sem,hN]
 rw[if_neg qjf]at hR;have hB:=hB h2;have hlp2:=hB.1.lenP;have hlo2:=hB.1.lenO;by_cases h3:t.op=3
 ·rw[if_pos h3]at hR;subst hR;simp-dsimp[go_sem,hN,h3];refine ia (xr1 C m2 u.s v aa aa) ?_;simp-dsimp[go_sem,hN]
 ·rw[if_neg h3]at hR;have hlp3:=jdo C hC hf hF t u.n v.n m2 hA.2.1 hB.2.1 (hB.1.mono (di _) (di _)) h2 hB1 (fun m hm h0 h3=>xa2 hC hf t.body (d+1) m qw.2.1 jf.2.2.1 hm h0 h3);rw[hR]at hlp3;simp-dsimp[go_sem,hN,h3];refine ia hlp3 ?_;simp-dsimp[go_sem,hN]
end
end Go.Proofs.YtbimdamecieomaaGreatDoor
