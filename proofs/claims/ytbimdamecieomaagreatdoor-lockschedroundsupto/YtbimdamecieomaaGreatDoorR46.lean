/- Part 46 of a proof. -/
import Derived.Test.YtbimdamecieomaaGreatDoorR45
set_option linter.all false
set_option maxRecDepth 4000
set_option maxHeartbeats 4000000
namespace Go.Proofs.YtbimdamecieomaaGreatDoor
open Go Go.Abs Go.Cw Tryz
abbrev zRB:List AV:=[.nils,Bo false,.nils,.nils,.nils,.nils,I 0,I 0,.nils,.nils,.nils,.nils,S em,I 0]
section
attribute [local go_sem] RM.c
variable (C:Cfg) (hC:ur C) (hf:∀n,i64 n→ml (C.fmt n)=true) (hF:∀n,i64 n→APure prog 312 [I n] (S (C.fmt n)))
include hC hf hF
theorem je0(l:List St)(d:Nat)(m:RM)(jm:x6 l d)(hg:∀x∈l,Cw.t8 x)(hI0:RInv 0 0 m)(hm:m.st=0)
  (hS:∀x∈l,∀m,RInv 8192 1 m→m.st=0→APure prog 157 [.agg (m.c C),.agg x.x] (.agg ((stR C x m).c C))) :
  APure prog 118 [.agg (m.c C),.slice (l.map St.c)] (.agg ((om C l m).c C)):=by
 refine ik func118 ntmps118 rfl ac rfl rfl fun E h hN hh hu hb=>?_;simp[go_sem]at hb;obtain⟨R,hR⟩:∃R,om C l m=R:=⟨_,rfl⟩
 rw[hR];simp-dsimp[go_sem,hN];refine pa (α:=RM) l.length (fun n mm=>(mm.st=0→RInv 0 0 mm)∧om C (l.drop n) mm=R)
  (fun n mm=>⟨[(1,.slice (l.map St.c)),(2,P0 h.length),(4,P0 (h.length+1)),(5,I n)],h++[.cells (mm.c C),.cells zRB]⟩) m ⟨fun _=>hI0,qj7⟩ ic ?_
 rintro n mm hn ⟨hRI,hI⟩;have hw:=iv hn (show _≤68719476736 by first|exact hb.2.1|exact hb.2|exact hb.1|omega);simp-dsimp[go_sem,hN];refine ka (qbz C mm) ae ?_;simp-dsimp[go_sem,hN];refine gy ?_ ?_<;>intro hc<;>simp at hc
 ·have hRI:=hRI hc.2;have mq:n<l.length:=aa;have xbn:=xsh C mm;have hTi:=fun h2=>xd5 hRI h2;rw[ji mq,om,if_neg (by simp[hc.2])]at hI;obtain⟨T,hTe⟩:∃T,qu mm=T:=⟨_,rfl⟩
  rw[hTe]at hI xbn hTi;have hTr:=qbz C T;simp-dsimp[go_sem,hN];refine ia xbn ?_;simp-dsimp[go_sem,hN];refine ia hTr ?_;simp-dsimp[go_sem,hN];refine gy ?_ ?_<;>intro h2<;>simp at h2
  ·have hT:=hTi h2;rw[if_pos h2]at hI;have hS1:=hS l[n] (c9 mq) T hT h2;have hS2:=xtp hC hf l[n] d T (jm _ (c9 mq)) (hg _ (c9 mq)) hT h2;obtain⟨B,hBe⟩:∃B,stR C l[n] T=B:=⟨_,rfl⟩
   rw[hBe]at hI hS1 hS2;simp only[RM.c]at hS1;simp-dsimp[go_sem,hN,mq];refine kf 5 mixed ac ac ?_;simp-dsimp[go_sem,hN,mq];refine ia hS1 ?_;simp-dsimp[go_sem,hN,hw];refine⟨B,⟨hS2,hI⟩,ic⟩
  ·rw[if_neg h2]at hI;simp-dsimp[go_sem,hN,hw];refine⟨mq,_,⟨fun h3=>absurd h3 h2,hI⟩,ic⟩
 ·have he:om C (l.drop n) mm=mm:=by
   by_cases h2:mm.st=0
   ·rw[cv (by by_cases pq:n<l.length;exact absurd h2 (hc aa);omega),om]
   ·exact xa6 C _ h2
  rw[he]at hI;subst hI;simp-dsimp[go_sem,hN]
mutual
theorem jm9(t:St)(d:Nat)(m:RM)(jm:tv t d)(hg:Cw.t8 t)(hI0:RInv 8192 1 m)(hm:m.st=0):APure prog 157 [.agg (m.c C),.agg t.x] (.agg ((stR C t m).c C)):=by
 have u0:SizeOf.sizeOf t.body<SizeOf.sizeOf t:=St.body_le t;have wy:SizeOf.sizeOf t.els<SizeOf.sizeOf t:=St.els_le t;have qw:=(xc _ _).1 jm;have jf:=(qsn _).1 hg;exact jlp C hC hf hF t d m jm hg hI0 hm (fun m1 hA h1=>xjh t.body (d+1) m1 qw.2.1 jf.2.2.1 hA h1) (fun m1 hA h1=>xjh t.els (d+1) m1 qw.2.2 jf.2.2.2 hA h1)
termination_by SizeOf.sizeOf t
theorem xjh(l:List St)(d:Nat)(m:RM)(jm:x6 l d)(hg:∀x∈l,Cw.t8 x)(hI0:RInv 0 0 m)(hm:m.st=0):APure prog 118 [.agg (m.c C),.slice (l.map St.c)] (.agg ((om C l m).c C)) :=
 je0 C hC hf hF l d m jm hg hI0 hm (fun x hx m1 uq h1=>by
  have ib:SizeOf.sizeOf x<SizeOf.sizeOf l:=fj hx;exact jm9 x d m1 (jm _ hx) (hg _ hx) uq h1)
termination_by SizeOf.sizeOf l
end
end
end Go.Proofs.YtbimdamecieomaaGreatDoor
set_option maxHeartbeats 2000000
namespace Go.Proofs.YtbimdamecieomaaGreatDoor
open Go Go.Abs Go.Cw Tryz
theorem xqg{op:Int}(h:1≤op∧op≤8):mu op=(xw op,true):=by
 have:op=1∨op=2∨op=3∨op=4∨op=5∨op=6∨op=7∨op=8:=aa;rcases this with rfl|rfl|rfl|rfl|rfl|rfl|rfl|rfl<;>rfl
theorem jgj{op:Int}(h:op<1∨8<op):(mu op).2=false:=by
 unfold mu
 repeat' split
 all_goals first|rfl|(exfalso;omega)
theorem jhr{s:St}{d:Int}(hu:mu s.op=(xw s.op,true))(hs:vd s (xw s.op)=true):sg s d=if (xw s.op).name=true∧qnu s.name=false then 7
  else if (xw s.op).a=true∧mg s.a 1≠0 then mg s.a 1 else if (xw s.op).b=true∧mg s.b 1≠0 then mg s.b 1 else if 12<d then 2 else 0:=by
 unfold sg;rw[hu];simp[hs]
theorem xyt(s:St)(d:Int):APure prog 189 [.agg s.x,I d] (I (sg s d)):=by
 refine ik func189 ntmps189 rfl ac rfl rfl fun E h hN hh hu hb=>?_;simp-dsimp[go_sem,hN];refine ia (jfz s.op) ?_;simp-dsimp[go_sem,hN];obtain⟨u,hu⟩:∃u,xw s.op=u:=⟨_,rfl⟩
 rw[hu]
 repeat refine⟨ax,?_⟩
 refine ka (qem s.a) ae ?_;simp-dsimp[go_sem,hN]
 repeat refine⟨ax,?_⟩
 refine ka (qem s.b) ae ?_;simp-dsimp[go_sem,hN]
 repeat refine⟨ax,?_⟩
 refine gy (fun h0=>?_) (fun h0=>?_)
 ·have il:(mu s.op).2=false∨vd s (mu s.op).1=false:=by
   by_cases hr:s.op<1∨8<s.op
   ·exact .inl (jgj hr)
   ·right;rw[xqg aa,hu];simp at h0;unfold vd;grind
  simp-dsimp[go_sem,hN];rw[sg,if_pos il]
 have hr:1≤s.op∧s.op≤8:=by simp at h0;omega
 have hk:=xqg hr;rw[hu]at hk;simp-dsimp[go_sem,hN]
 repeat refine⟨ax,?_⟩
 refine gy (fun h1=>?_) (fun h1=>?_)
 ·have il:(mu s.op).2=false∨vd s (mu s.op).1=false:=by
   right;rw[hk];simp at h1;unfold vd;grind
  simp-dsimp[go_sem,hN];rw[sg,if_pos il]
 have hs:vd s u=true:=by
  simp at h0 h1;simp only[vd,c0];refine⟨?_,?_⟩
  ·simp[em];grind
  ·split
   ·rename_i h6;simpa using h1.1 h6
   ·split
    ·rename_i h8;simpa using h1.2 h8
    ·rfl
 have hE:=jhr (s:=s) (d:=d) (by rw[hk,hu]) (by rw[hu];exact hs);rw[hu]at hE;obtain⟨R,hR⟩:∃R,sg s d=R:=⟨_,rfl⟩
 rw[hR]at hE⊢;simp-dsimp[go_sem,hN];refine ka (xe8 s.name) ae ?_;simp-dsimp[go_sem,hN];refine gy (fun h2=>?_) (fun h2=>?_)
 ·simp-dsimp[go_sem,hN];simp at h2;rw[hE,if_pos h2]
 rw[if_neg qii]at hE;simp-dsimp[go_sem,hN];refine gy (fun h3=>?_) (fun h3=>?_)
 ·simp-dsimp[go_sem,hN];refine ia (qea s.a) ?_;simp-dsimp[go_sem,hN];refine gy ?_ ?_<;>intro h4<;>simp at h4
  ·simp-dsimp[go_sem,hN];rw[hE,if_pos ⟨h3,h4⟩]
  rw[if_neg (fun g=>g.2 h4)]at hE;simp-dsimp[go_sem,hN];refine gy (fun h5=>?_) (fun h5=>?_)
  ·simp-dsimp[go_sem,hN];refine ia (qea s.b) ?_;simp-dsimp[go_sem,hN];refine gy ?_ ?_<;>intro h6<;>simp at h6
   ·simp-dsimp[go_sem,hN];rw[hE,if_pos ⟨h5,h6⟩]
   rw[if_neg (fun g=>g.2 h6)]at hE;simp-dsimp[go_sem,hN];refine gy ?_ ?_<;>intro h7<;>simp at h7<;>simp-dsimp[go_sem,hN]<;>first|rw[hE,if_pos h7]|rw[hE,if_neg aa]
  ·rw[if_neg (by simp[h5])]at hE;simp-dsimp[go_sem,hN];refine gy ?_ ?_<;>intro h7<;>simp at h7<;>simp-dsimp[go_sem,hN]<;>first|rw[hE,if_pos h7]|rw[hE,if_neg aa]
 ·rw[if_neg (by simp[h3])]at hE;simp-dsimp[go_sem,hN];refine gy (fun h5=>?_) (fun h5=>?_)
  ·simp-dsimp[go_sem,hN];refine ia (qea s.b) ?_;simp-dsimp[go_sem,hN];refine gy ?_ ?_<;>intro h6<;>simp at h6
   ·simp-dsimp[go_sem,hN];rw[hE,if_pos ⟨h5,h6⟩]
   rw[if_neg (fun g=>g.2 h6)]at hE;simp-dsimp[go_sem,hN];refine gy ?_ ?_<;>intro h7<;>simp at h7<;>simp-dsimp[go_sem,hN]<;>first|rw[hE,if_pos h7]|rw[hE,if_neg aa]
  ·rw[if_neg (by simp[h5])]at hE;simp-dsimp[go_sem,hN];refine gy ?_ ?_<;>intro h7<;>simp at h7<;>simp-dsimp[go_sem,hN]<;>first|rw[hE,if_pos h7]|rw[hE,if_neg aa]
theorem xye(l:List Param):APure prog 187 [.slice (l.map Param.c)] (I (qtb l)):=by
 refine ik func187 ntmps187 rfl ac rfl rfl fun E h hN hh hu hb=>?_;unfold qtb;simp[go_sem]at hb;simp-dsimp[go_sem,hN];refine gy ?_ ?_<;>intro h0<;>simp at h0
 ·simp-dsimp[go_sem,hN];omega
 simp-dsimp[go_sem,hN];rw[if_neg aa];refine jl l.length (fun n=>qdn (l.take n) (l.drop n)=qdn [] l) (fun n=>⟨[(0,.slice (l.map Param.c)),(3,I n)],h⟩) ae ic ?_;intro n hn hI;have hw:=iv hn hb.1;simp-dsimp[go_sem,hN];refine gy ?_ ?_<;>intro hc<;>simp at hc
 ·rw[ji hc,qdn]at hI;simp-dsimp[go_sem,hN,hc];refine ia (xe8 _) ?_;simp-dsimp[go_sem,hN];refine gy ?_ ?_<;>intro h1<;>simp at h1
  ·simp-dsimp[go_sem,hN];simpa[h1]using hI
  simp-dsimp[go_sem,hN,hc]
  repeat refine⟨ax,?_⟩
  refine gy (fun h2=>?_) (fun h2=>?_)
  ·simp-dsimp[go_sem,hN];rw[←hI,if_neg qgk,if_pos qjm]
  have vo:¬(l[n].ty<1∨3<l[n].ty):=qjm;rw[if_neg qgk,if_neg vo]at hI;simp-dsimp[go_sem,hN];obtain⟨f,hf⟩:∃f:Param→Bool,f=fun q=>decide (q.name=l[n].name):=⟨_,rfl⟩
  rw[←hf]at hI;refine jl n (fun k=>mv f ((l.take n).drop k)=mv f (l.take n)) (fun k=>⟨[(0,.slice (l.map Param.c)),(3,I n),(4,I k)],h⟩) ae ic ?_;intro k hk hJ;have hwk:=iv hk (show _≤68719476736 by omega);simp-dsimp[go_sem,hN];refine gy ?_ ?_<;>intro hkc<;>simp at hkc
  ·have hkl:k<l.length:=aa;have hkt:k<(l.take n).length:=am;rw[ji hkt,mv]at hJ;have het:(l.take n)[k]=l[k]:=ae;rw[het]at hJ;refine kf 10 mixed ac ac ?_;simp-dsimp[go_sem,hN,hkl,hc];refine gy ?_ ?_<;>intro hg<;>simp at hg
   ·simp-dsimp[go_sem,hN];have:f l[k]=true:=by rw[hf];simp[hg]
    rw[this,Bool.true_or]at hJ;rw[←hI,←hJ];rfl
   ·simp-dsimp[go_sem,hN,hwk];have:f l[k]=false:=by rw[hf];simp[hg]
    exact⟨hkc,by simpa[this]using hJ,ic⟩
  ·have hkn:k=n:=aa;subst hkn;rw[cv qfn,mv]at hJ;simp-dsimp[go_sem,hN,hw];refine⟨hc,?_,ic⟩;rw[eg hc];rw[←hJ]at hI;simpa using hI
 ·rw[cv aa,qdn]at hI;simp-dsimp[go_sem,hN,←hI]
theorem xf6(e:Ex)(r:Bool)(out:List Vt)(h:out.length≤401):(uz e r out).length≤401:=by
 rw[xdu];split
 ·exact h
 ·exact(xda (xg (σ:=Unit)) md e.args _ () am).1
mutual
theorem qz1:∀(e:Ex) (r:Bool) (out:List Vt),out.length≤(uz e r out).length
 | .mk op n s args,r,out=>by
  rw[uz];split
  ·exact ct _
  ·have:=xsa args (out++[Vt.ofE (.mk op n s args) r]);simp at this;omega
theorem xsa:∀(l:List Ex) (out:List Vt),out.length≤(y3 l out).length
 | [],out=>by rw[y3];exact ct _
 |e::l,out=>by
  rw[y3];split
  ·have h1:=qz1 e false out;have h2:=xsa l (uz e false out);omega
  ·exact ct _
end
theorem xwn(e:Ex)(out:List Vt):out.length≤(tc e out).length:=by
 unfold tc;split
 ·exact ct _
 ·exact qz1 e true out
mutual
theorem xyh:∀(t:St) (d:Nat) (out:List Vt),out.length≤(Cw.wkS t d out).length
 | .mk _ _ _ a b body els,d,out=>by
  rw[Cw.wkS];have h1:=xwn a out;have h2:=xwn b (tc a out);have h3:=qe7 body (d+1) (tc b (tc a out));have h4:=qe7 els (d+1) (p6 body (d+1) (tc b (tc a out)));omega
theorem qe7:∀(l:List St) (d:Nat) (out:List Vt),out.length≤(p6 l d out).length
 | [],d,out=>by rw[p6];exact ct _
 |t::l,d,out=>by
  rw[p6];split
  ·have h1:=xyh t d (out++[Vt.ofS t d]);have h2:=qe7 l d (Cw.wkS t d (out++[Vt.ofS t d]));simp at h1;omega
  ·exact ct _
end
theorem qwu(l:List St)(d:Nat)(out:List Vt)(h:out.length≤401):(p6 l d out).length≤401:=(xcr (xg (σ:=Unit)) md l d out () h).1
section
theorem xmy:Ex.z.op=0:=rfl
theorem xoz:Ex.z.n=0:=rfl
theorem xwo:Ex.z.s=em:=rfl
theorem xwh:Ex.z.args=[]:=rfl
theorem jil:St.z.op=0:=rfl
theorem jbw:St.z.name=em:=rfl
theorem jjm:St.z.max=0:=rfl
theorem jlx:St.z.a=Ex.z:=rfl
theorem jli:St.z.b=Ex.z:=rfl
theorem jku:St.z.body=[]:=rfl
theorem xxv:St.z.els=[]:=rfl
attribute [local go_sem] Vt.c Vt.ofS Vt.ofE xmy xoz xwo xwh jil jbw jjm jlx jli jku xxv
theorem qeq(e:Ex)(r:Bool)(out:List Vt)(h:gz)(i:Nat)(hi:h[i]?=some (.uarr 225 20 (out.map Vt.c)))(hl:out.length≤401) :
  ACalls prog 274 [.own i out.length,.agg e.x,Bo r] h fun q h'=>q=.ret (.own i (uz e r out).length)∧h'=h.set i (.uarr 225 20 ((uz e r out).map Vt.c)):=by
 refine lw func274 ntmps274 rfl ac rfl fun E hN hh hu hb il kr=>?_;simp[go_sem]at hb;have nq:i<h.length:=(cq.1 hi).1;have a1:∀l:gz,(h++l)[i]?=h[i]?:=fun l=>cu nq;have a2:∀(l:gz) (y:AObj),(h++l).set i y=h.set i y++l:=fun l y=>e9 _ _ nq;have a3:∀(o:AObj) (l:gz),(h.set i o++l)[i]?=some o:=fun o l=>by rw[cu qfw];simp[nq]
 have a4:∀(o y:AObj) (l:gz),(h.set i o++l).set i y=h.set i y++l:=fun o y l=>by rw[e9 _ _ qfw,gq]
 have a5:∀(o x:AObj) (l:gz),(h.set i o++x::l)[h.length]?=some x:=fun o x l=>by rw[cy ae];simp
 have wg:∀(rs:List (List AV)),hUnder h.length (h.set i (.uarr 225 20 rs))=true:=fun rs=>qb1 hu qh5;have hn:(out.map Vt.c).length=out.length:=ae;have e0:h.set i (.uarr 225 20 (out.map Vt.c))=h:=qdc hi;have hil1:i<h.length+1:=Nat.lt_succ_of_lt nq;have hue:∀(rs:List (List AV)),hUnder (h.length+1) (h.set i (.uarr 225 20 rs)++[.cells [I e.op,I e.n,S e.s,.slice (e.args.map Ex.c)]])=true:=fun rs=>by
  rw[tn,ww (Nat.le_succ _) (wg rs)];simp[hUnder,AObj.under,AV.under,nb]
 obtain⟨W,hW⟩:∃W,uz e r out=W:=⟨_,rfl⟩
 rw[hW];rw[xdu]at hW;simp-dsimp[go_sem,hN,a1,a2,a3,a4,a5,hi];refine gy ?_ ?_<;>intro h0<;>simp at h0
 ·rw[if_pos aa]at hW;rw[←hW,e0];simp-dsimp[go_sem,hN,a1,hi];exact⟨_,.refl _,h,by simp[go_sem,hi,nq],hwk.app0 _,ae,hu,rfl,rfl⟩
 rw[if_neg aa]at hW;simp-dsimp[go_sem,hN,a1,a2,a3,a4,a5,hi];obtain⟨o1,ly⟩:∃o1,out++[Vt.ofE e r]=o1:=⟨_,rfl⟩
 rw[ly]at hW;have hl1:o1.length=out.length+1:=qjg;have hr1:out.map Vt.c++[(Vt.ofE e r).c]=o1.map Vt.c:=qjg;refine⟨aa,?_⟩;refine pa (α:=List Vt) e.args.length (fun n o=>y3 (e.args.drop n) o=y3 e.args o1∧o.length≤401∧out.length<o.length) (fun n o=>⟨[(0,.own i o.length),(4,P0 h.length),(7,I n)],h.set i (.uarr 225 20 (o.map Vt.c))++[.cells e.x]⟩) o1 ⟨ae,aa,aa⟩ ?_ ?_
 ·refine Wk.mk bi (by simp[go_sem,←ly]) (by simp[hue,go_sem]) (by simp[go_sem,←ly,hil1])
 rintro n o hn' ⟨hI,ho,hlo⟩;have hw:=iv hn' (show _≤68719476736 by first|exact hb.1.2.1|exact hb.2.1|exact hb.1|exact hb|omega);simp-dsimp[go_sem,hN,a3,a4,a5];refine gy ?_ ?_<;>intro hc<;>simp at hc
 ·have mq:n<e.args.length:=aa;have ib:SizeOf.sizeOf e.args[n]<SizeOf.sizeOf e:=Ex.arg_lt (c9 mq);rw[ji mq,y3,if_pos aa]at hI;simp-dsimp[go_sem,hN,a3,a4,a5,mq];refine it (qeq e.args[n] false o _ i (a3 _ _) ho) ?_;rintro q h' ⟨rfl,rfl⟩;simp-dsimp[go_sem,hN,a3,a4,a5,hw];refine⟨mq,uz e.args[n] false o,⟨hI,xf6 _ _ _ ho,by have:=qz1 e.args[n] false o;omega⟩,?_⟩;refine Wk.mk bi (by simp[go_sem,a4]) (by simp[hue,go_sem]) (by simp[go_sem,hil1])
 ·have he:y3 (e.args.drop n) o=o:=by
   by_cases h2:n<e.args.length
   ·rw[ji h2,y3,if_neg (by have:=hc h2;omega)]
   ·rw[cv aa,y3]
  rw[he,hW]at hI;subst hI;simp-dsimp[go_sem,hN,a3];exact⟨_,.refl _,h.set i (.uarr 225 20 (o.map Vt.c)),qgl,hwk.app0 _,ae,by simpa using wg _,rfl,rfl⟩
termination_by SizeOf.sizeOf e
theorem qbv(l:List St)(d:Nat)(out:List Vt)(h:gz)(i:Nat)(hi:h[i]?=some (.uarr 225 20 (out.map Vt.c)))(hl:out.length≤401)(hd:d≤out.length+1) :
  ACalls prog 227 [.own i out.length,.slice (l.map St.c),I d] h fun q h'=>q=.ret (.own i (p6 l d out).length)∧h'=h.set i (.uarr 225 20 ((p6 l d out).map Vt.c)):=by
 refine lw func227 ntmps227 rfl ac rfl fun E hN hh hu hb il kr=>?_;simp[go_sem]at hb;have nq:i<h.length:=(cq.1 hi).1;have a1:∀l:gz,(h++l)[i]?=h[i]?:=fun l=>cu nq;have a2:∀(l:gz) (y:AObj),(h++l).set i y=h.set i y++l:=fun l y=>e9 _ _ nq;have a3:∀(o:AObj) (l:gz),(h.set i o++l)[i]?=some o:=fun o l=>by rw[cu qfw];simp[nq]
 have a4:∀(o y:AObj) (l:gz),(h.set i o++l).set i y=h.set i y++l:=fun o y l=>by rw[e9 _ _ qfw,gq]
 have a6:∀(o:AObj),(h.set i o)[i]?=some o:=fun o=>by simp[nq]
 have a7:∀(o y:AObj),(h.set i o).set i y=h.set i y:=fun o y=>gq ..;have wg:∀(rs:List (List AV)),hUnder h.length (h.set i (.uarr 225 20 rs))=true:=fun rs=>qb1 hu qh5;obtain⟨W,hW⟩:∃W,p6 l d out=W:=⟨_,rfl⟩
 rw[hW];have e0:h.set i (.uarr 225 20 (out.map Vt.c))=h:=qdc hi;have qn:IntKind.i64.wrap ((d:Int)+1)=((d+1:Nat):Int):=qfh;simp-dsimp[go_sem,hN,a1,a2,a3,a4,hi];refine pa (α:=List Vt) l.length (fun n o=>p6 (l.drop n) d o=W∧o.length≤401∧out.length≤o.length) (fun n o=>⟨[(0,.own i o.length),(1,.slice (l.map St.c)),(2,I d),(7,I n)],h.set i (.uarr 225 20 (o.map Vt.c))⟩) out ⟨by simpa using hW,hl,ct _⟩ ?_ ?_
 ·rw[e0];exact Wk.mk bi af (by simp[hu,vf hu,go_sem,nq]) qgl
 rintro n o hn' ⟨hI,ho,hlo⟩;have hw:=iv hn' (show _≤68719476736 by first|exact hb.1.1|exact hb.1|exact hb.2.1|omega);simp-dsimp[go_sem,hN,a6,a7];refine gy ?_ ?_<;>intro hc<;>simp at hc
 ·have mq:n<l.length:=aa;have ib:SizeOf.sizeOf l[n]<SizeOf.sizeOf l:=fj (c9 mq);have hlb:SizeOf.sizeOf l[n].body<SizeOf.sizeOf l:=by cases hx:l[n];rw[hx]at ib;simp at ib;simp[St.body];omega
  have ig:SizeOf.sizeOf l[n].els<SizeOf.sizeOf l:=by cases hx:l[n];rw[hx]at ib;simp at ib;simp[St.els];omega
  rw[ji mq,p6,if_pos aa]at hI;rw[jky]at hI;simp-dsimp[go_sem,hN,a6,a7,mq,qn];obtain⟨o1,ly⟩:∃o1,o++[Vt.ofS l[n] d]=o1:=⟨_,rfl⟩
  have hl1:o1.length=o.length+1:=qjg;have hr1:o.map Vt.c++[(Vt.ofS l[n] d).c]=o1.map Vt.c:=qjg;simp only[Vt.ofS,Vt.c,xmy,xoz,xwo,xwh,e6,em]at hr1;rw[ly]at hI;refine⟨aa,?_⟩;rw[hr1];rw[←hl1];refine ia (qem l[n].a) ?_;simp-dsimp[go_sem,hN,a6,a7,mq,qn];rcases ga:zp l[n].a with _|_
  ·simp-dsimp[go_sem,hN,a6,a7,mq,qn];refine it (qeq l[n].a true o1 _ i (a6 _) aa) ?_;rintro q h' ⟨rfl,rfl⟩;simp-dsimp[go_sem,hN,a6,a7,mq,qn];have fo2:tc l[n].a o1=uz l[n].a true o1:=by unfold tc;rw[if_neg (by simp[ga])]
   have ko2:=xf6 l[n].a true o1 aa;have mo2:=qz1 l[n].a true o1;obtain⟨o2,ho2⟩:∃x,uz l[n].a true o1=x:=⟨_,rfl⟩
   rw[ho2]at fo2 ko2 mo2⊢;rw[fo2]at hI;refine ia (qem l[n].b) ?_;simp-dsimp[go_sem,hN,a6,a7,mq,qn];rcases gb:zp l[n].b with _|_
   ·simp-dsimp[go_sem,hN,a6,a7,mq,qn];refine it (qeq l[n].b true o2 _ i (a6 _) aa) ?_;rintro q h' ⟨rfl,rfl⟩;simp-dsimp[go_sem,hN,a6,a7,mq,qn];have fo3:tc l[n].b o2=uz l[n].b true o2:=by unfold tc;rw[if_neg (by simp[gb])]
    have ko3:=xf6 l[n].b true o2 aa;have mo3:=qz1 l[n].b true o2;obtain⟨o3,ho3⟩:∃x,uz l[n].b true o2=x:=⟨_,rfl⟩
    rw[ho3]at fo3 ko3 mo3⊢;rw[fo3]at hI;refine it (qbv l[n].body (d+1) o3 _ i (a6 _) aa aa) ?_;rintro q h' ⟨rfl,rfl⟩;simp-dsimp[go_sem,hN,a6,a7,mq,qn];have k4:=qwu l[n].body (d+1) o3 aa;have m4:=qe7 l[n].body (d+1) o3;obtain⟨o4,h4⟩:∃x,p6 l[n].body (d+1) o3=x:=⟨_,rfl⟩
    rw[h4]at k4 m4 hI⊢;refine it (qbv l[n].els (d+1) o4 _ i (a6 _) aa aa) ?_;rintro q h' ⟨rfl,rfl⟩;simp-dsimp[go_sem,hN,a6,a7,mq,qn,hw];have k5:=qwu l[n].els (d+1) o4 aa;have m5:=qe7 l[n].els (d+1) o4;exact⟨p6 l[n].els (d+1) o4,⟨hI,k5,aa⟩,Wk.mk bi af qjd qgl⟩
   ·simp-dsimp[go_sem,hN,a6,a7,mq,qn];have fo3:tc l[n].b o2=o2:=by unfold tc;rw[if_pos gb]
    obtain⟨o3,ho3⟩:∃x,x=o2:=⟨_,rfl⟩
    rw[fo3,←ho3]at hI;rw[←ho3];have ko3:o3.length≤401:=qka;have mo3:o2.length≤o3.length:=qka;refine it (qbv l[n].body (d+1) o3 _ i (a6 _) aa aa) ?_;rintro q h' ⟨rfl,rfl⟩;simp-dsimp[go_sem,hN,a6,a7,mq,qn];have k4:=qwu l[n].body (d+1) o3 aa;have m4:=qe7 l[n].body (d+1) o3;obtain⟨o4,h4⟩:∃x,p6 l[n].body (d+1) o3=x:=⟨_,rfl⟩
    rw[h4]at k4 m4 hI⊢;refine it (qbv l[n].els (d+1) o4 _ i (a6 _) aa aa) ?_;rintro q h' ⟨rfl,rfl⟩;simp-dsimp[go_sem,hN,a6,a7,mq,qn,hw];have k5:=qwu l[n].els (d+1) o4 aa;have m5:=qe7 l[n].els (d+1) o4;exact⟨p6 l[n].els (d+1) o4,⟨hI,k5,aa⟩,Wk.mk bi af qjd qgl⟩
  ·simp-dsimp[go_sem,hN,a6,a7,mq,qn];have fo2:tc l[n].a o1=o1:=by unfold tc;rw[if_pos ga]
   obtain⟨o2,ho2⟩:∃x,x=o1:=⟨_,rfl⟩
   rw[fo2,←ho2]at hI;rw[←ho2];have ko2:o2.length≤401:=by rw[ho2];omega
   have mo2:o1.length≤o2.length:=by rw[ho2];omega
   refine ia (qem l[n].b) ?_;simp-dsimp[go_sem,hN,a6,a7,mq,qn];rcases gb:zp l[n].b with _|_
   ·simp-dsimp[go_sem,hN,a6,a7,mq,qn];refine it (qeq l[n].b true o2 _ i (a6 _) aa) ?_;rintro q h' ⟨rfl,rfl⟩;simp-dsimp[go_sem,hN,a6,a7,mq,qn];have fo3:tc l[n].b o2=uz l[n].b true o2:=by unfold tc;rw[if_neg (by simp[gb])]
    have ko3:=xf6 l[n].b true o2 aa;have mo3:=qz1 l[n].b true o2;obtain⟨o3,ho3⟩:∃x,uz l[n].b true o2=x:=⟨_,rfl⟩
    rw[ho3]at fo3 ko3 mo3⊢;rw[fo3]at hI;refine it (qbv l[n].body (d+1) o3 _ i (a6 _) aa aa) ?_;rintro q h' ⟨rfl,rfl⟩;simp-dsimp[go_sem,hN,a6,a7,mq,qn];have k4:=qwu l[n].body (d+1) o3 aa;have m4:=qe7 l[n].body (d+1) o3;obtain⟨o4,h4⟩:∃x,p6 l[n].body (d+1) o3=x:=⟨_,rfl⟩
    rw[h4]at k4 m4 hI⊢;refine it (qbv l[n].els (d+1) o4 _ i (a6 _) aa aa) ?_;rintro q h' ⟨rfl,rfl⟩;simp-dsimp[go_sem,hN,a6,a7,mq,qn,hw];have k5:=qwu l[n].els (d+1) o4 aa;have m5:=qe7 l[n].els (d+1) o4;exact⟨p6 l[n].els (d+1) o4,⟨hI,k5,aa⟩,Wk.mk bi af qjd qgl⟩
   ·simp-dsimp[go_sem,hN,a6,a7,mq,qn];have fo3:tc l[n].b o2=o2:=by unfold tc;rw[if_pos gb]
    obtain⟨o3,ho3⟩:∃x,x=o2:=⟨_,rfl⟩
    rw[fo3,←ho3]at hI;rw[←ho3];have ko3:o3.length≤401:=qka;have mo3:o2.length≤o3.length:=qka;refine it (qbv l[n].body (d+1) o3 _ i (a6 _) aa aa) ?_;rintro q h' ⟨rfl,rfl⟩;simp-dsimp[go_sem,hN,a6,a7,mq,qn];have k4:=qwu l[n].body (d+1) o3 aa;have m4:=qe7 l[n].body (d+1) o3;obtain⟨o4,h4⟩:∃x,p6 l[n].body (d+1) o3=x:=⟨_,rfl⟩
    rw[h4]at k4 m4 hI⊢;refine it (qbv l[n].els (d+1) o4 _ i (a6 _) aa aa) ?_;rintro q h' ⟨rfl,rfl⟩;simp-dsimp[go_sem,hN,a6,a7,mq,qn,hw];have k5:=qwu l[n].els (d+1) o4 aa;have m5:=qe7 l[n].els (d+1) o4;exact⟨p6 l[n].els (d+1) o4,⟨hI,k5,aa⟩,Wk.mk bi af qjd qgl⟩
 ·have he:p6 (l.drop n) d o=o:=by
   by_cases h2:n<l.length
   ·rw[ji h2,p6,if_neg (by have:=hc h2;omega)]
   ·rw[cv aa,p6]
  rw[he]at hI;subst hI;simp-dsimp[go_sem,hN,a6];exact⟨_,.refl _,h.set i (.uarr 225 20 (o.map Vt.c)),qgl,hwk.refl _,ae,by simpa using wg _,rfl,rfl⟩
termination_by SizeOf.sizeOf l
theorem xie(p:Proc):APure prog 188 [.agg p.c] (.slice ((w9 p).map Vt.c)):=by
 refine qbn func188 rfl ac (by simp[ntmps188]) rfl ?_;intro E h hN hh hu hb;rw[ntmps188]at hN;refine ln (ub ?_);simp[go_sem,hN];refine ln (yf [_,_] _ ?_);simp[go_sem,hN];intro c a w s k;have hwb:=qbv p.body 1 [] (h++[.cells p.c]++[.uarr 225 20 []]) (h.length+1) ae ae ae;have qpw:=xyl (t:=225) (sz:=20) (rows:=(w9 p).map Vt.c) (n:=(w9 p).length) (h:=h++[.cells p.c]) (P:=prog) (f:=227) (rest:=[.slice (p.body.map St.c),I 1]) ae (by simpa using hwb) (by simp[vf hu,hu,go_sem]);refine xql s k rfl rfl aa rfl af (x:=.slice ((w9 p).map Vt.c)) (h2:=h++[.cells p.c]) ?_ ?_
 ·simpa[go_sem]using qpw
 intro c' a' w' s' k';refine xf _ [_,_,_] _ rfl ?_ c' a' w' s' k';simp[go_sem,hN];apply na;simp-dsimp[go_sem,hN]
end
section
attribute [local go_sem] Vt.c
theorem xt1(p:Proc):APure prog 148 [.agg p.c] (I (s7 p)):=by
 refine ik func148 ntmps148 rfl ac rfl rfl fun E h hN hh hu hb=>?_;rw[jmi];simp-dsimp[go_sem,hN];refine ia (xe8 p.name) ?_;simp-dsimp[go_sem,hN];refine gy ?_ ?_<;>intro h0<;>simp at h0
 ·simp-dsimp[go_sem,hN,h0]
 rw[if_neg cg];simp-dsimp[go_sem,hN];refine ia (xye p.params) ?_;simp-dsimp[go_sem,hN];refine gy ?_ ?_<;>intro h1<;>simp at h1
 ·simp-dsimp[go_sem,hN,h1]
 rw[if_neg qgk];simp-dsimp[go_sem,hN];refine ia (xie p) ?_;simp-dsimp[go_sem,hN];have jr:=(qwd (xg (σ:=Unit)) md p ()).1;obtain⟨L,hL⟩:∃L,w9 p=L:=⟨_,rfl⟩
 rw[hL]at jr⊢;refine jl L.length (fun n=>qsw (L.drop n)=qsw L) (fun n=>⟨[(4,.slice (L.map Vt.c)),(5,I n)],h⟩) ae ic ?_;intro n hn hI;have hw:=iv hn (show _≤68719476736 by omega);simp-dsimp[go_sem,hN];refine gy ?_ ?_<;>intro hc<;>simp at hc
 ·rw[ji hc,qsw]at hI;simp-dsimp[go_sem,hN,hc];refine gy ?_ ?_<;>intro h2<;>try simp at h2
  ·simp-dsimp[go_sem,hN,hc];refine kf 10 mixed ac ac ?_;simp-dsimp[go_sem,hN,hc];refine ia (xyt L[n].t L[n].d) ?_;simp-dsimp[go_sem,hN];refine gy ?_ ?_<;>intro h3<;>try simp at h3
   ·rw[if_pos ⟨h2,h3⟩]at hI;rw[←hI,if_pos h3];simp-dsimp[go_sem,hN]
   ·rw[if_neg (fun g=>g.2 h3)]at hI;simp-dsimp[go_sem,hN,hw];exact⟨hc,hI,ic⟩
  ·rw[if_neg qjf]at hI;simp-dsimp[go_sem,hN,hw];exact⟨hc,hI,ic⟩
 ·rw[cv aa,qsw]at hI;rw[←hI,if_neg ae];simp-dsimp[go_sem,hN];refine gy ?_ ?_<;>intro h2<;>try simp at h2
  ·rw[if_pos aa];simp-dsimp[go_sem,hN]
  ·rw[if_neg aa];simp-dsimp[go_sem,hN]
theorem jhx(p:Proc):APure prog 233 [.agg p.c] (.slice ((qpn (w9 p)).map Ex.c)):=by
 refine ik func233 ntmps233 rfl ac rfl rfl fun E h hN hh hu hb=>?_;simp-dsimp[go_sem,hN];refine ia (xie p) ?_;simp-dsimp[go_sem,hN];have jr:=(qwd (xg (σ:=Unit)) md p ()).1;obtain⟨L,hL⟩:∃L,w9 p=L:=⟨_,rfl⟩
 rw[hL]at jr⊢;refine pa (α:=List Ex) L.length (fun n o=>o++qpn (L.drop n)=qpn L∧o.length≤n) (fun n o=>⟨[(3,.slice (L.map Vt.c)),(4,.own (h.length+1) o.length),(5,I n)],h++[.cells p.c,.arr 119 4 (o.map Ex.c)]⟩) [] ae ((qm4 E _ 4 119 4 af).trans ?_) ?_
 ·simp;exact ic
 rintro n o hn ⟨hI,ho⟩;have hw:=iv hn (show _≤68719476736 by omega);simp-dsimp[go_sem,hN];refine gy ?_ ?_<;>intro hc<;>simp at hc
 ·rw[ji hc,qpn]at hI;simp-dsimp[go_sem,hN,hc];refine gy ?_ ?_<;>intro h2<;>try simp at h2
  ·rw[if_pos h2]at hI;simp-dsimp[go_sem,hN,hc,hw];refine⟨aa,o++[L[n].e],⟨qiv,am⟩,ic⟩
  ·rw[if_neg qjf]at hI;simp-dsimp[go_sem,hN,hw];exact⟨hc,o,⟨hI,aa⟩,ic⟩
 ·rw[cv aa,qpn]at hI;simp at hI;simp-dsimp[go_sem,hN,hI]
theorem jep(p:Proc)(hP:p.params.length≤34359738368):APure prog 150 [.agg p.c] (.slice ((p.params.map (·.name)++qpy (w9 p)).map im)):=by
 refine ik func150 ntmps150 rfl ac rfl rfl fun E h hN hh hu hb=>?_;simp[go_sem]at hb;simp-dsimp[go_sem,hN];refine pa (α:=List g9) p.params.length (fun n o=>o++(p.params.drop n).map (·.name)=p.params.map (·.name)∧o.length=n) (fun n o=>⟨[(1,P0 h.length),(3,.own (h.length+1) o.length),(4,I n)],h++[.cells p.c,.arr 9 1 (o.map im)]⟩) [] ae ((qm4 E _ 3 9 1 af).trans ?_) ?_
 ·simp;exact ic
 rintro n o hn ⟨hI,ho⟩;have hw:=iv hn (show _≤68719476736 by omega);simp-dsimp[go_sem,hN];refine gy ?_ ?_<;>intro hc<;>simp at hc
 ·rw[ji hc]at hI;simp-dsimp[go_sem,hN,hc,hw];refine⟨aa,o++[p.params[n].name],⟨by rw[dr,←qln];exact hI,by simp[ho]⟩,ic⟩
 ·rw[cv aa]at hI;simp at hI;simp-dsimp[go_sem,hN];refine ia (xie p) ?_;simp-dsimp[go_sem,hN];have jr:=(qwd (xg (σ:=Unit)) md p ()).1;obtain⟨L,hL⟩:∃L,w9 p=L:=⟨_,rfl⟩
  rw[hL]at jr⊢;have hol:o.length≤34359738368:=aa;obtain⟨N,hN2⟩:∃N,p.params.map (·.name)++qpy L=N:=⟨_,rfl⟩
  refine pa (α:=List g9) L.length (fun k q=>q++qpy (L.drop k)=N∧q.length≤o.length+k) (fun k q=>⟨[(3,.own (h.length+1) q.length),(5,.slice (L.map Vt.c)),(6,I k)],h++[.cells p.c,.arr 9 1 (q.map im)]⟩) o ⟨by rw[hI,←hN2];simp,aa⟩ ic ?_;rintro k q hk ⟨hJ,hq⟩;have hw:=iv hk (show _≤68719476736 by omega);simp-dsimp[go_sem,hN];refine gy ?_ ?_<;>intro hd<;>simp at hd
  ·rw[ji hd,qpy]at hJ;simp-dsimp[go_sem,hN,hd];refine⟨ax,?_⟩;refine gy ?_ ?_<;>intro h2<;>try simp at h2
   ·rw[if_pos h2]at hJ;simp-dsimp[go_sem,hN,hd,hw];refine⟨aa,q++[L[k].t.name],⟨by simpa using hJ,am⟩,ic⟩
   ·rw[if_neg ax]at hJ;simp-dsimp[go_sem,hN,hw];exact⟨hd,q,⟨hJ,aa⟩,ic⟩
  ·rw[cv aa,qpy]at hJ;simp at hJ;simp-dsimp[go_sem,hN,hJ];rw[←hN2];simp
end
def qpz(q:g9×Int):List AV:=[S q.1,I q.2]
section
attribute [local go_sem] qpz
theorem xsv(vars:nf)(k:g9):APure prog 232 [.slice (vars.map qpz),S k] (.tuple [I (wn (jg vars k)).1,I (wn (jg vars k)).2]):=by
 refine ik func232 ntmps232 rfl ac rfl rfl fun E h hN hh hu hb=>?_;simp[go_sem]at hb;simp-dsimp[go_sem,hN];refine jl vars.length (fun n=>jg (vars.drop n) k=jg vars k) (fun n=>⟨[(0,.slice (vars.map qpz)),(1,S k),(6,I n)],h⟩) ae ic ?_;intro n hn hI;have hw:=iv hn hb.1.1;simp-dsimp[go_sem,hN];refine gy ?_ ?_<;>intro hc<;>simp at hc
 ·rw[ji hc,jg]at hI;simp-dsimp[go_sem,hN,hc];refine gy ?_ ?_<;>intro hg<;>simp at hg
  ·rw[if_pos hg]at hI;simp-dsimp[go_sem,hN,hc]
   repeat refine⟨ax,?_⟩
   refine gy (fun h1=>?_) (fun h1=>?_)
   ·simp-dsimp[go_sem,hN];rw[←hI,wn,if_pos qga];exact⟨rfl,rfl⟩
   ·simp-dsimp[go_sem,hN,hc];rw[←hI,wn,if_neg qga];exact⟨rfl,rfl⟩
  ·simp-dsimp[go_sem,hN,hw];exact⟨hc,br,ic⟩
 ·rw[cv aa,jg]at hI;simp-dsimp[go_sem,hN];rw[←hI];exact⟨rfl,rfl⟩
def xb0(vars:nf)(op:Int)(s:g9):Int×Int:=if op=3 then wn (jg vars s)else if op=2 then(2,0)else(1,0)
theorem xz8(vars:nf)(e:Ex):APure prog 304 [.agg e.x,.slice (vars.map qpz)] (.tuple [I (xb0 vars e.op e.s).1,I (xb0 vars e.op e.s).2]):=by
 refine ik func304 ntmps304 rfl ac rfl rfl fun E h hN hh hu hb=>?_;simp-dsimp[go_sem,hN];refine gy ?_ ?_<;>intro h0<;>simp at h0
 ·simp-dsimp[go_sem,hN];refine ia (xsv vars e.s) ?_;simp-dsimp[go_sem,hN,xb0,h0]
 simp-dsimp[go_sem,hN];refine gy ?_ ?_<;>intro h1<;>simp at h1<;>simp-dsimp[go_sem,hN,xb0,h0,h1]
def unT(op:Int):Int×Int:=if op=9 then(1,1)else if op=18 then(3,3)else if op=20 then(1,2)else if op=21∨op=22 then(2,1)else if op=23 then(2,2)else(2,3)
theorem xxu{op:Int}(h:me op=1):unT op=nh op:=by
 have jy:op=9∨op=18∨op=20∨op=21∨op=22∨op=23∨op=24:=by
  unfold me at h;split at h
  ·omega
  split at h
  ·omega
  split at h<;>omega
 rcases jy with rfl|rfl|rfl|rfl|rfl|rfl|rfl<;>rfl
theorem jcm(op:Int):APure prog 305 [I op] (.tuple [I (unT op).1,I (unT op).2]):=by
 refine ik func305 ntmps305 rfl ac rfl rfl fun E h hN hh hu hb=>?_;by_cases h9:op=9
 ·subst h9;simp-dsimp[go_sem,hN,unT]
 by_cases h18:op=18
 ·subst h18;simp-dsimp[go_sem,hN,unT]
 by_cases h20:op=20
 ·subst h20;simp-dsimp[go_sem,hN,unT]
 by_cases h21:op=21
 ·subst h21;simp-dsimp[go_sem,hN,unT]
 by_cases h22:op=22
 ·subst h22;simp-dsimp[go_sem,hN,unT]
 by_cases h23:op=23
 ·subst h23;simp-dsimp[go_sem,hN,unT]
 simp-dsimp[go_sem,hN,unT,h9,h18,h20,h21,h22,h23]
theorem jl1(op a b:Int):APure prog 306 [I op,I a,I b] (I (qwr op a b)):=by
 refine ik func306 ntmps306 rfl ac rfl rfl fun E h hN hh hu hb=>?_;simp-dsimp[go_sem,hN];refine gy (fun h0=>?_) (fun h0=>?_)
 ·simp-dsimp[go_sem,hN];rw[qwr,if_pos ck]
 have qc:¬a≠b:=ck;simp-dsimp[go_sem,hN]
 repeat refine⟨ax,?_⟩
 refine gy (fun h1=>?_) (fun h1=>?_)
 ·simp-dsimp[go_sem,hN];rw[qwr,if_neg qc,if_pos b9]
 have ll:¬(4≤op∧op≤8∧a=1):=b9;simp-dsimp[go_sem,hN]
 repeat refine⟨ax,?_⟩
 refine gy (fun h2=>?_) (fun h2=>?_)
 ·simp-dsimp[go_sem,hN];rw[qwr,if_neg qc,if_neg ll,if_pos qii]
 have vo:¬(op=10∨op=11∨(12≤op∧op≤15∧a≠3)∨((op=16∨op=17)∧a=3)):=qii;simp-dsimp[go_sem,hN]
 repeat refine⟨ax,?_⟩
 refine gy (fun h3=>?_) (fun h3=>?_)
 ·simp-dsimp[go_sem,hN];rw[qwr,if_neg qc,if_neg ll,if_neg vo,if_pos qjl]
 ·simp-dsimp[go_sem,hN];rw[qwr,if_neg qc,if_neg ll,if_neg vo,if_neg qjl]
theorem xh1(vars:nf)(e:Ex)(d:Nat)(hv:mg e d=0):APure prog 276 [.agg e.x,.slice (vars.map qpz)] (.tuple [I (ofE vars e).1,I (ofE vars e).2]):=by
 have qt:=qez hv;refine ik func276 ntmps276 rfl ac rfl rfl fun E h hN hh hu hb=>?_;simp-dsimp[go_sem,hN];refine ia (xl8 e.op) ?_;simp-dsimp[go_sem,hN];refine gy ?_ ?_<;>intro h0<;>simp at h0
 ·have ha:e.args=[]:=fk aa;have ho:ofE vars e=xb0 vars e.op e.s:=xyv vars h0 ha;rw[ho];simp-dsimp[go_sem,hN];refine ia (xz8 vars e) ?_;simp-dsimp[go_sem,hN]
 have kq:0<e.args.length:=by
  have:e.args.length≠0:=fun g=>h0 aa;omega
 have hlt0:SizeOf.sizeOf e.args[0]<SizeOf.sizeOf e:=Ex.arg_lt (c9 kq);have hv0:=xjd hv _ (c9 kq);simp-dsimp[go_sem,hN,kq];refine ia (xh1 vars e.args[0] (d+1) hv0) ?_;simp-dsimp[go_sem,hN];refine gy ?_ ?_<;>intro h1<;>simp at h1
 ·have ho:ofE vars e=((0:Int),(ofE vars e.args[0]).2):=by
   have h12:me e.op=1∨me e.op=2:=by have:=xly e.op;omega
   rcases h12 with h12|h12
   ·obtain⟨a,ha⟩:∃a,e.args=[a]:=by
     match hm:e.args,(show e.args.length=1 by omega)with
     | [a],_=>exact⟨a,rfl⟩
    rw[xo5 vars h12 ha];simp only[ha,List.getElem_cons_zero]at h1⊢;rw[if_pos h1]
   ·obtain⟨a,b,ha⟩:∃a b,e.args=[a,b]:=by
     match hm:e.args,(show e.args.length=2 by omega)with
     | [a,b],_=>exact⟨a,b,rfl⟩
    rw[xnn vars h12 ha];simp only[ha,List.getElem_cons_zero]at h1⊢;rw[if_pos h1]
  rw[ho];simp-dsimp[go_sem,hN]
 simp-dsimp[go_sem,hN];refine gy ?_ ?_<;>intro h2<;>simp at h2
 ·obtain⟨a,ha⟩:∃a,e.args=[a]:=by
   match hm:e.args,(show e.args.length=1 by omega)with
   | [a],_=>exact⟨a,rfl⟩
  have ho:=xo5 vars h2 ha;simp only[ha,List.getElem_cons_zero]at h1;rw[if_neg av]at ho;simp-dsimp[go_sem,hN];refine ia (jcm e.op) ?_;simp-dsimp[go_sem,hN,xxu h2,ha];refine gy (fun h3=>?_) (fun h3=>?_)
  ·simp-dsimp[go_sem,hN];rw[ho,if_pos qgq];exact⟨rfl,rfl⟩
  ·simp-dsimp[go_sem,hN];rw[ho,if_neg qgq];exact⟨rfl,rfl⟩
 have h12:me e.op=2:=by have:=xly e.op;omega
 have hl1:1<e.args.length:=aa;have tg:SizeOf.sizeOf e.args[1]<SizeOf.sizeOf e:=Ex.arg_lt (c9 hl1);have hv1:=xjd hv _ (c9 hl1);simp-dsimp[go_sem,hN,hl1];refine ia (xh1 vars e.args[1] (d+1) hv1) ?_;simp-dsimp[go_sem,hN];obtain⟨a,b,ha⟩:∃a b,e.args=[a,b]:=by
  match hm:e.args,(show e.args.length=2 by omega)with
  | [a,b],_=>exact⟨a,b,rfl⟩
 have ho:=xnn vars h12 ha;have ea:e.args[0]=a:=by simp[ha]
 have eb:e.args[1]=b:=by simp[ha]
 rw[ea]at h1;rw[if_neg av]at ho;refine gy (fun h3=>?_) (fun h3=>?_)
 ·rw[eb]at h3;rw[if_pos qgq]at ho;simp-dsimp[go_sem,hN,eb,ho]
 rw[eb]at h3;rw[if_neg qgq]at ho;simp-dsimp[go_sem,hN,ea,eb];refine ia (jl1 e.op _ _) ?_;simp-dsimp[go_sem,hN];refine gy (fun h4=>?_) (fun h4=>?_)
 ·simp-dsimp[go_sem,hN];rw[ho,if_pos qiw];exact⟨rfl,rfl⟩
 ·simp-dsimp[go_sem,hN];rw[ho,if_neg qiw];exact⟨rfl,rfl⟩
termination_by SizeOf.sizeOf e
theorem xny(vars:nf)(e:Ex)(hv:mg e 1=0):APure prog 231 [.agg e.x,.slice (vars.map qpz)] (.tuple [I (ofE vars e).1,I (ofE vars e).2]):=by
 refine ik func231 ntmps231 rfl ac rfl rfl fun E h hN hh hu hb=>?_;simp-dsimp[go_sem,hN];refine ia (qea e) ?_;simp-dsimp[go_sem,hN,hv];refine ia (xh1 vars e 1 hv) ?_;simp-dsimp[go_sem,hN]
theorem xtt(op a b:Int):APure prog 192 [I op,I a,I b] (Bo (pl op a b)):=by
 refine ik func192 ntmps192 rfl ac rfl rfl fun E h hN hh hu hb=>?_;by_cases h3:op=3
 ·subst h3;simp-dsimp[go_sem,hN,pl]
 by_cases h4:op=4
 ·subst h4;simp-dsimp[go_sem,hN,pl]
 by_cases h5:op=5
 ·subst h5;simp-dsimp[go_sem,hN,pl]
 by_cases h6:op=6
 ·subst h6;simp-dsimp[go_sem,hN,pl]
 by_cases h7:op=7
 ·subst h7;simp-dsimp[go_sem,hN,pl]
 simp-dsimp[go_sem,hN,pl,h3,h4,h5,h6,h7]
theorem xlb(vars:nf)(loops:List g9)(name:g9)(t:Int)(lp:Bool)(hB:vars.length+1≤68719476736)(hB2:loops.length+1≤68719476736):APure prog 149 [.agg [.slice (vars.map qpz),.slice (loops.map im)],S name,I t,Bo lp] (.agg [.slice ((vars++[(name,t)]).map qpz),.slice ((if lp then loops++[name]else loops).map im)]):=by
 refine ik func149 ntmps149 rfl ac rfl rfl fun E h hN hh hu hb=>?_;simp[go_sem]at hb;simp-dsimp[go_sem,hN];refine⟨aa,aa,aa,?_⟩;rcases lp with _|_
 ·simp-dsimp[go_sem,hN]
 ·simp-dsimp[go_sem,hN];omega
end
end Go.Proofs.YtbimdamecieomaaGreatDoor
