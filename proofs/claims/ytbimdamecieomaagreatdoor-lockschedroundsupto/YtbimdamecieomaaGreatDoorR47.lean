/- Part 47 of a proof. -/
import Derived.Test.YtbimdamecieomaaGreatDoorR46
set_option linter.all false
set_option maxRecDepth 4000
set_option maxHeartbeats 4000000
namespace Go.Proofs.YtbimdamecieomaaGreatDoor
open Go Go.Abs Go.Cw Tryz
section
attribute [local go_sem] qpz
theorem jgd(vars:nf)(loops:List g9)(t:St)(d:Nat)(jm:tv t d):APure prog 190 [.agg [.slice (vars.map qpz),.slice (loops.map im)],.agg t.x] (.tuple [I (ki vars t).1,I (ki vars t).2.1,I (ki vars t).2.2]):=by
 refine ik func190 ntmps190 rfl ac rfl rfl fun E h hN hh hu hb=>?_;simp-dsimp[go_sem,hN];refine gy ?_ ?_<;>intro h8<;>simp at h8
 ·simp-dsimp[go_sem,hN,ki,h8]
 simp-dsimp[go_sem,hN];refine ia (xny vars t.a (qw6 jm h8)) ?_;simp-dsimp[go_sem,hN]
 repeat refine⟨ax,?_⟩
 refine gy (fun h1=>?_) (fun h1=>?_)
 ·have e:ki vars t=((ofE vars t.a).1,0,(ofE vars t.a).2):=by
   unfold ki;rw[if_neg h8,if_neg qga]
  simp-dsimp[go_sem,hN,e]
 have ll:(ofE vars t.a).2=0∧(t.op=3∨t.op=6):=qga;have e:ki vars t=((ofE vars t.a).1,(ofE vars t.b).1,(ofE vars t.b).2):=by
  unfold ki;rw[if_neg h8,if_pos ll]
 simp-dsimp[go_sem,hN];refine ia (xny vars t.b (qyb jm ll.2)) ?_;simp-dsimp[go_sem,hN,e]
theorem jiu(vars:nf)(loops:List g9)(name:g9)(ty:Int):APure prog 191 [.agg [.slice (vars.map qpz),.slice (loops.map im)],S name,I ty] (I (qs0 vars loops name ty)):=by
 refine ik func191 ntmps191 rfl ac rfl rfl fun E h hN hh hu hb=>?_;simp[go_sem]at hb;simp-dsimp[go_sem,hN];refine ia (xsv vars name) ?_;simp-dsimp[go_sem,hN];refine gy ?_ ?_<;>intro h0<;>simp at h0
 ·simp-dsimp[go_sem,hN,qs0,h0]
 simp-dsimp[go_sem,hN];refine jl loops.length (fun n=>jk (loops.drop n) name=jk loops name) (fun n=>⟨[(1,S name),(2,I ty),(3,.ptr h.length 0),(7,I (wn (jg vars name)).1),(9,I n)],h++[.cells [.slice (vars.map qpz),.slice (loops.map im)]]⟩) ae ic ?_;intro n hn hI;have hw:=iv hn hb.1.2.1;simp-dsimp[go_sem,hN];refine gy ?_ ?_<;>intro hc<;>simp at hc
 ·rw[ji hc,jk,mv]at hI;simp-dsimp[go_sem,hN,hc];refine gy ?_ ?_<;>intro hg<;>simp at hg
  ·have hk:jk loops name=true:=by rw[←hI];simp[hg]
   simp-dsimp[go_sem,hN,qs0,h0,hk]
  ·simp-dsimp[go_sem,hN,hw];exact⟨hc,qh9,ic⟩
 ·rw[cv aa]at hI;have hk:jk loops name=false:=by rw[←hI];rfl
  simp-dsimp[go_sem,hN];refine gy ?_ ?_<;>intro hg<;>simp at hg
  ·simp-dsimp[go_sem,hN,qs0,h0,hk,hg]
  ·simp-dsimp[go_sem,hN,qs0,h0,hk,hg]
abbrev scA(vars:nf)(loops:List g9):List AV:=[.slice (vars.map qpz),.slice (loops.map im)]
theorem xd7(l:List St)(d:Nat)(vars:nf)(loops:List g9)(jm:x6 l d)(hB:vars.length+(ou l).length+1≤68719476736)(hL:loops.length≤vars.length):APure prog 151 [.agg (scA vars loops),.slice (l.map St.c)] (I (rn l vars loops)):=by
 refine ik func151 ntmps151 rfl ac rfl rfl fun E h hN hh hu hb=>?_;simp[go_sem]at hb;simp-dsimp[go_sem,hN];refine pa (α:=nf) l.length (fun n vs=>rn (l.drop n) vs loops=rn l vars loops∧vs.length+(ou (l.drop n)).length+1≤68719476736∧loops.length≤vs.length) (fun n vs=>⟨[(1,.slice (l.map St.c)),(2,.ptr h.length 0),(5,I n)],h++[.cells (scA vs loops)]⟩) vars ⟨ae,by simpa using hB,hL⟩ ic ?_;clear hB hL;intro n vs hn ⟨hI,hB,hL⟩;have hw:=iv hn hb.2.1;simp-dsimp[go_sem,hN];refine gy ?_ ?_<;>intro hc<;>simp at hc
 rotate_left
 ·rw[cv aa,rn]at hI;simp-dsimp[go_sem,hN,←hI]
 obtain⟨t,ht⟩:∃t,l[n]=t:=⟨_,rfl⟩
 have hkt:=jm l[n] (c9 hc);have hkt':=(xc _ _).1 hkt;have jy:=xaj hkt;have tg:SizeOf.sizeOf l[n].body<SizeOf.sizeOf l:=Nat.lt_trans (St.body_le _) (fj (c9 hc));have xai:SizeOf.sizeOf l[n].els<SizeOf.sizeOf l:=Nat.lt_trans (St.els_le _) (fj (c9 hc));rw[ji hc,rn]at hI;rw[ji hc,ou,qw3]at hB;simp only[cz]at hB;simp-dsimp[go_sem,hN,hc];refine ia (jgd vs loops l[n] d hkt) ?_;obtain⟨oa,ob,oe,ho⟩:∃oa ob oe,ki vs l[n]=(oa,ob,oe):=⟨_,_,_,rfl⟩
 have hr:=qsb l[n] vs loops;rw[ho]at hr;simp only at hr;rw[ho]at hI;simp-dsimp[go_sem,hN,ho];by_cases hz:oe=0
 ·subst hz;have z0:=xtt l[n].op oa ob;rcases jy with ly|ly|ly|ly|ly|ly|ly|ly
  ·have e0:ut l[n] vs loops=0:=by rw[hr];simp[ly,pl]
   rw[e0,if_neg ae,if_pos ly]at hI;rw[if_pos (.inl ly)]at hB;simp only[Go.f8]at hB;simp-dsimp[go_sem,hN,ly];rw[ly]at z0;refine ka z0 ae ?_;simp-dsimp[go_sem,hN,pl];refine ia (xlb vs loops l[n].name oa false aa aa) ?_;simp-dsimp[go_sem,hN,hw];refine⟨hc,vs++[(l[n].name,oa)],⟨hI,am,am⟩,ic⟩
  ·have e0:ut l[n] vs loops=qs0 vs loops l[n].name oa:=by rw[hr];simp[ly,pl]
   rw[e0]at hI;simp-dsimp[go_sem,hN,ly];refine ia (jiu vs loops l[n].name oa) ?_;obtain⟨a1,ha1⟩:∃a1,qs0 vs loops l[n].name oa=a1:=⟨_,rfl⟩
   rw[ha1]at hI⊢;by_cases tf:a1=0
   ·subst tf;rw[if_neg ae,if_neg aa]at hI;simp-dsimp[go_sem,hN];rw[ly]at z0;refine ka z0 ae ?_;simp-dsimp[go_sem,hN,pl,hw];exact⟨hc,vs,⟨hI,aa,hL⟩,ic⟩
   ·rw[if_pos tf]at hI;simp-dsimp[go_sem,hN,tf];rw[ly]at z0;refine ka z0 ae ?_;simp-dsimp[go_sem,hN,pl,tf];exact hI
  ·have e0:ut l[n] vs loops=if pl l[n].op oa ob=true then 10 else 0:=qi8;rw[e0]at hI;simp-dsimp[go_sem,hN,ly];rw[ly]at z0 hI;refine ka z0 ae ?_;rcases hwt:pl 3 oa ob with _|_
   ·rw[hwt]at hI;rw[if_neg ae,if_neg bc]at hI;simp-dsimp[go_sem,hN,hw];exact⟨hc,vs,⟨hI,aa,hL⟩,ic⟩
   ·rw[hwt]at hI;rw[if_pos ae]at hI;simp-dsimp[go_sem,hN];simpa using hI
  ·have e0:ut l[n] vs loops=if pl l[n].op oa ob=true then 10 else 0:=qi8;rw[e0]at hI;simp-dsimp[go_sem,hN,ly];rw[ly]at z0 hI;refine ka z0 ae ?_;rcases hwt:pl 4 oa ob with _|_
   ·rw[hwt]at hI;rw[if_neg ae,if_neg bc]at hI;simp-dsimp[go_sem,hN,hw];exact⟨hc,vs,⟨hI,aa,hL⟩,ic⟩
   ·rw[hwt]at hI;rw[if_pos ae]at hI;simp-dsimp[go_sem,hN];simpa using hI
  ·have e0:ut l[n] vs loops=if pl l[n].op oa ob=true then 10 else(if rn l[n].body vs loops=0 then rn l[n].els vs loops else rn l[n].body vs loops):=by
    rw[hr];rcases pl l[n].op oa ob with _|_<;>simp[ly]
   rw[e0]at hI;simp-dsimp[go_sem,hN,ly];rw[ly]at z0 hI;refine ka z0 ae ?_;rcases hwt:pl 5 oa ob with _|_
   ·rw[hwt]at hI;rw[if_neg (show ¬(false=true)by simp)]at hI;simp-dsimp[go_sem,hN];refine ia (xd7 l[n].body (d+1) vs loops hkt'.2.1 aa hL) ?_;obtain⟨b1,jw⟩:∃b1,rn l[n].body vs loops=b1:=⟨_,rfl⟩
    rw[jw]at hI⊢;by_cases tf:b1=0
    ·subst tf;rw[if_pos rfl]at hI;simp-dsimp[go_sem,hN];refine ia (xd7 l[n].els (d+1) vs loops hkt'.2.2 aa hL) ?_;obtain⟨b2,li⟩:∃b2,rn l[n].els vs loops=b2:=⟨_,rfl⟩
     rw[li]at hI⊢;by_cases hz2:b2=0
     ·subst hz2;rw[if_neg ae,if_neg bc]at hI;simp-dsimp[go_sem,hN,hw];exact⟨hc,vs,⟨hI,aa,hL⟩,ic⟩
     ·rw[if_pos hz2]at hI;simp-dsimp[go_sem,hN,hz2];exact hI
    ·rw[if_neg tf,if_pos tf]at hI;simp-dsimp[go_sem,hN,tf];exact hI
   ·rw[hwt]at hI;rw[if_pos (show true=true from rfl),if_pos ae]at hI;simp-dsimp[go_sem,hN];simpa using hI
  ·have e0:ut l[n] vs loops=if pl l[n].op oa ob=true then 10 else rn l[n].body (vs++[(l[n].name,1)]) (loops++[l[n].name]):=by
    rw[hr];rcases pl l[n].op oa ob with _|_<;>simp[ly]
   rw[e0]at hI;rw[if_pos (.inr ly)]at hB;simp only[Go.f8]at hB;simp-dsimp[go_sem,hN,ly];rw[ly]at z0 hI;refine ka z0 ae ?_;rcases hwt:pl 6 oa ob with _|_
   ·rw[hwt]at hI;rw[if_neg (show ¬(false=true)by simp)]at hI;simp-dsimp[go_sem,hN];refine kf 6 mixed ac ac ?_;simp-dsimp[go_sem,hN];refine ku (xlb vs loops l[n].name 1 true aa aa) (fun _=>trivial) ?_;simp-dsimp[go_sem,hN];have hbd:=xd7 l[n].body (d+1) (vs++[(l[n].name,1)]) (loops++[l[n].name]) hkt'.2.1 (by rw[cz,Go.f8];omega) (by rw[cz,cz,Go.f8,Go.f8];omega);unfold scA at hbd;rw[dz,dz]at hbd;simp only[c8,e6,qpz,im]at hbd;refine ia hbd ?_;obtain⟨b1,jw⟩:∃b1,rn l[n].body (vs++[(l[n].name,1)]) (loops++[l[n].name])=b1:=⟨_,rfl⟩
    rw[jw]at hI⊢;by_cases tf:b1=0
    ·subst tf;rw[if_neg ae,if_neg bc]at hI;simp-dsimp[go_sem,hN,hw];exact⟨hc,vs,⟨hI,aa,hL⟩,ic⟩
    ·rw[if_pos tf]at hI;simp-dsimp[go_sem,hN,tf];exact hI
   ·rw[hwt]at hI;rw[if_pos (show true=true from rfl),if_pos ae]at hI;simp-dsimp[go_sem,hN];simpa using hI
  ·have e0:ut l[n] vs loops=if pl l[n].op oa ob=true then 10 else 0:=qi8;rw[e0]at hI;simp-dsimp[go_sem,hN,ly];rw[ly]at z0 hI;refine ka z0 ae ?_;rcases hwt:pl 7 oa ob with _|_
   ·rw[hwt]at hI;rw[if_neg ae,if_neg bc]at hI;simp-dsimp[go_sem,hN,hw];exact⟨hc,vs,⟨hI,aa,hL⟩,ic⟩
   ·rw[hwt]at hI;rw[if_pos ae]at hI;simp-dsimp[go_sem,hN];simpa using hI
  ·have e0:ut l[n] vs loops=if pl l[n].op oa ob=true then 10 else 0:=qi8;rw[e0]at hI;simp-dsimp[go_sem,hN,ly];rw[ly]at z0 hI;refine ka z0 ae ?_;rcases hwt:pl 8 oa ob with _|_
   ·rw[hwt]at hI;rw[if_neg ae,if_neg bc]at hI;simp-dsimp[go_sem,hN,hw];exact⟨hc,vs,⟨hI,aa,hL⟩,ic⟩
   ·rw[hwt]at hI;rw[if_pos ae]at hI;simp-dsimp[go_sem,hN];simpa using hI
 ·have e0:ut l[n] vs loops=oe:=by rw[hr];simp[hz]
  rw[e0,if_pos hz]at hI;simp-dsimp[go_sem,hN,hz];refine ka (xtt l[n].op oa ob) ae ?_;simp-dsimp[go_sem,hN,hz];exact hI
termination_by SizeOf.sizeOf l
theorem xst{p:Proc}(h:s7 p=0):p.params.length≤6:=by
 unfold s7 at h;split at h
 ·cases h
 split at h
 ·rename_i h1;exact(h1 h).elim
 ·rename_i h1;simp only[Decidable.not_not]at h1;unfold qtb at h1;split at h1
  ·cases h1
  ·omega
theorem jjd{p:Proc}(h:s7 p=0):(ou p.body).length≤401:=by
 have h1:=xfu h;rw[xqp]at h1;have h2:=List.append_cancel_left h1;have h3:=(qwd (xg (σ:=Unit)) md p ()).1;have h4:∀l:List Vt,(qpy l).length≤l.length:=by
  intro l
  induction l with
  |nil=>simp[qpy]
  |cons v l ih=>rw[qpy];split<;>simp<;>omega
 have:=h4 (w9 p);rw[←h2];omega
theorem xsj(p:Proc):APure prog 111 [.agg p.c] (I (zh p)):=by
 refine ik func111 ntmps111 rfl ac rfl rfl fun E h hN hh hu hb=>?_;rw[←xxg];simp-dsimp[go_sem,hN];refine ia (xt1 p) ?_;simp-dsimp[go_sem,hN];refine gy ?_ ?_<;>intro h0<;>simp at h0
 ·simp-dsimp[go_sem,hN,qzc,h0]
 have hfew:=xst h0;have u7:=jjd h0;obtain⟨R,hR⟩:∃R,qzc p=R:=⟨_,rfl⟩
 have yv:=hR;unfold qzc at yv;rw[if_neg cg]at yv;rw[hR];obtain⟨vv,hvv⟩:∃vv:Nat→nf,∀n,vv n=qs5 (p.params.take n):=⟨_,fun _=>rfl⟩
 have hv0:vv 0=[]:=by rw[hvv];rfl
 have hvl:vv p.params.length=qs5 p.params:=by rw[hvv,qly]
 have hvn:∀n,n≤p.params.length→(vv n).length=n:=fun n hn=>by rw[hvv];simp[qs5];omega
 rw[←hvl]at yv;simp-dsimp[go_sem,hN];refine jl p.params.length (fun n=>(p.params.drop n).any (fun x=>decide (x.ty=3))=p.params.any (fun x=>decide (x.ty=3))) (fun n=>⟨[(1,P0 h.length),(4,P0 (h.length+1)),(5,I n)],h++[.cells p.c,.cells (scA (vv n) [])]⟩) ae ?_ ?_
 ·exact Wk.mk bi (by simp[go_sem,hv0]) bj (by simp[go_sem,hv0])
 intro n hn hI;have hw:=iv hn (show _≤68719476736 by omega);simp-dsimp[go_sem,hN];refine gy ?_ ?_<;>intro hc<;>simp at hc
 ·rw[ji hc,List.any_cons]at hI;simp-dsimp[go_sem,hN,hc];refine gy ?_ ?_<;>intro h3<;>simp at h3
  ·rw[if_pos (by rw[←hI];simp[h3])]at yv;simp-dsimp[go_sem,hN,←yv]
  ·simp-dsimp[go_sem,hN];refine kf 13 mixed ac ac ?_;simp-dsimp[go_sem,hN,hc];refine ia (xlb (vv n) [] p.params[n].name p.params[n].ty false (by rw[hvn n aa];omega) ae) ?_;have e1:vv n++[(p.params[n].name,p.params[n].ty)]=vv (n+1):=by
    rw[hvv,hvv];unfold qs5;rw[eg hc,dz];rfl
   rw[e1];simp-dsimp[go_sem,hN,hw];exact⟨by simpa[h3]using hI,ic⟩
 rw[cv aa]at hI;rw[if_neg (by rw[←hI];simp)]at yv;obtain rfl:n=p.params.length:=aa;simp-dsimp[go_sem,hN];refine ia (jep p aa) ?_;rw[←xqp];obtain⟨N,hN2⟩:∃N,yp p=N:=⟨_,rfl⟩
 rw[hN2]at yv⊢;have hNl:N.length≤407:=by rw[←hN2,xfu h0];simp;omega
 simp-dsimp[go_sem,hN];refine jl N.length (fun k=>qqd (N.take k) (N.drop k)=qqd [] N) (fun k=>⟨[(1,P0 h.length),(4,P0 (h.length+1)),(6,.slice (N.map im)),(7,I k)],h++[.cells p.c,.cells (scA (vv p.params.length) [])]⟩) ae ic ?_;intro k hk hJ;have hw:=iv hk (show _≤68719476736 by omega);simp-dsimp[go_sem,hN];refine gy ?_ ?_<;>intro hd<;>simp at hd
 ·rw[ji hd,qqd]at hJ;simp-dsimp[go_sem,hN];refine jl k (fun q=>mv (fun x=>decide (x=N[k])) ((N.take k).drop q)=mv (fun x=>decide (x=N[k])) (N.take k)) (fun q=>⟨[(1,P0 h.length),(4,P0 (h.length+1)),(6,.slice (N.map im)),(7,I k),(8,I q)],h++[.cells p.c,.cells (scA (vv p.params.length) [])]⟩) ae ic ?_;intro q hq hK;have oi:=iv hq (show _≤68719476736 by omega);simp-dsimp[go_sem,hN];refine gy ?_ ?_<;>intro he<;>simp at he
  ·have he2:q<N.length:=aa;have hx:q<(N.take k).length:=am;rw[ji hx,mv]at hK;simp only[qmq]at hK;simp-dsimp[go_sem,hN,he,he2,hd];refine kf 8 mixed ac ac ?_;simp-dsimp[go_sem,hN,he,he2,hd];refine gy ?_ ?_<;>intro hg<;>simp at hg
   ·have h1:jk (N.take k) N[k]=true:=by unfold jk;rw[←hK];simp[hg]
    have h2:qqd [] N=true:=by rw[←hJ,h1];rfl
    rw[if_pos h2]at yv;simp-dsimp[go_sem,hN,←yv]
   ·simp-dsimp[go_sem,hN,oi];exact⟨he,by simpa[hg]using hK,ic⟩
  ·rw[cv am,mv]at hK;have h1:jk (N.take k) N[k]=false:=by unfold jk;rw[←hK]
   rw[h1,qlw]at hJ;simp-dsimp[go_sem,hN,hw];exact⟨hd,by rw[eg hd];exact hJ,ic⟩
 ·rw[cv aa,qqd]at hJ;rw[←hJ,if_neg ae]at yv;simp-dsimp[go_sem,hN];refine ia (xd7 p.body 1 (vv p.params.length) [] (qzb h0) (by rw[hvn _ (ct _)];omega) ae) ?_;simp-dsimp[go_sem,hN,yv]
theorem xzu(x:Param)(v:V)(hx:x.ty=1∨x.ty=2):APure prog 112 [.agg v.c,I x.ty] (Bo (qws x v)):=by
 refine ik func112 ntmps112 rfl ac rfl rfl fun E h hN hh hu hb=>?_;simp-dsimp[go_sem,hN];refine gy ?_ ?_<;>intro h0<;>simp at h0
 ·simp-dsimp[go_sem,hN,qws,h0]
 simp-dsimp[go_sem,hN];refine ka (xoi v.s) ae ?_;have h2:x.ty=2:=hx.resolve_left h0;simp-dsimp[go_sem,hN,qws,h2]
 try grind
theorem jko{p:Proc}(h:zh p=0):∀x∈p.params,x.ty=1∨x.ty=2:=by
 rw[←xxg]at h;unfold qzc at h;split at h
 ·rename_i h1;exact(h1 h).elim
 rename_i h1;split at h
 ·cases h
 rename_i h2;intro x hx;have hv:=xsq av x hx;have h3:x.ty≠3:=fun e=>h2 (qmf.2 ⟨x,hx,by simp[e]⟩);omega
theorem xwk(p:Proc)(args:List V):APure prog 64 [.agg p.c,.slice (args.map V.c)] (I (zg p args)):=by
 refine ik func64 ntmps64 rfl ac rfl rfl fun E h hN hh hu hb=>?_;simp-dsimp[go_sem,hN];refine ia (xsj p) ?_;simp-dsimp[go_sem,hN]
 repeat refine⟨ax,?_⟩
 refine gy (fun h0=>?_) (fun h0=>?_)
 ·simp-dsimp[go_sem,hN];unfold zg;rw[if_pos (by simp at h0;omega)]
 have qc:zh p=0∧args.length=p.params.length:=by simp at h0;omega
 have e0:zg p args=if qm8 p.params args=true then 0 else 10:=by unfold zg;rw[if_neg aa]
 rw[e0];simp-dsimp[go_sem,hN];refine jl args.length (fun n=>qm8 (p.params.drop n) (args.drop n)=qm8 p.params args) (fun n=>⟨[(1,.slice (args.map V.c)),(2,P0 h.length),(5,I n)],h++[.cells p.c]⟩) ae ic ?_;intro n hn hI;simp[go_sem]at hb;have hw:=iv hn (show _≤68719476736 by first|exact hb.2.1|exact hb.2|exact hb.1.2.1.1|omega);simp-dsimp[go_sem,hN];refine gy ?_ ?_<;>intro hc<;>simp at hc
 ·have ox:n<p.params.length:=aa;rw[ji hc,ji ox,qm8]at hI;simp-dsimp[go_sem,hN,hc,ox];refine kf 10 mixed ac ac ?_;simp-dsimp[go_sem,hN,hc,ox];refine ia (xzu p.params[n] args[n] (jko qc.1 _ (c9 ox))) ?_;simp-dsimp[go_sem,hN];refine gy ?_ ?_<;>intro h1<;>simp at h1
  ·simp-dsimp[go_sem,hN,←hI,h1]
  ·simp-dsimp[go_sem,hN,hw];exact⟨hc,qkz,ic⟩
 ·rw[cv (show p.params.length≤n by omega),cv (show args.length≤n by omega)]at hI;have hI':qm8 p.params args=true:=by rw[←hI];simp[qm8]
  rw[if_pos hI']at e0;rw[if_pos hI'];simp-dsimp[go_sem,hN]
end
end Go.Proofs.YtbimdamecieomaaGreatDoor
set_option maxHeartbeats 2000000
namespace Go.Proofs.YtbimdamecieomaaGreatDoor
open Go Go.Abs Go.Cw Tryz
theorem jfx(op:Int):APure prog 235 [I op] (Bo (qsv op)):=by
 refine ik func235 ntmps235 rfl ac rfl rfl fun E h hN hh hu hb=>?_;simp-dsimp[go_sem,hN,qsv]
 try grind
theorem xvh(e:Ex):(qqe e).length=nodes e:=by simp[qqe,nodes]
theorem xnm:∀l:List Vt,(qpn l).length≤l.length
 | []=>by simp[qpn]
 |v::l=>by
  have:=xnm l;rw[qpn];split<;>simp<;>omega
theorem xn2(e:Ex)(hB:nodes e≤1000000):APure prog 234 [.agg e.x] (.slice ((qqe e).map iw)):=by
 refine qbn func234 rfl ac (by simp[ntmps234]) rfl ?_;intro E h hN hh hu hb;rw[ntmps234]at hN;simp[go_sem]at hb;refine ln (ub ?_);simp[go_sem,hN];refine ln (yf [_,_] _ ?_);simp[go_sem,hN];intro c a w s k;refine xyf s k (x:=.tmp 6) (el:=3) (d1:=7) rfl rfl aa rfl af af af af (v:=.int .i64 e.op) af rfl fun c' a' w' s' k'=>?_;refine xf _ [_,_,_] _ rfl ?_ c' a' w' s' k';simp[go_sem,hN];apply na;simp-dsimp[go_sem,hN];refine pa (α:=List Int) e.args.length (fun n o=>o++opsL (e.args.drop n)=qqe e∧o.length+qok (e.args.drop n)≤1000000) (fun n o=>⟨[(1,P0 h.length),(3,.own (h.length+1) o.length),(4,I n)],h++[.cells e.x,.arr 3 1 (o.map iw)]⟩) [e.op] ⟨by rw[jg4];simp,by have:=qzo e;simp;omega⟩ ic ?_;rintro n o hn ⟨hI,ho⟩;have hw:=iv hn (show _≤68719476736 by first|exact hb.2.1|omega);simp-dsimp[go_sem,hN];refine gy ?_ ?_<;>intro hc<;>simp at hc
 ·rw[ji hc,xr9]at hI;rw[ji hc,qz2]at ho;have ib:SizeOf.sizeOf e.args[n]<SizeOf.sizeOf e:=Ex.arg_lt (c9 hc);have hOps:=xn2 e.args[n] aa;have hol:(qqe e.args[n]).length=nodes e.args[n]:=xvh _;obtain⟨O,hO⟩:∃O,qqe e.args[n]=O:=⟨_,rfl⟩
  rw[hO]at hI hol hOps;simp-dsimp[go_sem,hN,hc];refine ia hOps ?_;simp-dsimp[go_sem,hN,hc,hw];refine⟨aa,o++O,⟨by rw[dr];exact hI,am⟩,ic⟩
 ·rw[cv aa]at hI;have hI':o=qqe e:=by rw[←hI];simp[wc]
  obtain⟨O,hO⟩:∃O,qqe e=O:=⟨_,rfl⟩
  rw[hO]at hI'⊢;simp-dsimp[go_sem,hN,hI'];rw[←hO];simp
termination_by SizeOf.sizeOf e
theorem jdh(p:Proc):APure prog 193 [.agg p.c] (.tuple [I (qrk p).1,I (qrk p).2.1,Bo (qrk p).2.2]):=by
 refine ik func193 ntmps193 rfl ac rfl rfl fun E h hN hh hu hb=>?_;simp-dsimp[go_sem,hN];refine ia (xt1 p) ?_;simp-dsimp[go_sem,hN];refine gy ?_ ?_<;>intro h0<;>simp at h0
 ·simp-dsimp[go_sem,hN,qrk,h0]
 have hk:∀x∈rg p,nodes x≤4096:=fun x hx=>by
  have:=xjk x 1 12 (jnn h0 x hx) aa;omega
 have jr:(rg p).length≤401:=by
  rw[xu8];have h1:=(qwd (xg (σ:=Unit)) md p ()).1;have h2:=xnm (w9 p);omega
 rw[jm0 h0];simp-dsimp[go_sem,hN];have hEx:=jhx p;rw[←xu8]at hEx;obtain⟨L,hL⟩:∃L,rg p=L:=⟨_,rfl⟩
 rw[hL]at hk jr hEx⊢;refine ia hEx ?_;simp-dsimp[go_sem,hN];obtain⟨R,hR⟩:∃R,quq (opsL L) 0=R:=⟨_,rfl⟩
 rw[hR];refine pa (α:=Nat) L.length (fun n m=>quq (opsL (L.drop n)) m=R∧m≤4096 * n) (fun n m=>⟨[(5,.slice (L.map Ex.c)),(6,I m),(7,I n)],h⟩) 0 ⟨qj7,aa⟩ ic ?_;intro n m hn ⟨hI,hm⟩;have hw:=iv hn (show _≤68719476736 by omega);simp-dsimp[go_sem,hN];refine gy ?_ ?_<;>intro hc<;>simp at hc
 ·have hkn:=hk _ (c9 hc);rw[ji hc,xr9]at hI;simp-dsimp[go_sem,hN,hc];have hOps:=xn2 L[n] aa;have hol:(qqe L[n]).length≤4096:=by rw[xvh];exact hkn
  obtain⟨O,hO⟩:∃O,qqe L[n]=O:=⟨_,rfl⟩
  rw[hO]at hI hol hOps;refine ia hOps ?_;simp-dsimp[go_sem,hN];refine jl O.length (fun k=>quq (O.drop k++opsL (L.drop (n+1))) ((m+k:Nat):Int)=R) (fun k=>⟨[(5,.slice (L.map Ex.c)),(6,I ((m+k:Nat):Int)),(7,I n),(8,.slice (O.map iw)),(9,I k)],h⟩) qiv ic ?_;intro k q9 hJ;have oi:=iv q9 (show _≤68719476736 by omega);have hw3:IntKind.i64.wrap (((m+k:Nat):Int)+1)=((m+(k+1):Nat):Int):=qfh;have hw4:IntKind.i64.wrap ((m:Int)+(k:Int)+1)=(m:Int)+((k:Int)+1):=qfh;simp-dsimp[go_sem,hN];refine gy ?_ ?_<;>intro hkc<;>simp at hkc
  ·rw[ji hkc,qlg,quq]at hJ;simp-dsimp[go_sem,hN,hkc,iw];refine ia (jfx O[k]) ?_;simp-dsimp[go_sem,hN];refine gy ?_ ?_<;>intro hg<;>try simp at hg
   ·rw[if_pos hg]at hJ;simp-dsimp[go_sem,hN,hkc,iw];rw[←hJ];exact⟨rfl,rfl,rfl⟩
   ·rw[if_neg qkk]at hJ;simp-dsimp[go_sem,hN,oi,hw3,hw4];exact⟨hkc,by rw[←hJ];congr 1,ic⟩
  ·have hkO:k=O.length:=aa;subst hkO;rw[cv aa,ej]at hJ;simp-dsimp[go_sem,hN,hw];exact⟨hc,m+O.length,⟨hJ,aa⟩,ic⟩
 ·rw[cv aa]at hI;have:quq (opsL []) m=(0,0,false):=rfl;rw[this]at hI;simp-dsimp[go_sem,hN];rw[←hI];exact⟨rfl,rfl,rfl⟩
theorem xoa(p:Proc):APure prog 153 [.agg p.c] (I (qn1 p)):=by
 refine ik func153 ntmps153 rfl ac rfl rfl fun E h hN hh hu hb=>?_;simp-dsimp[go_sem,hN];refine ia (xsj p) ?_;simp-dsimp[go_sem,hN];refine gy ?_ ?_<;>intro h0<;>simp at h0
 ·simp-dsimp[go_sem,hN,qn1,h0]
 simp-dsimp[go_sem,hN];refine ia (jdh p) ?_;simp-dsimp[go_sem,hN];refine gy ?_ ?_<;>intro h1<;>try simp at h1
 ·simp-dsimp[go_sem,hN,qn1,h0,h1]
 ·simp-dsimp[go_sem,hN,qn1,h0,h1]
section
attribute [local go_sem] Cnt.c
theorem ya(n:Int):APure prog 277 [I n] (I (cut n)):=by
 refine ik func277 ntmps277 rfl ac rfl rfl fun E h hN hh hu hb=>?_;simp-dsimp[go_sem,hN];simp only[cut,mn]
theorem qc9(x y:Cnt):APure prog 237 [.agg x.c,.agg y.c] (.agg (x.plus y).c):=by
 refine ik func237 ntmps237 rfl ac rfl rfl fun E h hN hh hu hb=>?_;simp-dsimp[go_sem,hN];refine kf 23 mixed ac ac ?_;simp-dsimp[go_sem,hN]
 first|refine ia (ya _) ?_|refine ku (ya _) (fun _=>trivial) ?_
 simp-dsimp[go_sem,hN]
 first|refine ia (ya _) ?_|refine ku (ya _) (fun _=>trivial) ?_
 simp-dsimp[go_sem,hN]
 first|refine ia (ya _) ?_|refine ku (ya _) (fun _=>trivial) ?_
 simp-dsimp[go_sem,hN]
 first|refine ia (ya _) ?_|refine ku (ya _) (fun _=>trivial) ?_
 simp-dsimp[go_sem,hN];simp[Cnt.plus,cut]
theorem xpb(x y:Cnt):APure prog 238 [.agg x.c,.agg y.c] (.agg (x.larger y).c):=by
 refine ik func238 ntmps238 rfl ac rfl rfl fun E h hN hh hu hb=>?_;simp-dsimp[go_sem,hN];simp[Cnt.larger,mx]
theorem xvy(k:Int)(x:Cnt):APure prog 239 [I k,.agg x.c] (.agg (Cnt.rtimes k x).c):=by
 refine ik func239 ntmps239 rfl ac rfl rfl fun E h hN hh hu hb=>?_;simp-dsimp[go_sem,hN];refine kf 19 mixed ac ac ?_;simp-dsimp[go_sem,hN]
 first|refine ia (ya _) ?_|refine ku (ya _) (fun _=>trivial) ?_
 simp-dsimp[go_sem,hN]
 first|refine ia (ya _) ?_|refine ku (ya _) (fun _=>trivial) ?_
 simp-dsimp[go_sem,hN]
 first|refine ia (ya _) ?_|refine ku (ya _) (fun _=>trivial) ?_
 simp-dsimp[go_sem,hN]
 first|refine ia (ya _) ?_|refine ku (ya _) (fun _=>trivial) ?_
 simp-dsimp[go_sem,hN];simp[Cnt.rtimes,cut]
theorem qe0(e:Ex):APure prog 278 [.agg e.x] (I (rgE e)):=by
 refine ik func278 ntmps278 rfl ac rfl rfl fun E h hN hh hu hb=>?_;simp[go_sem]at hb;rw[joh];obtain⟨G,hG⟩:∃G:Int,G=if e.op=22∨e.op=23∨e.op=24 then 1 else 0:=⟨_,rfl⟩
 rw[←hG];simp-dsimp[go_sem,hN];refine gy (fun h1=>?_) (fun h1=>?_)
 ·have hv:G=1:=by rw[hG,if_pos qga]
  simp-dsimp[go_sem,hN];refine pa (α:=Int) e.args.length (fun n m=>rgL (e.args.drop n) m=rgL e.args G) (fun n m=>⟨[(1,.ptr h.length 0),(3,I m),(4,I n)],h++[.cells e.x]⟩) G ae (ic qhk) ?_;intro n m hn hI;have hw:=iv hn hb.2.1;simp-dsimp[go_sem,hN];refine gy ?_ ?_<;>intro hc<;>simp at hc
  ·rw[ji hc,rgL]at hI;have ib:SizeOf.sizeOf e.args[n]<SizeOf.sizeOf e:=Ex.arg_lt (c9 hc);simp-dsimp[go_sem,hN,hc];refine ia (qe0 e.args[n]) ?_;simp-dsimp[go_sem,hN];refine ia (ya _) ?_;simp-dsimp[go_sem,hN,hw];exact⟨hc,_,hI,ic⟩
  ·rw[cv aa,rgL]at hI;simp-dsimp[go_sem,hN,hI]
 ·have hv:G=0:=by rw[hG,if_neg qga]
  simp-dsimp[go_sem,hN];refine pa (α:=Int) e.args.length (fun n m=>rgL (e.args.drop n) m=rgL e.args G) (fun n m=>⟨[(1,.ptr h.length 0),(3,I m),(4,I n)],h++[.cells e.x]⟩) G ae (ic qhk) ?_;intro n m hn hI;have hw:=iv hn hb.2.1;simp-dsimp[go_sem,hN];refine gy ?_ ?_<;>intro hc<;>simp at hc
  ·rw[ji hc,rgL]at hI;have ib:SizeOf.sizeOf e.args[n]<SizeOf.sizeOf e:=Ex.arg_lt (c9 hc);simp-dsimp[go_sem,hN,hc];refine ia (qe0 e.args[n]) ?_;simp-dsimp[go_sem,hN];refine ia (ya _) ?_;simp-dsimp[go_sem,hN,hw];exact⟨hc,_,hI,ic⟩
  ·rw[cv aa,rgL]at hI;simp-dsimp[go_sem,hN,hI]
termination_by SizeOf.sizeOf e
theorem jgp(t:St):APure prog 236 [.agg t.x] (.agg (qtg t).c):=by
 refine ik func236 ntmps236 rfl ac rfl rfl fun E h hN hh hu hb=>?_;simp-dsimp[go_sem,hN];refine kf 10 mixed ac ac ?_;simp-dsimp[go_sem,hN]
 first|refine ia (qe0 t.a) ?_|refine ku (qe0 t.a) (fun _=>trivial) ?_
 simp-dsimp[go_sem,hN]
 first|refine ia (qe0 t.b) ?_|refine ku (qe0 t.b) (fun _=>trivial) ?_
 simp-dsimp[go_sem,hN]
 first|refine ia (ya _) ?_|refine ku (ya _) (fun _=>trivial) ?_
 simp-dsimp[go_sem,hN];by_cases h3:t.op=3∨t.op=4
 ·have h7:t.op≠7:=aa;have e:qtg t=⟨1,cut (jt (rgE t.a+rgE t.b)),1,0⟩:=by unfold qtg;rw[if_pos h3,if_neg h7]
  rw[e];refine gy (fun h=>?_) (fun h=>by simp at h;omega);simp-dsimp[go_sem,hN,h7]
 ·by_cases h7:t.op=7
  ·have e:qtg t=⟨1,cut (jt (rgE t.a+rgE t.b)),0,1⟩:=by unfold qtg;rw[if_neg h3,if_pos h7]
   rw[e];refine gy (fun h=>by simp at h;omega) (fun h=>?_);simp-dsimp[go_sem,hN,h7]
  ·have e:qtg t=⟨1,cut (jt (rgE t.a+rgE t.b)),0,0⟩:=by unfold qtg;rw[if_neg h3,if_neg h7]
   rw[e];refine gy (fun h=>by simp at h;omega) (fun h=>?_);simp-dsimp[go_sem,hN,h7]
theorem qd4(l:List St):APure prog 194 [.slice (l.map St.c)] (.agg (rcB l).c):=by
 refine ik func194 ntmps194 rfl ac rfl rfl fun E h hN hh hu hb=>?_;simp[go_sem]at hb;simp-dsimp[go_sem,hN];refine pa (α:=Cnt) l.length (fun n c=>rcL (l.drop n) c=rcB l) (fun n c=>⟨[(0,.slice (l.map St.c)),(2,P0 h.length),(3,P0 (h.length+1)),(4,I n)],h++[.cells [I 0,I 0,I 0,I 0],.cells c.c]⟩) ⟨0,0,0,0⟩ ae ic ?_;intro n c hn hI;have hw:=iv hn (show _≤68719476736 by first|exact hb.1|exact hb|omega);simp-dsimp[go_sem,hN];refine gy ?_ ?_<;>intro hc<;>simp at hc
 rotate_left
 ·rw[cv aa,rcL]at hI;simp-dsimp[go_sem,hN,←hI]
 rw[ji hc,rcL,xun]at hI;have tg:SizeOf.sizeOf l[n].body<SizeOf.sizeOf l:=Nat.lt_trans (St.body_le _) (fj (c9 hc));have xai:SizeOf.sizeOf l[n].els<SizeOf.sizeOf l:=Nat.lt_trans (St.els_le _) (fj (c9 hc));simp-dsimp[go_sem,hN,hc];refine ia (jgp l[n]) ?_;simp-dsimp[go_sem,hN];by_cases h5:l[n].op=5
 ·have h6:l[n].op≠6:=aa;simp only[h5,if_true,show ¬(5:Int)=6 by decide,if_false]at hI;simp-dsimp[go_sem,hN,h5];refine kf 8 mixed ac ac ?_;simp-dsimp[go_sem,hN]
  first|refine ia (qd4 l[n].body) ?_|refine ku (qd4 l[n].body) (fun _=>trivial) ?_
  simp-dsimp[go_sem,hN]
  first|refine ia (qd4 l[n].els) ?_|refine ku (qd4 l[n].els) (fun _=>trivial) ?_
  simp-dsimp[go_sem,hN]
  first|refine ia (xpb _ _) ?_|refine ku (xpb _ _) (fun _=>trivial) ?_
  simp-dsimp[go_sem,hN]
  first|refine ia (qc9 _ _) ?_|refine ku (qc9 _ _) (fun _=>trivial) ?_
  simp-dsimp[go_sem,hN,h5];refine ia (qc9 _ _) ?_;simp-dsimp[go_sem,hN,hw];exact⟨hc,_,hI,ic⟩
 ·by_cases h6:l[n].op=6
  ·simp only[h6,if_true,show ¬(6:Int)=5 by decide,if_false]at hI;simp-dsimp[go_sem,hN,h6];refine kf 11 mixed ac ac ?_;simp-dsimp[go_sem,hN]
   first|refine ia (qd4 l[n].body) ?_|refine ku (qd4 l[n].body) (fun _=>trivial) ?_
   simp-dsimp[go_sem,hN]
   first|refine ia (xvy l[n].max _) ?_|refine ku (xvy l[n].max _) (fun _=>trivial) ?_
   simp-dsimp[go_sem,hN]
   first|refine ia (qc9 _ _) ?_|refine ku (qc9 _ _) (fun _=>trivial) ?_
   simp-dsimp[go_sem,hN]
   first|refine ia (qc9 _ ⟨l[n].max,0,0,0⟩) ?_|refine ku (qc9 _ ⟨l[n].max,0,0,0⟩) (fun _=>trivial) ?_
   simp-dsimp[go_sem,hN];refine ia (qc9 _ _) ?_;simp-dsimp[go_sem,hN,hw];exact⟨hc,_,hI,ic⟩
  ·simp only[h5,h6,if_false]at hI;simp-dsimp[go_sem,hN,h5,h6];refine ia (qc9 _ _) ?_;simp-dsimp[go_sem,hN,hw];exact⟨hc,_,hI,ic⟩
termination_by SizeOf.sizeOf l
theorem ja2{p:Proc}(h:qn1 p=0):s7 p=0:=by
 unfold qn1 at h;split at h
 ·rename_i h1;exact(h1 h).elim
 ·rename_i h1;simp only[Decidable.not_not]at h1;unfold zh at h1;split at h1
  ·rename_i h2;exact(h2 h1).elim
  ·rename_i h2;simpa using h2
theorem xzh(p:Proc)(hd0:qn1 p=0):APure prog 154 [.agg p.c] (.tuple [.agg (ru p.body).c,Bo true]):=by
 refine ik func154 ntmps154 rfl ac rfl rfl fun E h hN hh hu hb=>?_;have hv:=ja2 hd0;have hr:=jde (qzb hv);have hbd:=qd4 p.body;rw[hr]at hbd;have hck:=xoa p;rw[hd0]at hck;simp-dsimp[go_sem,hN];refine ia hck ?_;simp-dsimp[go_sem,hN];refine ia hbd ?_;simp-dsimp[go_sem,hN]
theorem jmq(p:Proc):APure prog 113 [.agg p.c] (I (Cw.t6 p)):=by
 refine ik func113 ntmps113 rfl ac rfl rfl fun E h hN hh hu hb=>?_;simp-dsimp[go_sem,hN];refine ia (xoa p) ?_;simp-dsimp[go_sem,hN];refine gy ?_ ?_<;>intro h0<;>simp at h0
 ·simp-dsimp[go_sem,hN,Cw.t6,h0]
 have hOf:=xzh p h0;simp-dsimp[go_sem,hN];refine ia hOf ?_;simp-dsimp[go_sem,hN];refine gy ?_ ?_<;>intro h1<;>simp at h1
 ·simp-dsimp[go_sem,hN,Cw.t6,h0,h1]
 simp-dsimp[go_sem,hN]
 repeat refine⟨ax,?_⟩
 refine gy (fun h2=>?_) (fun h2=>?_)
 ·have e:Cw.t6 p=2:=by
   unfold Cw.t6;rw[if_neg cg,if_neg aa,if_pos qjm]
  simp-dsimp[go_sem,hN,e]
 ·have e:Cw.t6 p=0:=by
   unfold Cw.t6;rw[if_neg cg,if_neg aa,if_neg qjm]
  simp-dsimp[go_sem,hN,e]
end
end Go.Proofs.YtbimdamecieomaaGreatDoor
set_option maxHeartbeats 4000000
namespace Go.Proofs.YtbimdamecieomaaGreatDoor
open Go Go.Abs Go.Cw
section
attribute [local go_sem] mC
variable {C:Cfg} {tT:TypeId} {tx:Nat×Nat} {g m v o io ir ip:Nat} {K:MQ→gz} {n0:Nat}
end
end Go.Proofs.YtbimdamecieomaaGreatDoor
namespace Go.Proofs.YtbimdamecieomaaGreatDoor
open Go Go.Abs Go.Cw Tryz
section
attribute [local go_sem] RM.c
theorem jfq:∀n,i64 n→APure prog 312 [I n] (S (jh n)):=fun n hn=>xyp n hn
theorem xzd(p:Proc)(args:List V)(st:List Pr)(ft:Foot)(hI:RunIn jh p args st):APure prog 65 [.agg p.c,.slice (args.map V.c),.slice (st.map Pr.c),.agg ft.c] (.agg (mz jh p args st ft).c):=by
 refine ik func65 ntmps65 rfl ac rfl rfl fun E h hN hh hu hb=>?_;simp[go_sem]at hb;rw[←xxo hI];have qqt:(Cw.t6 p≠0∨zg p args≠0∨nn st=false∨my ft.all ft.reads ft.writes=false)↔¬vw p args st ft:=by unfold vw;simp only[Decidable.not_not]
 simp-dsimp[go_sem,hN];refine ia (jmq p) ?_;simp-dsimp[go_sem,hN];refine ka (xwk p args) ae ?_;simp-dsimp[go_sem,hN];refine ka (xq5 st) ae ?_;simp-dsimp[go_sem,hN];refine ka (jhz ft) ae ?_;simp-dsimp[go_sem,hN]
 repeat refine⟨ax,?_⟩
 refine gy ?_ ?_<;>intro h0<;>simp at h0
 ·have e1:qxm jh p args st ft=u4:=by unfold qxm;rw[if_pos ax]
  rw[e1];simp-dsimp[go_sem,hN];refine ia jmg ?_;simp-dsimp[go_sem,hN]
 have jm:vw p args st ft:=by rw[qci];grind
 have qw:=(qci _ _ _ _).1 jm;have jr:=(xev qw.2.1).1;have hfew:=xst (xl4 qw.1);have e1:qxm jh p args st ft=qza (om (qm jh st ft) p.body (rm0 p args)):=by unfold qxm;rw[if_neg jm]
 rw[e1];simp-dsimp[go_sem,hN];refine pa (α:=List Pr) args.length (fun n vs=>qdd (p.params.drop n) (args.drop n) vs=qdd p.params args []∧vs.length≤n) (fun n vs=>⟨[(1,.slice (args.map V.c)),(4,P0 h.length),(8,P0 (h.length+2)),(9,P0 (h.length+3)),(10,I n)],h++[.cells p.c,.cells ft.c,xf2,.cells (RM.c (qm jh st ft) ⟨vs,[],0,0,[],[],[],em,0⟩)]⟩) [] ae ic ?_;rintro n vs hn ⟨mt,hvl⟩;have hw:=iv hn (show _≤68719476736 by omega);simp-dsimp[go_sem,hN];refine gy ?_ ?_<;>intro hc<;>simp at hc
 ·have ox:n<p.params.length:=aa;rw[ji hc,ji ox,qdd]at mt;simp-dsimp[go_sem,hN,hc,ox];refine kf 13 mixed ac ac ?_;simp-dsimp[go_sem,hN,hc,ox];refine ia (xei vs ⟨p.params[n].name,args[n]⟩ aa) ?_;simp-dsimp[go_sem,hN,hw];have:=xdv vs ⟨p.params[n].name,args[n]⟩;exact⟨_,⟨mt,aa⟩,ic⟩
 ·rw[cv (show args.length≤n by omega),cv (show p.params.length≤n by omega),show qdd [] [] vs=vs by simp[qdd]]at mt;subst mt;have hsi:=xqe p.params args [] hI.args ae;have hRI:RInv 0 0 (rm0 p args):=⟨hsi.1,ae,ae,ae,ae,ae,ae,by have:=hsi.2;simp at this⊢;omega,ae⟩
  have hC:ur (qm jh st ft):=fun q hq=>hI.st q hq;simp-dsimp[go_sem,hN];refine ia (xjh (qm jh st ft) hC hI.fmt jfq p.body 1 (rm0 p args) (qxc qw.1) (qw7 qw.1 hI.body) hRI rfl) ?_;obtain⟨M,hM⟩:∃M,om (qm jh st ft) p.body (rm0 p args)=M:=⟨_,rfl⟩
  rw[hM];simp-dsimp[go_sem,hN];refine ia (qbz (qm jh st ft) M) ?_;simp-dsimp[go_sem,hN];refine gy ?_ ?_<;>intro h1<;>simp at h1
  ·simp-dsimp[go_sem,hN];refine ia (jma (qm jh st ft) M) ?_;simp-dsimp[go_sem,hN,qza,h1]
  ·simp-dsimp[go_sem,hN];refine ia (jb7 (qm jh st ft) M) ?_;simp-dsimp[go_sem,hN,qza,h1]
variable {tT:TypeId} {tx:Nat×Nat} {g:Nat}
end
end Go.Proofs.YtbimdamecieomaaGreatDoor
set_option maxHeartbeats 2000000
namespace Go.Proofs.YtbimdamecieomaaGreatDoor
open Go Go.Abs Go.Cw
end Go.Proofs.YtbimdamecieomaaGreatDoor
namespace Go.Proofs.YtbimdamecieomaaGreatDoor
open Go Go.Abs Go.Cw Tryz
theorem jdp(procs:List Proc)(name:g9):APure prog 63 [.slice (procs.map Proc.c),S name] (.tuple [.agg ((qvv procs name).getD qxb).c,Bo (qvv procs name).isSome]):=by
 refine ik func63 ntmps63 rfl ac rfl rfl fun E h hN hh hu hb=>?_;simp[go_sem]at hb;simp-dsimp[go_sem,hN];refine jl procs.length (fun n=>(procs.drop n).find? (fun p=>decide (p.name=name))=qvv procs name) (fun n=>⟨[(0,.slice (procs.map Proc.c)),(1,S name),(4,P0 h.length),(6,I n)],h++[.cells [S em,.nils,.nils]]⟩) (by simp[qvv]) ic ?_;intro n hn hI;have hw:=iv hn (show _≤68719476736 by omega);simp-dsimp[go_sem,hN];refine gy ?_ ?_<;>intro hc<;>simp at hc
 ·rw[ji hc]at hI;simp-dsimp[go_sem,hN,hc];refine gy ?_ ?_<;>intro h1<;>simp at h1
  ·rw[List.find?_cons_of_pos av]at hI;simp-dsimp[go_sem,hN,hc];simp[←hI,Proc.c]
  ·rw[List.find?_cons_of_neg av]at hI;simp-dsimp[go_sem,hN,hw];exact⟨hc,hI,ic⟩
 ·rw[cv aa]at hI;simp-dsimp[go_sem,hN];simp[←hI,qxb,Proc.c]
theorem xug(procs:List Proc)(s:List Pr)(t:Txn)(hI:∀p,qqa procs t=some p→RunIn jh p t.args s)(hL:s.length≤60000000000) :
  APure prog 32 [.slice (procs.map Proc.c),.slice (s.map Pr.c),.agg t.c] (.tuple [.slice ((ov jh procs s t).1.map Pr.c),.agg (ov jh procs s t).2.c]):=by
 refine ik func32 ntmps32 rfl ac rfl rfl fun E h hN hh hu hb=>?_;simp[go_sem,Txn.c]at hb;obtain⟨R,hR⟩:∃R,ov jh procs s t=R:=⟨_,rfl⟩
 rw[hR];unfold ov at hR;have u3:qqa procs t=match qvv procs t.proc with|none=>none|some p=>if zg p t.args=0 then some p else none:=rfl
 simp-dsimp[go_sem,hN,Txn.c];refine ia (jdp procs t.proc) ?_;rcases hF:qvv procs t.proc with _|p
 ·rw[hF]at u3;simp only at u3;rw[u3]at hR;simp only at hR;subst hR;simp-dsimp[go_sem,hN,qxb];refine qdx ?_;simp-dsimp[go_sem,hN,u4]
 ·rw[hF]at u3;simp only at u3;simp-dsimp[go_sem,hN];refine ka (xwk p t.args) ae ?_;simp-dsimp[go_sem,hN];refine gy ?_ ?_<;>intro h0<;>simp at h0
  ·rw[if_neg h0]at u3;rw[u3]at hR;simp only at hR;subst hR;simp-dsimp[go_sem,hN,u4]
  rw[if_pos h0]at u3;have qyw:=hI p u3;rw[u3]at hR;simp only at hR;have mq:=fun h=>xmj (fmt:=jh) (p:=p) (args:=t.args) (s:=s) (ft:=t.ft) h;have ox:=fun h=>(xcz (ft:=t.ft) qyw h).2.2;have hlw:=xiz (ft:=t.ft) qyw;have qpw:=xzd p t.args s t.ft qyw;obtain⟨e,he⟩:∃e,mz jh p t.args s t.ft=e:=⟨_,rfl⟩
  rw[he]at hR mq ox hlw qpw;simp-dsimp[go_sem,hN];refine ia qpw ?_;simp-dsimp[go_sem,hN];refine gy ?_ ?_<;>intro h1<;>simp at h1
  ·rw[if_neg h1]at hR;subst hR;simp-dsimp[go_sem,hN];refine kf 3 mixed ac ac ?_;simp-dsimp[go_sem,hN]
  ·rw[if_pos h1]at hR;subst hR;have hA:=xy2 s e.writes aa;rw[mq h1,ox h1]at hA;simp only[Bool.and_self,if_true]at hA;simp-dsimp[go_sem,hN];refine ia hA ?_;simp-dsimp[go_sem,hN];refine kf 3 mixed ac ac ?_;simp-dsimp[go_sem,hN]
end Go.Proofs.YtbimdamecieomaaGreatDoor
