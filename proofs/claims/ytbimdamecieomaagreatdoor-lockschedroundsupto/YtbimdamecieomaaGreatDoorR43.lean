/- Part 43 of a proof. -/
import Derived.Test.YtbimdamecieomaaGreatDoorR42
set_option linter.all false
set_option maxRecDepth 4000
set_option maxHeartbeats 2000000
namespace Go.Proofs.YtbimdamecieomaaGreatDoor
open Go Go.Abs Go.Cw Tryz
theorem qd3(l:List LReq)(t:Int):APure prog 57 [.slice (l.map LReq.c),I t] (I (ni (r6 t) l)):=by
 refine ik func57 ntmps57 rfl ac rfl rfl fun E h hN hh hu hb=>?_;simp[go_sem]at hb;simp-dsimp[go_sem,hN];refine jl l.length (fun n=>pp (r6 t) n (l.drop n)=ni (r6 t) l) (fun n=>⟨[(0,.slice (l.map LReq.c)),(1,I t),(5,I n)],h⟩) qid ic ?_;intro n hn hI;have hw:=iv hn hb.1;simp-dsimp[go_sem,hN];refine gy ?_ ?_<;>intro hc<;>simp at hc
 ·rw[ji hc,pp]at hI;simp-dsimp[go_sem,hN,hc,LReq.c];refine gy ?_ ?_<;>intro hg<;>simp at hg
  ·simp-dsimp[go_sem,hN];simpa[hg]using hI
  ·simp-dsimp[go_sem,hN,hw];exact⟨hc,br,ic⟩
 ·rw[cv aa,pp]at hI;simp-dsimp[go_sem,hN,←hI]
theorem jge(l:List Int)(t:Int):APure prog 147 [.slice (l.map iw),I t] (Bo (l.any fun y=>decide (y=t))):=by
 refine ik func147 ntmps147 rfl ac rfl rfl fun E h hN hh hu hb=>?_;simp[go_sem]at hb;simp-dsimp[go_sem,hN];refine jl l.length (fun n=>((l.drop n).any fun y=>decide (y=t))=(l.any fun y=>decide (y=t))) (fun n=>⟨[(0,.slice (l.map iw)),(1,I t),(5,I n)],h⟩) ae ic ?_;intro n hn hI;have hw:=iv hn hb.1;simp-dsimp[go_sem,hN];refine gy ?_ ?_<;>intro hc<;>simp at hc
 ·rw[ji hc,List.any_cons]at hI;simp-dsimp[go_sem,hN,hc,iw];refine gy ?_ ?_<;>intro hg<;>simp at hg
  ·simp-dsimp[go_sem,hN];simp only[hg,decide_true,Bool.true_or]at hI;simpa using hI.symm
  ·simp-dsimp[go_sem,hN,hw];exact⟨hc,br,ic⟩
 ·rw[cv aa,List.any_nil]at hI;simp-dsimp[go_sem,hN,←hI]
theorem xc7(l:List LReq)(t:Int)(w:Bool)(hl:l.length<68719476736):APure prog 58 [.slice (l.map LReq.c),I t,Bo w] (.slice ((l++[(⟨t,w⟩:LReq)]).map LReq.c)):=by
 refine qbn func58 rfl ac (by simp[ntmps58]) rfl ?_;intro E h hN hh hu hb;rw[ntmps58]at hN;simp[go_sem]at hb;refine ln (ub ?_);simp[go_sem,hN];refine ln (ub ?_);simp[go_sem,hN];refine AWp.wk (qm4 E _ 7 95 2 af) ?_;apply na;simp-dsimp[go_sem,hN];exact⟨RowsLen.map 2 LReq.c l (fun _=>rfl)▸trivial,aa,aa,rfl⟩
theorem xpz(l:List LReq)(t:Int):APure prog 67 [.slice (l.map LReq.c),I t] (.slice ((re t l).map LReq.c)):=by
 refine ik func67 ntmps67 rfl ac rfl rfl fun E h hN hh hu hb=>?_;simp[go_sem]at hb;simp-dsimp[go_sem,hN];obtain⟨F,hF⟩:∃F:Nat→List LReq,F=fun n=>re t (l.take n):=⟨_,rfl⟩
 have hF0:F 0=[]:=by rw[hF];simp[re]
 have w6:∀n (hn:n<l.length),F (n+1)=F n++if l[n].t=t then []else [l[n]]:=fun n hn=>by
  rw[hF];simp only[eg hn,re,gw];congr 1;by_cases h:l[n].t=t<;>simp[h]
 have zu:∀n,(F n).length≤n:=fun n=>by
  rw[hF];refine d9 (qlf _ _) ?_;rw[du];omega
 have xh:F l.length=re t l:=qgm;refine jl l.length (fun _=>True) (fun n=>⟨[(0,.slice (l.map LReq.c)),(1,I t),(5,.own h.length (F n).length),(6,I n)],h++[.arr 95 2 ((F n).map LReq.c)]⟩) trivial ((qm4 E _ 5 95 2 af).trans qfu) ?_;intro n hn _;have hw:=iv hn hb.1;have h9:=zu n;simp-dsimp[go_sem,hN];refine gy ?_ ?_<;>intro hc<;>simp at hc
 ·simp-dsimp[go_sem,hN,hc,LReq.c];refine gy ?_ ?_<;>intro hg<;>simp at hg
  ·have tj:F (n+1)=F n++[l[n]]:=by rw[w6 n hc,if_neg hg]
   simp-dsimp[go_sem,hN,hw,hc,LReq.c];refine⟨aa,?_⟩;rw[tj,dz,cz,c8,e6,show LReq.c l[n]=[I l[n].t,Bo l[n].w]from rfl];exact ic
  ·have tj:F (n+1)=F n:=by rw[w6 n hc,if_pos hg,e8]
   simp-dsimp[go_sem,hN,hw];refine⟨hc,?_⟩;rw[tj];exact ic
 ·have ii:n=l.length:=aa;subst ii;simp-dsimp[go_sem,hN];simp[xh]
def qyq(l:List LReq):Nat→Option Int
 | 0=>none
 |n+1=>l[n]?.map (·.t)
theorem xj9(l:List LReq):APure prog 106 [.slice (l.map LReq.c)] (Bo (yt none l)):=by
 refine ik func106 ntmps106 rfl ac rfl rfl fun E h hN hh hu hb=>?_;simp[go_sem]at hb;simp-dsimp[go_sem,hN];refine jl l.length (fun n=>yt (qyq l n) (l.drop n)=yt none l) (fun n=>⟨[(0,.slice (l.map LReq.c)),(3,I n)],h⟩) (by simp[qyq]) ic ?_;intro n hn hI;have hw:=iv hn hb.1;simp-dsimp[go_sem,hN];refine gy ?_ ?_<;>intro hc<;>simp at hc
 ·rw[ji hc,yt]at hI;simp-dsimp[go_sem,hN,hc,LReq.c];refine kf 21 mixed ac ac ?_;cases n with
  |zero =>
   simp-dsimp[go_sem,hN,hc,LReq.c];refine gy ?_ ?_<;>intro hg<;>simp at hg
   ·simp-dsimp[go_sem,hN];simpa[hg,qyq]using hI
   ·simp-dsimp[go_sem,hN,hw];have h0:decide (l[0].t<0)=false:=cf;exact⟨hc,by simpa[h0,qyq,hc]using hI,ic⟩
  |succ m =>
   have hm:m<l.length:=aa;have oi:IntKind.i64.wrap ((m:Int))=(m:Int):=qe6 aa aa;have hw3:IntKind.i64.wrap (((m:Int)+1) - 1)=(m:Int):=by rw[show((m:Int)+1) - 1=m by omega];exact oi
   simp at hw;simp-dsimp[go_sem,hN,oi,hw3,hm,hc,LReq.c];have hpT:qyq l (m+1)=some l[m].t:=by simp[qyq,hm]
   rw[hpT]at hI;refine⟨aa,fun h=>⟨h,aa⟩,gy (fun hg=>?_) (fun hg=>?_)⟩<;>simp at hg
   ·simp-dsimp[go_sem,hN];rw[←hI];rcases hg with h1|h1
    ·simp[h1]
    ·have:¬l[m].t<l[m+1].t:=aa;simp[this]
   ·simp-dsimp[go_sem,hN,hw];have h0:decide (l[m+1].t<0)=false:=by simpa using hg.1
    have h1:decide (l[m].t<l[m+1].t)=true:=by simpa using hg.2
    refine⟨hc,?_,ic⟩;rw[←hI];simp[h0,h1,qyq,hc]
 ·rw[cv aa,yt]at hI;simp-dsimp[go_sem,hN,←hI]
theorem jct(l:List LQ)(k:g9)(t:Int)(w:Bool)(hl:l.length<68719476735)(hr:∀x∈l,x.reqs.length<68719476736):APure prog 60 [.slice (l.map LQ.c),S k,I t,Bo w] (.slice ((yy k ⟨t,w⟩ false l).map LQ.c)):=by
 refine ik func60 ntmps60 rfl ac rfl rfl fun E h hN hh hu hb=>?_;simp[go_sem]at hb;have xv:=xh6 (k:=k) (r:=(⟨t,w⟩:LReq)) false l;obtain⟨r,je⟩:∃r,yy k ⟨t,w⟩ false l=r:=⟨_,rfl⟩
 rw[je]at xv⊢;simp only[fw,if_false]at xv;simp-dsimp[go_sem,hN];refine pa (α:=Bool×List LQ) l.length (fun n a=>a.2++yy k ⟨t,w⟩ a.1 (l.drop n)=r) (fun n a=>⟨[(0,.slice (l.map LQ.c)),(1,S k),(2,I t),(3,Bo w),(9,.own h.length a.2.length),(10,Bo a.1),(11,I n)],h++[.arr 107 2 (a.2.map LQ.c)]⟩) (false,[]) qge ((qm4 E _ 9 107 2 af).trans ic) ?_;rintro n ⟨d,iu⟩ hn hI;dsimp only at hI;have hw:=iv hn hb.1.1;have hacc:iu.length≤r.length:=by rw[←hI,cz];omega
 simp-dsimp[go_sem,hN];refine gy ?_ ?_<;>intro hc<;>simp at hc
 ·rw[ji hc,yy]at hI;have hrn:=hr _ (c9 hc);have qta:=congrArg List.length hI;simp only[cz]at qta;have hgt:(!ju l[n].key k&&!decide (l[n].key=k))=ju k l[n].key:=by
   have:=xmi k l[n].key;rw[←Bool.not_or,this,Bool.not_not]
  obtain⟨q,hq⟩:∃q,l[n]=q:=⟨_,rfl⟩
  rw[hq]at hI hrn qta hgt;have hkq:∀x:LQ,LQ.c x=[S x.key,.slice (x.reqs.map LReq.c)]:=fun _=>rfl;simp-dsimp[go_sem,hN,hc,LQ.c,hq,hgt];refine gy ?_ ?_<;>intro hg<;>simp at hg
  ·have ii:¬q.key=k:=fun e=>by rw[e,qbx]at hg;simp at hg
   rw[if_pos cf,if_neg ii,hg.1,hg.2]at hI;rw[if_pos cf,if_neg ii,hg.1,hg.2]at qta;simp only[d5,ee]at qta;simp-dsimp[go_sem,hN];refine ia (xc7 [] t w ae) ?_;simp-dsimp[go_sem,hN,hc,hq,ii,LQ.c,hw];refine⟨aa,aa,.inr ⟨iu++[⟨k,[⟨t,w⟩]⟩,q],?_,?_⟩⟩
   ·rw[←hI];simp
   ·simp only[dz,cz,c8,e6,d5,ee,hkq];exact ic
  ·have hd:(d||ju k q.key)=d:=by
    cases d with
    |true=>rfl
    |false=>simpa using hg
   rw[if_neg cf,hd,ej]at hI;rw[if_neg cf]at qta;by_cases he:q.key=k
   ·rw[if_pos he,decide_eq_true he,Bool.or_true]at hI;rw[if_pos he]at qta;simp only[d5,ee]at qta;simp-dsimp[go_sem,hN,hc,hq,he,LQ.c];refine ia (xc7 q.reqs t w hrn) ?_;simp-dsimp[go_sem,hN,hw];refine⟨aa,hc,.inr ⟨iu++[⟨k,q.reqs++[⟨t,w⟩]⟩],?_,?_⟩⟩
    ·rw[←hI];simp
    ·simp only[dz,cz,c8,e6,d5,ee,hkq];exact ic
   ·rw[if_neg he,decide_eq_false he,Bool.or_false]at hI;rw[if_neg he]at qta;simp only[d5,ee]at qta;cases d
    ·simp-dsimp[go_sem,hN,hc,hq,he,LQ.c,hw];refine⟨aa,.inl ⟨iu++[q],?_,?_⟩⟩
     ·rw[←hI];simp
     ·simp only[dz,cz,c8,e6,d5,ee,hkq];exact ic
    ·simp-dsimp[go_sem,hN,hc,hq,he,LQ.c,hw];refine⟨aa,.inr ⟨iu++[q],?_,?_⟩⟩
     ·rw[←hI];simp
     ·simp only[dz,cz,c8,e6,d5,ee,hkq];exact ic
 ·rw[cv aa,yy]at hI;cases d with
  |true =>
   simp only[if_true,e8]at hI;subst hI;simp-dsimp[go_sem,hN]
  |false =>
   simp only[fw,if_false]at hI;have qta:=congrArg List.length hI;simp only[cz,d5,ee]at qta;simp-dsimp[go_sem,hN];refine ia (xc7 [] t w ae) ?_;simp-dsimp[go_sem,hN,LQ.c];rw[←hI];refine⟨aa,?_⟩;simp[LQ.c]
theorem ja9(q:List LReq)(t:Int):APure prog 146 [.slice (q.map LReq.c),I t] (.slice ((rh t q).map iw)):=by
 refine ik func146 ntmps146 rfl ac rfl rfl fun E h hN hh hu hb=>?_;simp[go_sem]at hb;simp-dsimp[go_sem,hN];refine ia (qd3 q t) ?_;rcases xdw t q with⟨h1,h2⟩|⟨m,hm,h1,h2⟩
 ·rw[h2,show ni (r6 t) q = -1 from h1];simp-dsimp[go_sem,hN];refine jl 0 (fun _=>True) (fun n=>⟨[(5,I (-1)),(6,.nils),(7,I n)],h⟩) trivial ic ?_;intro n hn _;have:n=0:=aa;subst this;simp-dsimp[go_sem,hN]
 ·rw[h2,show ni (r6 t) q=(m:Int)from h1];simp-dsimp[go_sem,hN];obtain⟨F,hF⟩:∃F:Nat→List Int,F=fun n=>((q.take n).filter fun x=>x.w||q[m].w).map (·.t):=⟨_,rfl⟩
  have hFm:∀n,n≤m→(F n).length≤n:=fun n hn=>by
   rw[hF];simp only[ew];have:=qlf (fun x=>x.w||q[m].w) (q.take n);rw[du]at this;omega
  have w6:∀n (hn:n<q.length),F (n+1)=F n++if q[n].w||q[m].w then [q[n].t]else []:=fun n hn=>by
   rw[hF];simp only[eg hn,gw,dz];congr 1;rcases h:q[n].w||q[m].w with _|_<;>simp[h]
  have hF0:F 0=[]:=qgm;have xh:((q.take m).filter fun x=>x.w||q[m].w).map (·.t)=F m:=by rw[hF]
  rw[xh];refine jl m (fun _=>True) (fun n=>⟨[(0,.slice (q.map LReq.c)),(5,I m),(6,.own h.length (F n).length),(7,I n)],h++[.arr 3 1 ((F n).map iw)]⟩) trivial ((qm4 E _ 6 3 1 af).trans qfu) ?_;intro n hn _;have hw:=iv hn (show _≤68719476736 by omega);simp-dsimp[go_sem,hN];refine gy ?_ ?_<;>intro hc<;>simp at hc
  ·have hnq:n<q.length:=aa;have h9:=hFm n hn;simp-dsimp[go_sem,hN,hnq,hm,LReq.c];refine gy ?_ ?_<;>intro hg<;>try simp at hg
   ·simp-dsimp[go_sem,hN,hw,hnq,LReq.c];have tj:F (n+1)=F n++[q[n].t]:=qhu;refine⟨aa,hc,?_⟩;rw[tj,dz,cz];exact ic
   ·simp-dsimp[go_sem,hN,hw];have tj:F (n+1)=F n:=qgn;refine⟨hc,?_⟩;rw[tj];exact ic
  ·have:n=m:=aa;subst this;simp-dsimp[go_sem,hN]
theorem xee(t:LT):APure prog 55 [.agg t.c] (Bo (zf t)):=by
 refine ik func55 ntmps55 rfl ac rfl rfl fun E h hN hh hu hb=>?_;simp[go_sem,LT.c]at hb;obtain⟨R,hR⟩:∃R,zf t=R:=⟨_,rfl⟩
 rw[hR];unfold zf at hR;simp-dsimp[go_sem,hN,LT.c];refine ia (xj9 t.glob) ?_;simp-dsimp[go_sem,hN];refine gy ?_ ?_<;>intro ha<;>simp at ha
 ·rw[ha]at hR;simp at hR;subst hR;simp-dsimp[go_sem,hN]
 ·rw[ha,fh]at hR;subst hR;simp-dsimp[go_sem,hN];refine jl t.qs.length (fun n=>yd t.glob ((nv t.qs n).map (·.key)) (t.qs.drop n)=yd t.glob none t.qs) (fun n=>⟨[(1,P0 h.length),(3,I n)],h++[.cells [.slice (t.glob.map LReq.c),.slice (t.qs.map LQ.c)]]⟩) qg6 ic ?_
  intro n hn hI;have hw:=iv hn (show _≤68719476736 by omega);simp-dsimp[go_sem,hN];refine gy ?_ ?_<;>intro hc<;>simp at hc
  ·rw[ji hc,yd]at hI;simp-dsimp[go_sem,hN,hc,LQ.c];refine kf 17 mixed ac ac ?_;simp-dsimp[go_sem,hN];refine ku (qeb _) ae ?_;have zo:rk t.qs[n].key=true→after ((nv t.qs n).map (·.key)) t.qs[n].key=true→t.qs[n].reqs≠[]→yt none t.qs[n].reqs=true →
     ((t.qs[n].reqs.all fun r=>y4 t.glob r.t)&&yd t.glob (some t.qs[n].key) (t.qs.drop (n+1)))=yd t.glob none t.qs:=fun h1 h2 h3 h4=>by
    have h5:t.qs[n].reqs.isEmpty=false:=by cases hq:t.qs[n].reqs with|nil=>exact(h3 hq).elim|cons=>rfl
    rw[h1,h2,h4,h5]at hI;simpa using hI
   have iz:(rk t.qs[n].key=false∨after ((nv t.qs n).map (·.key)) t.qs[n].key=false∨t.qs[n].reqs=[]∨yt none t.qs[n].reqs=false)→yd t.glob none t.qs=false:=fun h1=>by
    rw[←hI];rcases h1 with h1|h1|h1|h1<;>simp[h1]
   have jr:t.qs[n].reqs.length≤68719476736:=by
    have:=(qyo.1 hb.2.2) _ (dk.2 ⟨_,c9 hc,rfl⟩);have h9:t.qs[n].key.size≤68719476736∧t.qs[n].reqs.length≤68719476736∧qwl (t.qs[n].reqs.map LReq.c):=by simpa[LQ.c,yz,AV.bd]using this
    exact h9.2.1
   cases n with
   |zero =>
    simp-dsimp[go_sem,hN];refine ka (xj9 _) ae ?_;simp-dsimp[go_sem,hN];refine gy ?_ ?_<;>intro hg<;>simp at hg
    ·simp-dsimp[go_sem,hN];exact iz (by grind[nv,after])
    ·have mt:=zo ax (by simp[nv,after]) ax ax;clear zo iz;simp-dsimp[go_sem,hN];refine jl t.qs[0].reqs.length (fun k=>((t.qs[0].reqs.drop k).all fun r=>y4 t.glob r.t)=t.qs[0].reqs.all fun r=>y4 t.glob r.t) (fun k=>⟨[(1,P0 h.length),(3,I (0:Nat)),(4,P0 (h.length+1)),(5,I k)],h++[.cells [.slice (t.glob.map LReq.c),.slice (t.qs.map LQ.c)],AObj.cells [S (t.qs[0]'hc).key,.slice ((t.qs[0]'hc).reqs.map LReq.c)]]⟩) ae ic ?_;intro k hk hJ;have hwk:=iv hk jr;simp-dsimp[go_sem,hN];refine gy ?_ ?_<;>intro hd<;>simp at hd
     ·rw[ji hd,qll]at hJ;simp-dsimp[go_sem,hN,hd,LReq.c];refine kf 8 mixed ac ac ?_;simp-dsimp[go_sem,hN,hd,LReq.c];refine ia (qd3 t.glob _) ?_;rcases xgb (g:=t.glob) (t:=t.qs[0].reqs[k].t)with⟨h1,h2⟩|⟨j,hj,h1,h2⟩
      ·rw[h1];rw[h2,qlu]at hJ;simp-dsimp[go_sem,hN];rw[←mt,←hJ,qlu]
      ·rw[h1];simp-dsimp[go_sem,hN,hj,LReq.c];refine gy ?_ ?_<;>intro v6<;>simp at v6
       ·have hg3:t.glob[j].w=true:=v6.elim (fun h9=>by omega) id;rw[h2,hg3]at hJ;simp-dsimp[go_sem,hN];rw[←mt,←hJ];simp
       ·simp-dsimp[go_sem,hN,hwk];exact⟨hd,qia,ic⟩
     ·rw[cv aa,ql7]at hJ;rw[←hJ,fh]at mt;simp-dsimp[go_sem,hN,hw];exact⟨hc,qhz,ic⟩
   |succ m =>
    have hm:m<t.qs.length:=aa;have oi:=qve (fp hm) hb.2.1;have hpv:(nv t.qs (m+1)).map (·.key)=some t.qs[m].key:=by simp[nv,hm]
    rw[hpv]at iz zo;simp only[after]at iz zo;rw[xb6]at iz zo;simp at hw;simp-dsimp[go_sem,hN,oi,hm,LQ.c];refine ka (xj9 _) ae ?_;simp-dsimp[go_sem,hN,oi,hm,LQ.c];refine gy ?_ ?_<;>intro hg<;>simp at hg
    ·simp-dsimp[go_sem,hN];exact iz qkp
    ·have mt:=zo ax qkp ax ax;clear zo iz;simp-dsimp[go_sem,hN];refine jl t.qs[m+1].reqs.length (fun k=>((t.qs[m+1].reqs.drop k).all fun r=>y4 t.glob r.t)=t.qs[m+1].reqs.all fun r=>y4 t.glob r.t) (fun k=>⟨[(1,P0 h.length),(3,I (m+1:Nat)),(4,P0 (h.length+1)),(5,I k)],h++[.cells [.slice (t.glob.map LReq.c),.slice (t.qs.map LQ.c)],AObj.cells [S (t.qs[m+1]'hc).key,.slice ((t.qs[m+1]'hc).reqs.map LReq.c)]]⟩) ae ic ?_;intro k hk hJ;have hwk:=iv hk jr;simp-dsimp[go_sem,hN];refine gy ?_ ?_<;>intro hd<;>simp at hd
     ·rw[ji hd,qll]at hJ;simp-dsimp[go_sem,hN,hd,LReq.c];refine kf 8 mixed ac ac ?_;simp-dsimp[go_sem,hN,hd,LReq.c];refine ia (qd3 t.glob _) ?_;rcases xgb (g:=t.glob) (t:=t.qs[m+1].reqs[k].t)with⟨h1,h2⟩|⟨j,hj,h1,h2⟩
      ·rw[h1];rw[h2,qlu]at hJ;simp-dsimp[go_sem,hN];rw[←mt,←hJ,qlu]
      ·rw[h1];simp-dsimp[go_sem,hN,hj,LReq.c];refine gy ?_ ?_<;>intro v6<;>simp at v6
       ·have hg3:t.glob[j].w=true:=v6.elim (fun h9=>by omega) id;rw[h2,hg3]at hJ;simp-dsimp[go_sem,hN];rw[←mt,←hJ];simp
       ·simp-dsimp[go_sem,hN,hwk];exact⟨hd,qia,ic⟩
     ·rw[cv aa,ql7]at hJ;rw[←hJ,fh]at mt;simp-dsimp[go_sem,hN,hw];exact⟨hc,qhz,ic⟩
  ·rw[cv aa,yd]at hI;simp-dsimp[go_sem,hN,←hI]
theorem xx6(q:List LReq)(t:Int)(h:gz):ACalls prog 146 [.slice (q.map LReq.c),I t] h fun r h'=>r=.ret (.own h.length (rh t q).length)∧h'=h++[.uarr 3 1 ((rh t q).map iw)]:=by
 refine lw func146 ntmps146 rfl ac rfl fun E hN hh hu hb il kr=>?_;simp[go_sem]at hb;simp-dsimp[go_sem,hN];refine ia (qd3 q t) ?_;rcases xdw t q with⟨h1,h2⟩|⟨m,hm,h1,h2⟩
 ·rw[h2,show ni (r6 t) q = -1 from h1];simp-dsimp[go_sem,hN];refine jl 0 (fun _=>True) (fun n=>⟨[(5,I (-1)),(6,.own h.length 0),(7,I n)],h++[.uarr 3 1 []]⟩) trivial ((xr7 E _ 6 3 1 af).trans ic) ?_;intro n hn _;have:n=0:=aa;subst this;simp-dsimp[go_sem,hN]
  trace_state
  exact⟨_,.refl _,h++[AObj.uarr 3 1 []],af,hwk.refl _,ae,bj,af,rfl⟩
 ·rw[h2,show ni (r6 t) q=(m:Int)from h1];simp-dsimp[go_sem,hN];obtain⟨F,hF⟩:∃F:Nat→List Int,F=fun n=>((q.take n).filter fun x=>x.w||q[m].w).map (·.t):=⟨_,rfl⟩
  have hFm:∀n,n≤m→(F n).length≤n:=fun n hn=>by
   rw[hF];simp only[ew];have:=qlf (fun x=>x.w||q[m].w) (q.take n);rw[du]at this;omega
  have w6:∀n (hn:n<q.length),F (n+1)=F n++if q[n].w||q[m].w then [q[n].t]else []:=fun n hn=>by
   rw[hF];simp only[eg hn,gw,dz];congr 1;rcases h:q[n].w||q[m].w with _|_<;>simp[h]
  have hF0:F 0=[]:=qgm;have xh:((q.take m).filter fun x=>x.w||q[m].w).map (·.t)=F m:=by rw[hF]
  rw[xh];refine jl m (fun _=>True) (fun n=>⟨[(0,.slice (q.map LReq.c)),(5,I m),(6,.own h.length (F n).length),(7,I n)],h++[.uarr 3 1 ((F n).map iw)]⟩) trivial ((xr7 E _ 6 3 1 af).trans qfu) ?_;intro n hn _;have hw:=iv hn (show _≤68719476736 by omega);simp-dsimp[go_sem,hN];refine gy ?_ ?_<;>intro hc<;>simp at hc
  ·have hnq:n<q.length:=aa;have h9:=hFm n hn;simp-dsimp[go_sem,hN,hnq,hm,LReq.c];refine gy ?_ ?_<;>intro hg<;>try simp at hg
   ·simp-dsimp[go_sem,hN,hw,hnq,LReq.c];have tj:F (n+1)=F n++[q[n].t]:=qhu;refine⟨aa,hc,?_⟩;rw[tj,dz,cz];exact ic
   ·simp-dsimp[go_sem,hN,hw];have tj:F (n+1)=F n:=qgn;refine⟨hc,?_⟩;rw[tj];exact ic
  ·have:n=m:=aa;subst this;simp-dsimp[go_sem,hN];exact⟨_,.refl _,h++[AObj.uarr 3 1 ((F n).map iw)],af,hwk.refl _,ae,bj,af,rfl⟩
theorem jhw(T:LT)(t:Int)(hv:zf T=true)(hl:T.glob.length+qa T.qs<68719476736):APure prog 110 [.agg T.c,I t] (.slice ((qz6 T t).map iw)):=by
 refine qbn func110 rfl ac (by simp[ntmps110]) rfl ?_;intro E h hN hh hu hb;rw[ntmps110]at hN;simp[go_sem,LT.c]at hb;refine ln (ub ?_);simp[go_sem,hN,LT.c];refine zy (e1:=⟨[(1,I t),(2,P0 h.length)],h++[.cells [.slice (T.glob.map LReq.c),.slice (T.qs.map LQ.c)]]⟩) ?_ ?_
 ·simp-dsimp[go_sem,hN];refine ia (xee T) ?_;simp-dsimp[go_sem,hN,hv];exact Wk.slots bb
 refine zy (e1:=⟨[(1,I t),(2,P0 h.length),(5,.own (h.length+1) (rh t T.glob).length)],h++[.cells [.slice (T.glob.map LReq.c),.slice (T.qs.map LQ.c)],.uarr 3 1 ((rh t T.glob).map iw)]⟩) ?_ ?_
 ·simp-dsimp[go_sem,hN];refine it (xx6 T.glob t _) ?_;rintro r h' ⟨rfl,rfl⟩;simp-dsimp[go_sem,hN];exact Wk.slots bb
 obtain⟨F,hF⟩:∃F:Nat→List Int,F=fun n=>rh t T.glob++(T.qs.take n).flatMap fun q=>rh t q.reqs:=⟨_,rfl⟩
 have hF0:rh t T.glob=F 0:=qgm;have w6:∀n (hn:n<T.qs.length),F n++rh t T.qs[n].reqs=F (n+1):=fun n hn=>by
  rw[hF];simp only[eg hn,List.flatMap_append,List.flatMap_cons,List.flatMap_nil,e8,dr]
 have zu:∀n,(F n).length≤T.glob.length+qa (T.qs.take n):=fun n=>by
  rw[hF];have h1:=xdg t T.glob;have h2:=xk4 t (T.qs.take n);simp only[cz];omega
 have xh:F T.qs.length=pb T t:=by rw[hF];simp[pb]
 rw[hF0];refine zy (e1:=⟨[(1,I t),(2,P0 h.length),(5,.own (h.length+1) (pb T t).length)],h++[.cells [.slice (T.glob.map LReq.c),.slice (T.qs.map LQ.c)],.uarr 3 1 ((pb T t).map iw)]⟩) ?_ ?_
 ·simp-dsimp[go_sem,hN];refine jl T.qs.length (fun _=>True) (fun n=>⟨[(1,I t),(2,P0 h.length),(5,.own (h.length+1) (F n).length),(6,I n)],h++[.cells [.slice (T.glob.map LReq.c),.slice (T.qs.map LQ.c)],.uarr 3 1 ((F n).map iw)]⟩) trivial (Wk.slots bb) ?_;intro n hn _;have hw:=iv hn hb.2.1;simp-dsimp[go_sem,hN];refine gy ?_ ?_<;>intro hc<;>simp at hc
  ·have h1:=zu n;have h2:=xn1 hc;have h3:=xdg t T.qs[n].reqs;have h4:=w6 n hc;simp-dsimp[go_sem,hN,hc,LQ.c];refine ia (ja9 T.qs[n].reqs t) ?_;simp-dsimp[go_sem,hN,hw];refine⟨aa,hc,?_⟩;rw[←h4,dz,cz];exact Wk.slots bb
  ·have ii:n=T.qs.length:=aa;subst ii;simp-dsimp[go_sem,hN];rw[xh];exact Wk.slots bb
 refine AWp.wk (zt E ⟨[(1,I t),(2,P0 h.length),(5,.own (h.length+1) (pb T t).length)],h++[.cells [.slice (T.glob.map LReq.c),.slice (T.qs.map LQ.c)],.uarr 3 1 ((pb T t).map iw)]⟩ (i:=h.length+1) (t:=3) (sz:=1) (rows:=(pb T t).map iw) ae) ?_;apply na;simp-dsimp[go_sem,hN];obtain⟨G,hG⟩:∃G:Nat→List Int,G=fun n=>((T.glob.take n).filter fun r=>(pb T t).any fun y=>decide (y=r.t)).map (·.t):=⟨_,rfl⟩
 have hG0:G 0=[]:=qkx;have hG1:∀n (hn:n<T.glob.length),G (n+1)=G n++if (pb T t).any (fun y=>decide (y=T.glob[n].t))then [T.glob[n].t]else []:=fun n hn=>by
  rw[hG];simp only[eg hn,gw,dz];congr 1;rcases h:(pb T t).any (fun y=>decide (y=T.glob[n].t))with _|_<;>simp[h]
 have hGl:∀n,(G n).length≤n:=fun n=>by
  rw[hG,ew];refine d9 (qlf _ _) ?_;rw[du];omega
 have hGe:G T.glob.length=qz6 T t:=by rw[hG];simp[qz6]
 refine jl T.glob.length (fun _=>True) (fun n=>⟨[(2,P0 h.length),(5,.own (h.length+1) (pb T t).length),(7,.own (h.length+2) (G n).length),(8,I n)],h++[.cells [.slice (T.glob.map LReq.c),.slice (T.qs.map LQ.c)],.arr 3 1 ((pb T t).map iw),.arr 3 1 ((G n).map iw)]⟩) trivial ((qm4 E _ 7 3 1 af).trans (by rw[hG0];exact ic)) ?_;intro n hn _;have hw:=iv hn hb.1.1;have h9:=hGl n;simp-dsimp[go_sem,hN];refine gy ?_ ?_<;>intro hc<;>simp at hc
 ·simp-dsimp[go_sem,hN,hc,LReq.c];refine ia (jge (pb T t) T.glob[n].t) ?_;simp-dsimp[go_sem,hN];refine gy (fun hg=>?_) (fun hg=>?_)
  ·have hG2:G (n+1)=G n++[T.glob[n].t]:=by rw[hG1 n hc,if_pos hg]
   simp-dsimp[go_sem,hN,hw,hc,LReq.c];refine⟨aa,?_⟩;rw[hG2,dz,cz];exact ic
  ·have hG2:G (n+1)=G n:=by rw[hG1 n hc,hg];simp
   simp-dsimp[go_sem,hN,hw];refine⟨hc,?_⟩;rw[hG2];exact ic
 ·have ii:n=T.glob.length:=aa;subst ii;simp-dsimp[go_sem,hN];simp[hGe]
theorem jcf(T:LT)(t:Int)(hv:zf T=true)(hl:T.glob.length+qa T.qs<68719476736):APure prog 62 [.agg T.c,I t] (Bo (qvs T t)):=by
 refine ik func62 ntmps62 rfl ac rfl rfl fun E h hN hh hu hb=>?_;simp[go_sem,LT.c]at hb;simp-dsimp[go_sem,hN,LT.c];refine ia (xee T) ?_;simp-dsimp[go_sem,hN,hv];refine ka (qd3 T.glob t) ae ?_;simp-dsimp[go_sem,hN];refine ka (jhw T t hv hl) ae ?_;simp-dsimp[go_sem,hN]
 trace_state
 simp[qvs]
theorem jhh(T:LT)(hv:zf T=true)(hl:T.glob.length+qa T.qs<68719476736):APure prog 30 [.agg T.c] (.slice (((T.glob.filter fun r=>qvs T r.t).map (·.t)).map iw)):=by
 refine ik func30 ntmps30 rfl ac rfl rfl fun E h hN hh hu hb=>?_;simp[go_sem,LT.c]at hb;simp-dsimp[go_sem,hN,LT.c];obtain⟨G,hG⟩:∃G:Nat→List Int,G=fun n=>((T.glob.take n).filter fun r=>qvs T r.t).map (·.t):=⟨_,rfl⟩
 have hG0:G 0=[]:=qkx;have hG1:∀n (hn:n<T.glob.length),G (n+1)=G n++if qvs T T.glob[n].t then [T.glob[n].t]else []:=fun n hn=>by
  rw[hG];simp only[eg hn,gw,dz];congr 1;rcases h:qvs T T.glob[n].t with _|_<;>simp[h]
 have hGl:∀n,(G n).length≤n:=fun n=>by
  rw[hG,ew];refine d9 (qlf _ _) ?_;rw[du];omega
 have hGe:G T.glob.length=(T.glob.filter fun r=>qvs T r.t).map (·.t):=qkx
 rw[←hGe];refine jl T.glob.length (fun _=>True) (fun n=>⟨[(1,P0 h.length),(3,.own (h.length+1) (G n).length),(4,I n)],h++[.cells [.slice (T.glob.map LReq.c),.slice (T.qs.map LQ.c)],.arr 3 1 ((G n).map iw)]⟩) trivial ((qm4 E _ 3 3 1 af).trans (by rw[hG0];exact ic)) ?_;intro n hn _;have hw:=iv hn hb.1.1;have h9:=hGl n;simp-dsimp[go_sem,hN];refine gy ?_ ?_<;>intro hc<;>simp at hc
 ·simp-dsimp[go_sem,hN,hc,LReq.c];refine kf 7 mixed ac ac ?_;simp-dsimp[go_sem,hN,hc,LReq.c];refine ia (jcf T T.glob[n].t hv hl) ?_;simp-dsimp[go_sem,hN];refine gy (fun hg=>?_) (fun hg=>?_)
  ·have hG2:G (n+1)=G n++[T.glob[n].t]:=by rw[hG1 n hc,if_pos hg]
   simp-dsimp[go_sem,hN,hw,hc,LReq.c]
   trace_state
   refine⟨aa,?_⟩;rw[hG2,dz,cz];exact ic
  ·have hG2:G (n+1)=G n:=by rw[hG1 n hc,hg];simp
   simp-dsimp[go_sem,hN,hw];refine⟨hc,?_⟩;rw[hG2];exact ic
 ·have ii:n=T.glob.length:=aa;subst ii;simp-dsimp[go_sem,hN]
theorem jbf(T:LT)(t:Int)(hv:zf T=true)(hix:0≤ni (r6 t) T.glob)(hl:T.glob.length<68719476736)(hq:T.qs.length<68719476736)(hr:∀x∈T.qs,x.reqs.length<68719476736) :
  APure prog 33 [.agg T.c,I t] (.tuple [.agg (qtf t T).c,I 0]):=by
 refine ik func33 ntmps33 rfl ac rfl rfl fun E h hN hh hu hb=>?_;simp[go_sem,LT.c]at hb;simp-dsimp[go_sem,hN,LT.c];refine ia (xee T) ?_;simp-dsimp[go_sem,hN,hv];refine ia (qd3 T.glob t) ?_;have hix2:¬ni (r6 t) T.glob<0:=aa;simp-dsimp[go_sem,hN,hix2];refine ia (xpz T.glob t) ?_;simp-dsimp[go_sem,hN];obtain⟨F,hF⟩:∃F:Nat→List LQ,F=fun n=>ud t (T.qs.take n):=⟨_,rfl⟩
 have hF0:F 0=[]:=by rw[hF];simp[ud]
 have w6:∀n (hn:n<T.qs.length),F (n+1)=F n++if (re t T.qs[n].reqs).length=0 then []else [⟨T.qs[n].key,re t T.qs[n].reqs⟩]:=fun n hn=>by
  rw[hF];simp only[eg hn,xln]
 have zu:∀n,(F n).length≤n:=fun n=>by
  rw[hF];refine d9 (xj7 t _) ?_;rw[du];omega
 have xh:F T.qs.length=ud t T.qs:=qgm;refine jl T.qs.length (fun _=>True) (fun n=>⟨[(1,I t),(2,P0 h.length),(4,P0 (h.length+1)),(6,P0 (h.length+2)),(7,I n)],h++[.cells [.slice (T.glob.map LReq.c),.slice (T.qs.map LQ.c)],.cells [.nils,.nils],.cells [.slice ((re t T.glob).map LReq.c),.own (h.length+3) (F n).length],.arr 107 2 ((F n).map LQ.c)]⟩) trivial
  ((qwi E _ (p:=h.length+2) (j:=1) (t:=107) (sz:=2) (xs:=[.slice ((re t T.glob).map LReq.c),.nils]) ae ae).trans qfu) ?_
 intro n hn _;have hw:=iv hn aa;simp-dsimp[go_sem,hN];refine gy ?_ ?_<;>intro hc<;>simp at hc
 ·simp-dsimp[go_sem,hN,hc,LQ.c];refine kf 16 mixed ac ac ?_;simp-dsimp[go_sem,hN,hc,LQ.c]
  trace_state
  refine ku (xpz T.qs[n].reqs t) ae ?_;simp-dsimp[go_sem,hN,hc,LQ.c];have h9:=zu n;refine gy ?_ ?_<;>intro hg<;>simp at hg
  ·have tj:F (n+1)=F n++[⟨T.qs[n].key,re t T.qs[n].reqs⟩]:=by rw[w6 n hc,if_neg aa]
   simp-dsimp[go_sem,hN,hw,LQ.c];refine⟨aa,hc,?_⟩;rw[tj,dz,cz,c8,e6,show LQ.c ⟨T.qs[n].key,re t T.qs[n].reqs⟩=[S T.qs[n].key,.slice ((re t T.qs[n].reqs).map LReq.c)]from rfl];exact(ic qi7)
  ·have tj:F (n+1)=F n:=qih;simp-dsimp[go_sem,hN,hw];refine⟨hc,?_⟩;rw[tj];exact(ic qi7)
 ·have ii:n=T.qs.length:=aa;subst ii;simp-dsimp[go_sem,hN];simp[xh,qtf,LT.c]
theorem xph{k:g9}:∀{l:List g9} {n:Nat},n≤jv k l→jv k (l.drop n)+n=jv k l
 |l,0,_=>by simp
 | [],n+1,h=>by simp[jv]at h
 |x::l,n+1,h=>by
  rw[jv]at h⊢;split at h
  ·rename_i hx;rw[if_pos hx,List.drop_succ_cons,←xph (l:=l) (n:=n) aa];omega
  ·omega
theorem xoq(l:List g9)(k:g9)(hl:l.length<68719476736):APure prog 145 [.slice (l.map im),S k] (.slice ((qot k l).map im)):=by
 refine ik func145 ntmps145 rfl ac rfl rfl fun E h hN hh hu hb=>?_;simp[go_sem]at hb;simp-dsimp[go_sem,hN];obtain⟨p,hp⟩:∃p,jv k l=p:=⟨_,rfl⟩
 have ve:p≤l.length:=hp▸qt4 k l;refine jl l.length (fun n=>n≤p) (fun n=>⟨[(0,.slice (l.map im)),(1,S k),(5,I n)],h⟩) (di _) ic ?_;intro n hn hI;have hw:=iv hn (show _≤68719476736 by omega);have mj:=xph (k:=k) (l:=l) (n:=n) aa;rcases d8 n l.length with hc|hc
 ·rw[ji hc,jv]at mj;simp-dsimp[go_sem,hN,hc];refine gy (fun hg=>?_) (fun hg=>?_)
  ·rw[if_pos hg]at mj;simp-dsimp[go_sem,hN,hw];exact⟨hc,aa,ic⟩
  ·rw[if_neg cf]at mj;have hnp:n=p:=aa;subst hnp;have qg:l[n]?=some l[n]:=da hc;simp-dsimp[go_sem,hN,hc];refine gy ?_ ?_<;>intro h1<;>simp at h1
   ·have hi:qot k l=l:=by unfold qot;rw[hp,qg,h1];simp
    rw[hi];simp-dsimp[go_sem,hN]
   ·have hi:qot k l=l.take n++k::l.drop n:=by unfold qot;rw[hp,qg,if_neg av]
    rw[hi];simp-dsimp[go_sem,hN,hc];refine⟨aa,aa,aa,aa,aa,aa⟩
 ·have hnp:n=l.length∧p=l.length:=aa;obtain⟨rfl,hnp⟩:=hnp;have hi:qot k l=l++[k]:=by unfold qot;rw[hp,hnp,fa (ct _)];simp
  rw[hi];simp-dsimp[go_sem,hN];exact⟨aa,aa⟩
theorem jc2(k:g9)(l:List g9):(qot k l).length≤l.length+1:=by
 unfold qot;split
 ·omega
 ·have:=qt4 k l;simp;omega
theorem qz0:∀(ks l:List g9),(qe ks l).length≤l.length+ks.length
 | [],l=>ct _
 |k::ks,l=>by
  have h1:=qz0 ks (qot k l);have h2:=jc2 k l;simp only[qe,fu,d5]at h1⊢;omega
theorem xwq{ks l:List g9}{n:Nat}(h:n<ks.length):qe (ks.take (n+1)) l=qot ks[n] (qe (ks.take n) l):=by
 unfold qe;rw[eg h,ql0];rfl
theorem jk0(l:List g9)(hl:l.length<34359738368):APure prog 144 [.slice (l.map im)] (.slice ((qe l []).map im)):=by
 refine ik func144 ntmps144 rfl ac rfl rfl fun E h hN hh hu hb=>?_;simp[go_sem]at hb;simp-dsimp[go_sem,hN];refine jl l.length (fun n=>True) (fun n=>⟨[(0,.slice (l.map im)),(3,.slice ((qe (l.take n) []).map im)),(4,I n)],h⟩) trivial (ic (by simp[go_sem,qe])) ?_;intro n hn _;have hw:=iv hn hb.1;simp-dsimp[go_sem,hN];refine gy ?_ ?_<;>intro hc<;>simp at hc
 ·have h1:=qz0 (l.take n) [];have h2:=@xwq l [] n hc;simp only[ee,du]at h1;simp-dsimp[go_sem,hN,hc];refine ia (xoq (qe (l.take n) []) l[n] aa) ?_;rw[←h2];simp-dsimp[go_sem,hN,hw];exact⟨hc,ic⟩
 ·have ii:n=l.length:=aa;subst ii;simp-dsimp[go_sem,hN]
theorem jc0(l m:List g9)(hl:l.length<34359738368)(hm:m.length<34359738368):APure prog 109 [.slice (l.map im),.slice (m.map im)] (.slice ((qe m (qe l [])).map im)):=by
 refine ik func109 ntmps109 rfl ac rfl rfl fun E h hN hh hu hb=>?_;simp[go_sem]at hb;simp-dsimp[go_sem,hN];refine ia (jk0 l hl) ?_;simp-dsimp[go_sem,hN];have h0:=qz0 l [];simp only[ee]at h0;refine jl m.length (fun n=>True) (fun n=>⟨[(1,.slice (m.map im)),(5,.slice ((qe (m.take n) (qe l [])).map im)),(6,I n)],h⟩) trivial (ic (by simp[go_sem,qe])) ?_;intro n hn _;have hw:=iv hn (show _≤68719476736 by omega);simp-dsimp[go_sem,hN];refine gy ?_ ?_<;>intro hc<;>simp at hc
 ·have h1:=qz0 (m.take n) (qe l []);have h2:=@xwq m (qe l []) n hc;simp only[du]at h1;simp-dsimp[go_sem,hN,hc];refine ia (xoq (qe (m.take n) (qe l [])) m[n] aa) ?_;rw[←h2];simp-dsimp[go_sem,hN,hw];exact⟨hc,ic⟩
 ·have ii:n=m.length:=aa;subst ii;simp-dsimp[go_sem,hN]
theorem jer(f:Foot)(hf:my f.all f.reads f.writes=true)(hl:f.reads.length<34359738368)(hm:f.writes.length<34359738368):APure prog 59 [.agg f.c] (.slice ((qe f.writes (qe f.reads [])).map im)):=by
 refine ik func59 ntmps59 rfl ac rfl rfl fun E h hN hh hu hb=>?_;simp-dsimp[go_sem,hN,Foot.c];refine ia (qfd f) ?_;simp-dsimp[go_sem,hN,hf];refine ia (jc0 f.reads f.writes hl hm) ?_;simp-dsimp[go_sem,hN]
theorem jdr{n:Int}{w ks:List g9}{qs:List LQ}{m:Nat}(h:m<ks.length):qpt n w (ks.take (m+1)) qs=yy ks[m] ⟨n,jk w ks[m]⟩ false (qpt n w (ks.take m) qs):=by
 unfold qpt;rw[eg h,ql0];rfl
theorem xo6{k:g9}{r:LReq}{M:Nat}:∀(d:Bool) (l:List LQ),(∀x∈l,x.reqs.length≤M)→1≤M+1→∀x∈yy k r d l,x.reqs.length≤M+1
 |d,[],_,_,x,hx=>by
  cases d
  ·simp[yy]at hx;subst hx;simp
  ·simp[yy]at hx
 |d,q::l,h,h1,x,hx=>by
  rw[yy]at hx;rcases dt.1 hx with hx|hx
  ·rcases dt.1 hx with hx|hx
   ·split at hx
    ·simp at hx;subst hx;simp
    ·simp at hx
   ·split at hx
    ·simp at hx;subst hx;have:=h q ae;simp;omega
    ·simp at hx;subst hx;have:=h x ae;omega
  ·exact xo6 _ l (fun y hy=>h y cm) h1 x hx
theorem jha(gl:List LReq)(qs:List LQ)(n:Int)(f:Foot)(M:Nat)(hv:zf ⟨gl,qs⟩=true)(hf:my f.all f.reads f.writes=true)(h0:0≤n)(hix:ni (r6 n) gl = -1)(yj:∀(m:Nat) (hm:m<gl.length),m+1=gl.length→gl[m].t≤n)
  (x8:gl.length<68719476736) (hq:qs.length≤M) (hr:∀x∈qs,x.reqs.length≤M) (hM:M+(f.writes.length+f.reads.length)<34359738368) :
  APure prog 28 [.agg (LT.c ⟨gl,qs⟩),I n,.agg f.c] (.tuple [.agg (LT.c ⟨gl++[⟨n,f.all⟩],qpt n f.writes (qe f.writes (qe f.reads [])) qs⟩),I 0]):=by
 refine qbn func28 rfl ac (by simp[ntmps28]) rfl ?_;intro E h hN hh hu hb;rw[ntmps28]at hN;simp[go_sem,LT.c]at hb;refine ln (ub ?_);simp[go_sem,hN,LT.c,Foot.c];refine zy (e1:=⟨[(1,I n),(3,P0 h.length),(5,P0 (h.length+1)),(6,P0 (h.length+2)),(7,I 0)],h++[.cells [.slice (gl.map LReq.c),.slice (qs.map LQ.c)],.cells [Bo f.all,.slice (f.reads.map im),.slice (f.writes.map im)],.cells [.nils,.nils]]⟩) ?_ ?_
 ·simp-dsimp[go_sem,hN];refine ia (xee ⟨gl,qs⟩) ?_;simp-dsimp[go_sem,hN,hv];refine ka (qfd f) ae ?_;simp-dsimp[go_sem,hN,hf,h0];refine gy ?_ ?_<;>intro hc<;>simp at hc
  ·omega
  simp-dsimp[go_sem,hN];exact Wk.slots bb
 refine zy (e1:=⟨[(1,I n),(3,P0 h.length),(5,P0 (h.length+1)),(6,P0 (h.length+2)),(7,I 0)],h++[.cells [.slice (gl.map LReq.c),.slice (qs.map LQ.c)],.cells [Bo f.all,.slice (f.reads.map im),.slice (f.writes.map im)],.cells [.nils,.nils]]⟩) ?_ ?_
 ·simp-dsimp[go_sem,hN];refine ia (qd3 gl n) ?_;rw[hix];simp-dsimp[go_sem,hN];exact Wk.slots bb
 refine zy (e1:=⟨[(1,I n),(3,P0 h.length),(5,P0 (h.length+1)),(6,P0 (h.length+2)),(7,I 0)],h++[.cells [.slice (gl.map LReq.c),.slice (qs.map LQ.c)],.cells [Bo f.all,.slice (f.reads.map im),.slice (f.writes.map im)],.cells [.nils,.nils]]⟩) ?_ ?_
 ·rcases Nat.eq_zero_or_pos gl.length with hg0|hg0
  ·simp-dsimp[go_sem,hN,hg0];exact Wk.slots bb
  ·obtain⟨m,hm⟩:∃m,gl.length=m+1:=⟨gl.length - 1,aa⟩
   have hw:IntKind.i64.wrap (m:Int)=(m:Int):=qe6 aa aa;have sp:m<gl.length:=aa;have hl:=yj m sp hm.symm;have hgm:gl[m]?=some gl[m]:=da sp;simp-dsimp[go_sem,hN,hm,hw,hgm,LReq.c];refine gy ?_ ?_<;>intro hc<;>simp at hc
   ·omega
   simp-dsimp[go_sem,hN];exact Wk.slots bb
 apply na;simp-dsimp[go_sem,hN];refine kf 10 mixed ac ac ?_;simp-dsimp[go_sem,hN];refine ku (xc7 gl n f.all x8) ae ?_;simp-dsimp[go_sem,hN];refine ia (jer f hf aa aa) ?_;simp-dsimp[go_sem,hN];obtain⟨ks,hks⟩:∃ks,qe f.writes (qe f.reads [])=ks:=⟨_,rfl⟩
 have hkl:ks.length≤f.writes.length+f.reads.length:=by
  have h1:=qz0 f.writes (qe f.reads []);have h2:=qz0 f.reads [];simp only[ee]at h2;rw[←hks];omega
 rw[hks];have hwl:f.writes.length≤68719476736:=hb.2.2.1;refine jl ks.length (fun m=>(qpt n f.writes (ks.take m) qs).length≤M+m∧∀x∈qpt n f.writes (ks.take m) qs,x.reqs.length≤M+m)
  (fun m=>⟨[(1,I n),(5,P0 (h.length+1)),(6,P0 (h.length+2)),(8,P0 (h.length+3)),(9,.slice (ks.map im)),(10,I m)],h++[.cells [.slice (gl.map LReq.c),.slice (qs.map LQ.c)],.cells [Bo f.all,.slice (f.reads.map im),.slice (f.writes.map im)],.cells [.nils,.nils],.cells [.slice ((gl++[(⟨n,f.all⟩:LReq)]).map LReq.c),.slice ((qpt n f.writes (ks.take m) qs).map LQ.c)]]⟩) ⟨hq,hr⟩ ?_ ?_
 ·simp only[ql3,qpt,List.foldl_nil];exact ic
 rintro m hm ⟨uq,mt⟩;have hw:=iv hm (show _≤68719476736 by omega);simp-dsimp[go_sem,hN];refine gy ?_ ?_<;>intro hc<;>simp at hc
 ·have h2:=@jdr n f.writes ks qs m hc;obtain⟨Q,hQ⟩:∃Q,qpt n f.writes (ks.take m) qs=Q:=⟨_,rfl⟩
  rw[hQ]at uq mt h2⊢;have h3:=xh6 (k:=ks[m]) (r:=(⟨n,jk f.writes ks[m]⟩:LReq)) false Q;have h4:=xo6 (k:=ks[m]) (r:=(⟨n,jk f.writes ks[m]⟩:LReq)) (M:=M+m) false Q mt aa;rw[←h2]at h3 h4;simp only[fw,if_false]at h3;simp-dsimp[go_sem,hN,hc];refine kf 14 mixed ac ac ?_;simp-dsimp[go_sem,hN,hc];refine ku (xpy f.writes ks[m]) ae ?_;simp-dsimp[go_sem,hN];refine ia (jct Q ks[m] n (jk f.writes ks[m]) aa (fun x hx=>by have:=mt x hx;omega)) ?_;rw[←h2];simp-dsimp[go_sem,hN,hw];exact⟨⟨aa,fun x hx=>by have:=h4 x hx;omega⟩,Wk.slots bb⟩
 ·have hme:m=ks.length:=aa;subst hme;simp-dsimp[go_sem,hN]
end Go.Proofs.YtbimdamecieomaaGreatDoor
