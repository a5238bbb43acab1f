/- Part 38 of a proof. -/
import Derived.Shelf.Small.Strs
import Derived.Shelf.Strconv.Itoa4
import Derived.Lib.ItoaLen
import Derived.Test.YtbimdamecieomaaGreatDoorR27
import Derived.Test.YtbimdamecieomaaGreatDoorR37
set_option linter.all false
set_option maxRecDepth 4000
set_option maxHeartbeats 2000000
namespace Go.Proofs.YtbimdamecieomaaGreatDoor
open Go Go.Abs Go.Cw Tryz
theorem xpy(l:List g9)(k:g9):APure prog 61 [.slice (l.map im),S k] (Bo (jk l k)):=by
 refine ik func61 ntmps61 rfl ac rfl rfl fun E h hN hh hu hb=>?_;simp[go_sem]at hb;simp-dsimp[go_sem,hN];refine jl l.length (fun n=>jk (l.drop n) k=jk l k) (fun n=>⟨[(0,.slice (l.map im)),(1,S k),(5,I n)],h⟩) ae ic ?_;intro n hn hI;have hw:=iv hn hb.1.1;simp-dsimp[go_sem,hN];refine gy ?_ ?_<;>intro hc<;>simp at hc
 ·rw[ji hc,jk,mv]at hI;simp-dsimp[go_sem,hN,hc];refine gy ?_ ?_<;>intro hg<;>simp at hg
  ·simp-dsimp[go_sem,hN];simp[←hI,hg]
  ·simp-dsimp[go_sem,hN,hw];exact⟨hc,qh9,ic⟩
 ·rw[cv aa,jk,mv]at hI;simp-dsimp[go_sem,hN,←hI]
theorem xlp(a b:List g9):APure prog 72 [.slice (a.map im),.slice (b.map im)] (Bo (r9 a b)):=by
 refine ik func72 ntmps72 rfl ac rfl rfl fun E h hN hh hu hb=>?_;simp[go_sem]at hb;simp-dsimp[go_sem,hN];refine jl a.length (fun n=>((a.drop n).any fun k=>jk b k)=r9 a b) (fun n=>⟨[(0,.slice (a.map im)),(1,.slice (b.map im)),(5,I n)],h⟩) (by simp[r9]) ic ?_;intro n hn hI;have hw:=iv hn hb.1.1;simp-dsimp[go_sem,hN];refine gy ?_ ?_<;>intro hc<;>simp at hc
 ·rw[ji hc,List.any_cons]at hI;simp-dsimp[go_sem,hN,hc];refine ia (xpy b a[n]) ?_;simp-dsimp[go_sem,hN];refine gy (fun h1=>?_) (fun h1=>?_)
  ·simp-dsimp[go_sem,hN];rw[←hI,h1];simp
  ·simp-dsimp[go_sem,hN,hw];exact⟨hc,qkz,ic⟩
 ·rw[cv aa,List.any_nil]at hI;simp-dsimp[go_sem,hN,←hI]
theorem jfd(a b:Foot):APure prog 44 [.agg a.c,.agg b.c] (Bo (th a b)):=by
 refine ik func44 ntmps44 rfl ac rfl rfl fun E h hN hh hu hb=>?_;simp-dsimp[go_sem,hN,Foot.c];refine ia (qfd a) ?_;simp-dsimp[go_sem,hN];refine ka (qfd b) ae ?_;simp-dsimp[go_sem,hN];refine gy ?_ ?_<;>intro h0<;>simp at h0
 ·simp-dsimp[go_sem,hN];unfold th;rw[if_pos ax]
 have hC:th a b=(r9 a.writes b.writes||(r9 a.writes b.reads||r9 a.reads b.writes)):=by
  unfold th;rw[if_neg ax]
 simp-dsimp[go_sem,hN];refine ia (xlp a.writes b.writes) ?_;simp-dsimp[go_sem,hN];refine ka (xlp a.writes b.reads) ae ?_;simp-dsimp[go_sem,hN];refine ka (xlp a.reads b.writes) ae ?_;simp-dsimp[go_sem,hN,hC];grind
theorem xgz(f:Foot):APure prog 22 [.agg f.c] (.agg (nw f).c):=by
 refine ik func22 ntmps22 rfl ac rfl rfl fun E h hN hh hu hb=>?_;simp-dsimp[go_sem,hN,Foot.c];refine ia (xew f) ?_;simp-dsimp[go_sem,hN];refine gy ?_ ?_<;>intro h0<;>try simp at h0
 ·simp-dsimp[go_sem,hN,nw,h0,Foot.c]
 ·simp-dsimp[go_sem,hN,nw,h0,Foot.c]
theorem xkk(f:Foot):APure prog 29 [.agg f.c] (.agg (nw f).c):=by
 refine ik func29 ntmps29 rfl ac rfl rfl fun E h hN hh hu hb=>?_;simp-dsimp[go_sem,hN,Foot.c];refine ia (qfd f) ?_;simp-dsimp[go_sem,hN];refine gy ?_ ?_<;>intro h0<;>try simp at h0
 ·simp-dsimp[go_sem,hN,nw,h0,Foot.c]
 ·simp-dsimp[go_sem,hN,nw,h0,Foot.c]
theorem jkh(choices:List Int)(step n:Nat)(hn:0<n):APure prog 27 [.slice (choices.map iw),I step,I n] (I (quv choices step n)):=by
 refine ik func27 ntmps27 rfl ac rfl rfl fun E h hN hh hu hb=>?_;simp[go_sem]at hb;have hC:=xui (choices:=choices) (step:=step) (n:=n);by_cases hs:step<choices.length
 ·rw[dif_pos hs]at hC;have hz:¬(choices.length:Int)≤(step:Int):=aa;simp-dsimp[go_sem,hN,hs,hz,iw];refine gy ?_ ?_<;>intro h0<;>simp at h0
  ·rw[if_pos aa]at hC;simp-dsimp[go_sem,hN,hC]
  ·rw[if_neg aa]at hC;obtain⟨c,hc⟩:=qmu (show 0≤choices[step]by omega);have hm:choices[step].tmod (n:Int)=((choices[step].toNat % n:Nat):Int):=by
    rw[hc,qld];exact(Int.ofNat_tmod c n).symm
   simp-dsimp[go_sem,hN,hs,iw,hm,hC];omega
 ·rw[dif_neg hs]at hC;have hz:(choices.length:Int)≤(step:Int):=aa;simp-dsimp[go_sem,hN,hz,hC]
theorem jdn(choices:List Int)(step n:Nat)(hn:0<n):APure prog 31 [.slice (choices.map iw),I step,I n] (I (quv choices step n)):=by
 refine ik func31 ntmps31 rfl ac rfl rfl fun E h hN hh hu hb=>?_;simp[go_sem]at hb;have hC:=xui (choices:=choices) (step:=step) (n:=n);by_cases hs:step<choices.length
 ·rw[dif_pos hs]at hC;have hz:¬(choices.length:Int)≤(step:Int):=aa;simp-dsimp[go_sem,hN,hs,hz,iw];refine gy ?_ ?_<;>intro h0<;>simp at h0
  ·rw[if_pos aa]at hC;simp-dsimp[go_sem,hN,hC]
  ·rw[if_neg aa]at hC;obtain⟨c,hc⟩:=qmu (show 0≤choices[step]by omega);have hm:choices[step].tmod (n:Int)=((choices[step].toNat % n:Nat):Int):=by
    rw[hc,qld];exact(Int.ofNat_tmod c n).symm
   simp-dsimp[go_sem,hN,hs,iw,hm,hC];omega
 ·rw[dif_neg hs]at hC;have hz:(choices.length:Int)≤(step:Int):=aa;simp-dsimp[go_sem,hN,hz,hC]
theorem xgu(order:List Int)(x:Int):APure prog 43 [.slice (order.map iw),I x] (I (ni (fun y=>decide (y=x)) order)):=by
 refine ik func43 ntmps43 rfl ac rfl rfl fun E h hN hh hu hb=>?_;simp[go_sem]at hb;simp-dsimp[go_sem,hN];refine jl order.length (fun n=>pp (fun y=>decide (y=x)) n (order.drop n)=ni (fun y=>decide (y=x)) order) (fun n=>⟨[(0,.slice (order.map iw)),(1,I x),(5,I n)],h⟩) qid ic ?_;intro n hn hI;have hw:=iv hn hb.1;simp-dsimp[go_sem,hN];refine gy ?_ ?_<;>intro hc<;>simp at hc
 ·rw[ji hc,pp]at hI;simp-dsimp[go_sem,hN,hc,iw];refine gy ?_ ?_<;>intro hg<;>simp at hg
  ·simp-dsimp[go_sem,hN];simpa[hg]using hI
  ·simp-dsimp[go_sem,hN,hw];exact⟨hc,br,ic⟩
 ·rw[cv aa,pp]at hI;simp-dsimp[go_sem,hN,←hI]
theorem xxa(l:List Pr):APure prog 39 [.slice (l.map Pr.c)] (.slice (l.map Pr.c)):=by
 refine qbn func39 rfl ac (by simp[ntmps39]) rfl ?_;intro E h hN hh hu hb;rw[ntmps39]at hN;simp[go_sem]at hb;refine ln (ub ?_);simp[go_sem,hN];refine ln (ln (yf [_] _ ?_));simp[go_sem,hN];intro c a w s k;refine jlh s (el:=73) (sz:=4) (x:=.tmp 3) (rows:=l.map Pr.c) (d1:=4) rfl rfl aa rfl af af af fun b a' hbn s'=>?_;refine xf _ [_,_] _ rfl ?_ c a' w s' k;simp[go_sem,hN];cases b with
 |true =>
  have hl:l=[]:=by simpa using hbn rfl
  subst hl;apply na;simp-dsimp[go_sem,hN]
 |false =>
  refine xah (x:=.tmp 4) (b:=false) af (fun h=>by cases h) (fun _=>xd8 ?_);simp only[jff];refine ln (yf [] _ ?_);simp[go_sem,hN];intro c a w s k;refine xz6 s k (el:=73) (sz:=4) (d1:=5) rfl rfl aa rfl af af af aa fun c' a' w' s' k'=>?_;refine xf _ [_] _ rfl ?_ c' a' w' s' k';simp[go_sem,hN];refine⟨hb.1,?_⟩;apply na;simp-dsimp[go_sem,hN]
theorem xxy(p q:Pr):APure prog 99 [.agg p.c,.agg q.c] (I (qq1 p.key q.key)):=by
 refine ik func99 ntmps99 rfl ac rfl rfl fun E h hN hh hu hb=>?_;simp-dsimp[go_sem,hN];refine ia (xv6 p.key q.key) ?_;simp-dsimp[go_sem,hN]
theorem jj0(p:Pr)(h:gz)(o i:Nat)(l:List Pr)(hp:h[o]?=some (.cells [.own i l.length]))(hi:h[i]?=some (.arr 73 4 (l.map Pr.c)))(hl:l.length+1≤68719476736) :
  ACalls prog 95 [.agg p.c,.ptr o 0] h fun r h'=>r=.ret (.tuple [])∧h'=(h.set i (.arr 73 4 ((l++[p]).map Pr.c))).set o (.cells [.own i (l++[p]).length]):=by
 refine lw func95 ntmps95 rfl ac rfl fun E hN hh hu hb il kr=>?_;simp[go_sem]at hb;have hp':o<h.length:=(cq.1 hp).1;have ke:i<h.length:=(cq.1 hi).1;have hpi:o≠i:=qip;have a1:∀l:gz,(h++l)[o]?=h[o]?:=fun l=>cu hp';have a2:∀l:gz,(h++l)[i]?=h[i]?:=fun l=>cu ke;have a3:∀(l:gz) (y:AObj),(h++l).set o y=h.set o y++l:=fun l y=>e9 _ _ hp';have a4:∀(l:gz) (y:AObj),(h++l).set i y=h.set i y++l:=fun l y=>e9 _ _ ke;have a5:∀(l:gz) (q y:AObj),(h.set i q++l).set o y=(h.set i q).set o y++l:=fun l q y=>e9 _ _ qjz;have a6:∀(l:gz) (q:AObj),(h.set i q++l)[o]?=h[o]?:=fun l q=>by rw[cu qjz,dm (Ne.symm hpi)]
 have wg:∀(r:List (List AV)) (n:Nat),hUnder h.length ((h.set i (.arr 73 4 r)).set o (.cells [.own i n]))=true:=fun r n=>qb1 (qb1 hu qh5) (by simp[AObj.under,nb,AV.under,ke]);simp-dsimp[go_sem,hN,a1,a2,a3,a4,a5,a6,hp,hi];refine⟨aa,?_⟩;exact⟨_,.refl _,_,rfl,hwk.app0 _,ae,by simpa using wg _ _,rfl,ae⟩
def oy(h:gz)(l:List Pr):gz:=h++[.cells [.own (h.length+3) l.length],.cells [.fn (.func 95) [] [.ptr h.length 0]],.cells [.fn (.func 96) [] [.ptr (h.length+1) 0]],.arr 73 4 (l.map Pr.c)]
theorem qwc{h:gz}(hu:hUnder h.length h=true)(l:List Pr):hUnder (oy h l).length (oy h l)=true:=by
 unfold oy;rw[tn,ww ae hu];simp[go_sem]
theorem xtn{h:gz}(hu:hUnder h.length h=true){l:List Pr}(l':List Pr){L:gz}(hL:hUnder (oy h l++L).length (oy h l++L)=true):hUnder (oy h l'++L).length (oy h l'++L)=true:=by
 rw[tn,c0]at hL⊢;refine⟨?_,?_⟩
 ·exact ww ae (qwc hu l')
 ·have e:(oy h l'++L).length=(oy h l++L).length:=by simp[oy]
  rw[e];exact hL.2
theorem xh8(h:gz)(l:List Pr):(oy h l).length=h.length+4:=by simp[oy]
theorem jfk(h:gz)(l:List Pr)(p:Pr)(L:gz)(hl:l.length+1≤68719476736):ACalls prog 95 [.agg p.c,.ptr h.length 0] (oy h l++L) fun r h'=>r=.ret (.tuple [])∧h'=oy h (l++[p])++L:=by
 have:=jj0 p (oy h l++L) h.length (h.length+3) l (by simp[oy]) (by simp[oy]) hl;simpa[oy]using this
def qsi(l:List Pr)(p:Pr):List Pr:=if p.v.k=0 then l else l++[p]
theorem xzi(h:gz)(hu0:hUnder h.length h=true)(l:List Pr)(p:Pr)(L:gz)(hl:l.length+1≤68719476736):ACalls prog 96 [.agg p.c,.ptr (h.length+1) 0] (oy h l++L) fun r h'=>r=.ret (.tuple [])∧h'=oy h (qsi l p)++L:=by
 refine lw func96 ntmps96 rfl ac rfl fun E hN hh hu hb il kr=>?_;have e1:∀X:gz,(oy h l++X)[h.length+1]?=some (.cells [.fn (.func 95) [] [.ptr h.length 0]]):=fun X=>by simp[oy]
 have e2:∀(l:List Pr),(oy h l).length=h.length+4:=fun l=>xh8 h l;simp-dsimp[go_sem,hN,e1,e2,dr];refine ia (xof p) ?_;simp-dsimp[go_sem,hN];refine gy ?_ ?_<;>intro h0<;>simp at h0
 ·simp-dsimp[go_sem,hN,e1,e2,dr];have hk:=jfk h l p (L++[.cells p.c]) hl;refine it (by simpa[go_sem]using hk) ?_;rintro r h' ⟨rfl,rfl⟩;simp-dsimp[go_sem,hN];rw[qsi,if_neg h0];exact⟨_,.refl _,oy h (l++[p])++L,rfl,qhs,by simp[oy];omega,xtn hu0 _ hu,rfl,rfl⟩
 ·simp-dsimp[go_sem,hN];rw[qsi,if_pos h0];exact⟨_,.refl _,oy h l++L,rfl,qhs,ae,hu,rfl,rfl⟩
theorem jm7(h:gz)(hu0:hUnder h.length h=true)(l:List Pr)(q p:Pr)(L:gz)(hl:l.length+1≤68719476736):ACalls prog 100 [.agg q.c,.agg p.c,.ptr (h.length+2) 0] (oy h l++L) fun r h'=>r=.ret (.tuple [])∧h'=oy h (qsi l p)++L:=by
 refine lw func100 ntmps100 rfl ac rfl fun E hN hh hu hb il kr=>?_;have e1:∀X:gz,(oy h l++X)[h.length+2]?=some (.cells [.fn (.func 96) [] [.ptr (h.length+1) 0]]):=fun X=>by simp[oy]
 have e2:∀(l:List Pr),(oy h l).length=h.length+4:=fun l=>xh8 h l;simp-dsimp[go_sem,hN,e1,e2,dr];have hk:=xzi h hu0 l p (L++[.cells q.c,.cells p.c]) hl;refine it (by simpa[go_sem]using hk) ?_;rintro r h' ⟨rfl,rfl⟩;simp-dsimp[go_sem,hN];exact⟨_,.refl _,oy h (qsi l p)++L,rfl,qhs,by simp[oy];omega,xtn hu0 _ hu,rfl,rfl⟩
theorem xkr(iu:List Pr)(q:Pr)(l:List Pr):iu++qu7 q l=qsi iu q++l:=by
 unfold qu7 qsi;split<;>simp
theorem xlk(l:List Pr)(p:Pr):(qsi l p).length≤l.length+1:=by
 unfold qsi;split<;>simp
theorem jin(h:gz)(hu0:hUnder h.length h=true)(a b:List Pr)(hB:a.length+b.length≤68719476735) :
  ACalls prog 98 [.slice (a.map Pr.c),.slice (b.map Pr.c),.fn (.func 99) [] [],.fn (.func 95) [] [.ptr h.length 0],.fn (.func 96) [] [.ptr (h.length+1) 0],.fn (.func 100) [] [.ptr (h.length+2) 0]] (oy h []) fun r h'=>r=.ret (.tuple [])∧h'=oy h (ry a b):=by
 refine lw func98 ntmps98 rfl ac rfl fun E hN hh hu hb il kr=>?_;simp[go_sem]at hb;have e2:∀(l:List Pr),(oy h l).length=h.length+4:=fun l=>xh8 h l;simp-dsimp[go_sem,hN];refine xb3 (α:=Nat×Nat×List Pr) (fun x=>x.1≤a.length∧x.2.1≤b.length∧x.2.2.length≤x.1+x.2.1∧x.2.2++ry (a.drop x.1) (b.drop x.2.1)=ry a b)
  (fun x=>⟨[(0,.slice (a.map Pr.c)),(1,.slice (b.map Pr.c)),(2,.fn (.func 99) [] []),(3,.fn (.func 95) [] [.ptr h.length 0]),(4,.fn (.func 96) [] [.ptr (h.length+1) 0]),(5,.fn (.func 100) [] [.ptr (h.length+2) 0]),(12,I x.1),(13,I x.2.1)],oy h x.2.2⟩) (fun x=>a.length+b.length - x.1 - x.2.1) (0,0,[]) ae ?_ ?_
 ·exact Wk.mk qh3 af (qwc hu0 []) qhl
 rintro⟨i,k,iu⟩ ⟨hi,hk,wu,hI⟩;dsimp only at hi hk wu hI⊢;simp-dsimp[go_sem,hN];refine gy ?_ ?_<;>intro hc<;>simp at hc
 ·simp-dsimp[go_sem,hN];refine gy ?_ ?_<;>intro h1<;>simp at h1
  ·have q9:k<b.length:=aa;have hw:IntKind.i64.wrap ((k:Int)+1)=((k+1:Nat):Int):=qfh;rw[cv (show a.length≤i by omega),ji q9,ry,xkr]at hI;simp-dsimp[go_sem,hN,q9];refine it qjc ?_;rintro r h' ⟨rfl,rfl⟩;simp-dsimp[go_sem,hN,hw];have ve:=xlk iu b[k];exact⟨i,k+1,qsi iu b[k],⟨hi,aa,aa,by rw[cv (show a.length≤i by omega)];exact hI⟩,aa,Wk.mk qh3 af (qwc hu0 _) qhl⟩
  ·have hi2:i<a.length:=aa;have hw:IntKind.i64.wrap ((i:Int)+1)=((i+1:Nat):Int):=qfh;simp-dsimp[go_sem,hN];refine gy ?_ ?_<;>intro h2<;>simp at h2
   ·rw[cv (show b.length≤k by omega),ji hi2,ry]at hI;simp-dsimp[go_sem,hN,hi2];refine it qjq ?_;rintro r h' ⟨rfl,rfl⟩;simp-dsimp[go_sem,hN,hw];exact⟨i+1,k,iu++[a[i]],⟨aa,hk,am,by rw[cv (show b.length≤k by omega)];simpa using hI⟩,aa,Wk.mk qh3 af (qwc hu0 _) qhl⟩
   ·have q9:k<b.length:=aa;have oi:IntKind.i64.wrap ((k:Int)+1)=((k+1:Nat):Int):=qfh;have pz:=xf4 a[i].key b[k].key;have qxi:=xf4 b[k].key a[i].key;rw[ji hi2,ji q9,ry]at hI;simp-dsimp[go_sem,hN,hi2,q9];refine kf 9 mixed ac ac ?_;simp-dsimp[go_sem,hN,hi2,q9];refine ia (xxy a[i] b[k]) ?_;simp-dsimp[go_sem,hN];refine gy ?_ ?_<;>intro h3<;>simp at h3
    ·rw[if_pos (pz.1.1 h3)]at hI;simp-dsimp[go_sem,hN,hi2,q9];refine it qjq ?_;rintro r h' ⟨rfl,rfl⟩;simp-dsimp[go_sem,hN,hw];exact⟨i+1,k,iu++[a[i]],⟨aa,hk,am,by rw[ji q9];simpa using hI⟩,aa,Wk.mk qh3 af (qwc hu0 _) qhl⟩
    rw[if_neg (fun g=>absurd (pz.1.2 g) aa)]at hI;simp-dsimp[go_sem,hN];refine gy ?_ ?_<;>intro h4<;>simp at h4
    ·have h5:ju b[k].key a[i].key=true:=by
      rcases gn (ju b[k].key a[i].key)with g|g
      ·exact g
      ·have:=qv9 (a:=a[i].key) (b:=b[k].key) (fun x=>absurd (pz.1.2 x) aa) qhw;have:=pz.2.2 this;omega
     rw[if_pos h5,xkr]at hI;simp-dsimp[go_sem,hN,hi2,q9];refine it qjc ?_;rintro r h' ⟨rfl,rfl⟩;simp-dsimp[go_sem,hN,oi];have ve:=xlk iu b[k];exact⟨i,k+1,qsi iu b[k],⟨hi,aa,aa,by rw[ji hi2];exact hI⟩,aa,Wk.mk qh3 af (qwc hu0 _) qhl⟩
    ·have he:a[i].key=b[k].key:=pz.2.1 aa;rw[if_neg (by rw[he,qbx];simp),xkr]at hI;simp-dsimp[go_sem,hN,hi2,q9];refine kf 9 mixed ac ac ?_;simp-dsimp[go_sem,hN,hi2,q9];refine it (by simpa[go_sem]using jm7 h hu0 iu a[i] b[k] [] aa) ?_;rintro r h' ⟨rfl,rfl⟩;simp-dsimp[go_sem,hN,hw,oi];have ve:=xlk iu b[k];exact⟨i+1,k+1,qsi iu b[k],⟨aa,aa,aa,hI⟩,aa,Wk.mk qh3 af (qwc hu0 _) qhl⟩
 ·rw[cv (show a.length≤i by omega),cv (show b.length≤k by omega),ry,e8]at hI;subst hI;simp-dsimp[go_sem,hN];exact⟨_,.refl _,oy h (ry a b),rfl,hwk.refl _,by simp[e2],qwc hu0 _,rfl,rfl⟩
theorem jae(w:List Pr):qtp none w=qc6 w:=by rw[xg6];rfl
theorem jlc(l w:List Pr)(hB:l.length+w.length<68719476736):APure prog 52 [.slice (l.map Pr.c),.slice (w.map Pr.c)]
  (if nn l&&qc6 w then .tuple [.slice ((qnd l w).map Pr.c),I 0]else .tuple [.slice [],I 1]):=by
 refine qbn func52 rfl ac (by simp[ntmps52]) (by split<;>rfl) ?_;intro E h hN hh hu hb;rw[ntmps52]at hN;refine na _ _ _ ?_;simp[go_sem]at hb;have hs:=xt2 w;rw[jae]at hs;simp-dsimp[go_sem,hN];refine ia (xm8 l) ?_;simp-dsimp[go_sem,hN];refine ka hs ae ?_;simp-dsimp[go_sem,hN];refine gy ?_ ?_<;>intro h0<;>simp at h0
 ·simp-dsimp[go_sem,hN];grind
 rw[h0.1,h0.2];have hm:ry l w=qnd l w:=jh6 ((qdi l).1 h0.1).2.2 ((qdw w).1 h0.2).2.2;simp-dsimp[go_sem,hN];have hk:=jin h hu l w aa;rw[hm]at hk;have oi:∀E:Ent,Wk E ⟨[],h++[.cells [.nils],.cells [.fn (.func 95) [] [.ptr h.length 0]],.cells [.fn (.func 96) [] [.ptr (h.length+1) 0]]]⟩ ⟨[],oy h []⟩:=fun E=>by
  have:=qwi E ⟨[],h++[.cells [.nils],.cells [.fn (.func 95) [] [.ptr h.length 0]],.cells [.fn (.func 96) [] [.ptr (h.length+1) 0]]]⟩ (p:=h.length) (j:=0) (t:=73) (sz:=4) (xs:=[.nils]) ae rfl;simpa[oy]using this
 refine it (xhl oi hk) ?_;rintro r h' ⟨rfl,rfl⟩;simp-dsimp[go_sem,hN,oy]
@[simp] theorem jqq:xbp prog 20=true:=ac
theorem jg5{c:Ctx}{h:gz}{w:World}(hs:HSim c h w){i4 i5:Nat}{vs:Array Value}(ha:RelL c [.ptr i4 0,.ptr i5 0] vs) :
  CallsD prog 137 vs .returning w fun e u' w'=>(∃v,e=.returned v)∧u'=.returning∧∃c',HSim c' h w'∧(⟨12,c,h,w⟩:Ent).ok c' h w':=by
 refine callsD_of_wpS func137 rfl fun c₀ cs hu=>?_;have s0:=xfk (N:=12) hs ha ae;refine wpS_seq (wpS_region ?_);simp[wpOpsS,go_sem,recoverD,hu,Exit.thenS,ntmps137];obtain⟨q1,q2,q3,q4,q5,q6,q7⟩:=c₀;simp only at hu;subst hu;have s1:=s0.put (.refl c) hs (d:=some 5) ae (Rel.val Value.nilIface);refine xvt (E:=⟨12,c,h,w⟩) (c₀:=⟨q1,q2,q3,q4,.returning,q6,q7⟩) (U:=.returning) (cs:=cs) (fn:=Tryz.f137) s1 (Ent.ok.refl 12 hs) (H:=h) (n0:=h.length) (ct _) ?_;refine na _ _ _ ?_;have hN:(⟨12,c,h,w⟩:Ent).N=12:=rfl;have vl:=hs.hUnder;simp-dsimp[go_sem,hN,Tryz.f137,vl];exact⟨.tuple [],.refl _,h,rfl,hwk.refl _,ct _,vl,rfl,rfl⟩
@[simp] theorem jqj:qvt prog 146=some (.agg [I 0,I 0,.nils,S em]):=ac
theorem jfe{c:Ctx}{h:gz}{w:World}(hs:HSim c h w){i4 i5:Nat}{vs:Array Value}(ha:RelL c [.ptr i4 0,.ptr i5 0] vs){st:List AV}(mj:st.length=4)(x4:List AV)(h4:h[i4]?=some (.cells x4))(hx4:x4.length=4)(x5:AV)(h5:h[i5]?=some (.cells [x5]))(h45:i4≠i5)(hds:st.all AV.one=true)
  {v:Value} (hv:Rel c (.iface 146 (.agg st)) v) :
  CallsD prog 137 vs (.panicking [⟨v,false,false⟩]) w fun e u' w'=>(∃v,e=.returned v)∧u'=.panicking [⟨v,true,false⟩]∧∃c',HSim c' ((h.set i4 (.cells st)).set i5 (.cells [Bo true])) w'∧(⟨12,c,h,w⟩:Ent).ok c' ((h.set i4 (.cells st)).set i5 (.cells [Bo true])) w':=by
 refine callsD_of_wpS func137 rfl fun c₀ cs hu=>?_;have s0:=xfk (N:=12) hs ha ae;refine wpS_seq (wpS_region ?_);simp[wpOpsS,go_sem,recoverD,hu,Exit.thenS,ntmps137];have s1:=s0.put (.refl c) hs (d:=some 5) ae hv;refine xvt (E:=⟨12,c,h,w⟩) (c₀:=c₀) (U:=.panicking [⟨v,true,false⟩]) (cs:=cs) (fn:=Tryz.f137) s1 (Ent.ok.refl 12 hs) (H:=(h.set i4 (.cells st)).set i5 (.cells [Bo true])) (n0:=h.length) (ct _) ?_;refine na _ _ _ ?_;have hN:(⟨12,c,h,w⟩:Ent).N=12:=rfl;have vl:=hs.hUnder;have l4:i4<h.length:=(cq.1 h4).1;have l5:i5<h.length:=(cq.1 h5).1;obtain⟨a,b,d,e,rfl⟩:∃a b d e,st=[a,b,d,e]:=by
  match st,mj with
  | [a,b,d,e],_=>exact⟨a,b,d,e,rfl⟩
 have hun:nb h.length [a,b,d,e]=true:=by
  have:=hv.under hs.dom;simpa[AV.under]using this
 have a4:(h++[AObj.cells [a,b,d,e]])[i4]?=some (.cells x4):=by rw[cu l4];exact h4
 have a5:((h++[AObj.cells [a,b,d,e]]).set i4 (AObj.cells [a,b,d,e]))[i5]?=some (.cells [x5]):=by rw[dm h45,cu l5];exact h5
 simp-dsimp[go_sem,hN,Tryz.f137,vl,a4,a5,hx4];rw[show x4.drop 4=[]from cv aa,a5];refine⟨ae,.tuple [],.refl _,_,rfl,?_,?_,?_,rfl,rfl⟩
 ·rw[e9 _ _ l4,e9 _ _ (by simpa using l5)];exact hwk.app0 _
 ·simp
 ·simp only[List.length_set];exact qb1 (qb1 vl hun) (by simp[AObj.under,nb,AV.under])
def zs:List AV:=[I 0,I 0,.slice [],S em]
theorem jfu(m:AV){g:FuncId}{first caps:List AV}{h:gz}{Rg R:AEnd→gz→Prop}(hg:ACalls prog g (kc (h++[.cells [I 0,I 0,.nils,S em],.cells [Bo false]]) (first++caps)) (h++[.cells [I 0,I 0,.nils,S em],.cells [Bo false]]) Rg)
  (hR:∀r h',Rg r h'→h.length+2≤h'.length→(∃x4,h'[h.length]?=some (.cells x4)∧x4.length=4)∧(∃x5,h'[h.length+1]?=some (.cells [x5]))∧hUnder h.length (h'.take h.length)=true∧match r with
   | .ret _=>R (.ret (.tuple [.agg zs,Bo false])) (h'.take h.length)
   | .panic (.iface 146 (.agg st))=>st.length=4∧st.all AV.one=true∧nb h.length st=true∧R (.ret (.tuple [.agg st,Bo true])) (h'.take h.length)
   |_=>False) (hst':∀h' st,Rg (.panic (.iface 146 (.agg st))) h'→∀H,kc H st=st):ACalls prog 91 [m,.fn (.func g) first caps] h R:=by
 refine⟨⟨_,func91,ac,ac⟩,fun c w vs hs ha=>?_⟩;refine calls_of_wp_defers func91 rfl ?_;have s0:=xfk (N:=10) hs ha ae;have k0:=Ent.ok.refl 10 hs;rw[ntmps91];refine wp_seq (wp_mono ((xm9 (E:=⟨10,c,h,w⟩) (Q:=fun x e=>x=.normal∧e=⟨[(5,.ptr (h.length+1) 0),(4,.ptr h.length 0),(0,m),(1,.fn (.func g) first caps)],h++[.cells [I 0,I 0,.nils,S em],.cells [Bo false]]⟩) ?_) c _ w s0 k0) ?_)
 ·have hN:(⟨10,c,h,w⟩:Ent).N=10:=rfl;simp-dsimp[go_sem,hN]
 rintro ex a1 w1 ⟨x',e1,c1,⟨rfl,rfl⟩,hx,s1,k1⟩;cases ex<;>simp only[XR]at hx;show Code.wp _ _ _ a1 w1;have t4:=s1.tmps 4;have t5:=s1.tmps 5;have t1:=s1.tmps 1;simp[kj]at t4 t5 t1;refine wp_seq (wp_region_list ?_);have sz:a1.tmps.size=10:=s1.size;have df:a1.defers=[]:=s1.defers;obtain⟨tm,dfs⟩:=a1;simp only at sz df;subst df;simp[wpList,go_sem,Oper.wp,Oper.upon,Instr.makeFunc,sz];refine .inl (.inl ?_);have s3:=s1.put (.refl c1) s1.hs (d:=some 6) ae (Rel.top (Value.func (Fn.func 137) #[] #[tm[4],tm[5]]));have E3:({ tmps:=tm.setIfInBounds 6 (Value.func (Fn.func 137) #[] #[tm[4],tm[5]]),defers:=[{ target:=Target.fn (Fn.func 137) #[tm[4],tm[5]],args:=#[] }] }:Act)=mr [{ target:=Target.fn (Fn.func 137) #[tm[4],tm[5]],args:=#[] }] (({ tmps:=tm,defers:=[] }:Act).put (some 6) (Value.func (Fn.func 137) #[] #[tm[4],tm[5]])):=rfl;rw[E3];have hd4:∀c',c1.le c'→RelL c' [.ptr h.length 0,.ptr (h.length+1) 0] #[tm[4],tm[5]]:=fun c' ig=>⟨rfl,fun j x v hx hv=>by
  match j with
  | 0=>simp at hx hv;subst hx;subst hv;simpa[sz]using t4.mono ig
  | 1=>simp at hx hv;subst hx;subst hv;simpa[sz]using t5.mono ig
  |j+2=>simp at hx⟩
 -- what stands behind the deferred call
 have fin:∀(c5:Ctx) (e5:Env) (a5:Act) (w5:World) (hf:gz) (st:List AV) (b:Bool),Sim 10 c5 e5 a5 w5→(⟨10,c,h,w⟩:Ent).ok c5 e5.h w5→kj e5.t 4=.ptr h.length 0→kj e5.t 5=.ptr (h.length+1) 0 →
   e5.h[h.length]?=some (.cells st)→st.length=4→nb h.length (kc e5.h st)=true→e5.h[h.length+1]?=some (.cells [Bo b])→hwk e5.h hf→hf.length=h.length→hUnder h.length hf=true→R (.ret (.tuple [.agg (kc e5.h st),Bo b])) hf →
   ∃v,(results Tryz.f91 a5.tmps).run prog w5=.ok v w5∧∃r h',R r h'∧∃x,EndR x r (.returned v)∧HSim x h' w5∧(⟨0,c,h,w⟩:Ent).ok x h' w5:=by
  intro c5 e5 a5 w5 hf st b s5 k5 l4 l5 g4 mj hun g5 hw hl hu hRR;obtain⟨v,hv,hr⟩:=xey (E:=⟨10,c,h,w⟩) (P:=prog) s5 Tryz.f91 (by
   simp[Tryz.f91,go_sem,l4,l5,g4,g5,mj])
  have zm:(qyf ((Tryz.f91).results.toList.map fun r=>(qs3 prog e5 r).val))=.tuple [.agg st,Bo b]:=by
   have ht:st.take 4=st:=fo aa;simp[Tryz.f91,go_sem,l4,l5,g4,g5,ht]
  rw[zm]at hr;obtain⟨c6,q1,q2,q3⟩:=finish (E:=⟨10,c,h,w⟩) s5 k5 hr (r':=.tuple [.agg (kc e5.h st),Bo b]) (h':=hf) (by simp[AV.norm,kc]) (by simp[AV.under,nb,hl];exact hun) hw qhh (by rw[hl];exact hu);exact⟨v,hv,_,hf,hRR,c6,q3,q1,q2.withN 0⟩
 have k3:(⟨10,c1,h++[.cells [I 0,I 0,.nils,S em],.cells [Bo false]],w1⟩:Ent).ok c1 (h++[.cells [I 0,I 0,.nils,S em],.cells [Bo false]]) w1:=Ent.ok.refl 10 s1.hs;refine wp_seq (wp_region_list (xcf (Q:=qna ⟨10,c1,h++[.cells [I 0,I 0,.nils,S em],.cells [Bo false]],w1⟩ fun x e=>match x with
  | .normal=>(∃v,Rg (.ret v) e.h)∧kj e.t 4=.ptr h.length 0∧kj e.t 5=.ptr (h.length+1) 0
  | .panic v=>Rg (.panic v) e.h∧kj e.t 4=.ptr h.length 0∧kj e.t 5=.ptr (h.length+1) 0
  |_=>False) ?_ ((qds (E:=⟨10,c1,h++[.cells [I 0,I 0,.nils,S em],.cells [Bo false]],w1⟩) _ [] _ rfl ?_) c1 _ w1 s3 k3)))
 ·rintro x a w2 ⟨x',e2,c2,hq,hx,s2,k2⟩;have ig:c1.le c2:=k2.ext;have jr:h.length+2≤e2.h.length:=by simpa using k2.len
  cases x' with
  |normal =>
   cases x<;>simp only[XR]at hx;obtain⟨⟨v,hv⟩,l4,l5⟩:=hq;obtain⟨⟨x4,g4,lx4⟩,⟨x5,g5⟩,hu2,hRR⟩:=hR _ _ hv jr;show Code.wp _ _ _ _ _;have n4:h.length<e2.h.length:=aa;have n5:h.length+1<e2.h.length:=aa;refine wp_seq (wp_region_list (xcf (Q:=qna ⟨10,c2,e2.h,w2⟩ fun x e=>x=.normal∧e.h=(e2.h.set h.length (.cells [I 0,I 0,.nils,S em])).set (h.length+1) (.cells [Bo false])∧kj e.t 4=.ptr h.length 0∧kj e.t 5=.ptr (h.length+1) 0) ?_ ((qds (E:=⟨10,c2,e2.h,w2⟩) _ [] _ rfl ?_) c2 _ w2 s2 (Ent.ok.refl 10 s2.hs))))
   ·rintro x a w3 ⟨x',e3,c3,⟨rfl,h3,l4',l5'⟩,hx,s3',k3'⟩;cases x<;>simp only[XR]at hx;show Code.wp _ _ _ _ _;refine wp_ret ?_;have qx3:c1.le c3:=ig.trans k3'.ext;show Leaves _ _ _ _ (a.defers++_) _ _;rw[s3'.defers,ej];refine leaves_cons (f:=137) (args:=#[tm[4],tm[5]]) ae (by simp[invoke]) ((jg5 s3'.hs (hd4 c3 qx3)).mono ?_);rintro en u' w4 ⟨⟨v4,rfl⟩,rfl,c4,s4,k4⟩;have sim4:Sim 10 c4 e3 a w4:=⟨s3'.defers,s3'.size,fun i=>(s3'.tmps i).mono k4.ext,s4⟩
    have e3a:e3.h[h.length]?=some (.cells [I 0,I 0,.nils,S em]):=by rw[h3];simp[n4]
    have e3b:e3.h[h.length+1]?=some (.cells [Bo false]):=by rw[h3];simp[n5]
    have kk:(⟨10,c,h,w⟩:Ent).ok c4 e3.h w4:=((k1.trans k2).trans k3').trans k4;obtain⟨v5,h5,h6⟩:=fin c4 e3 a w4 (e2.h.take h.length) [I 0,I 0,.nils,S em] false sim4 kk l4' l5' e3a rfl (by simp[kc,AV.norm,nb,AV.under]) e3b (by
     rw[h3];exact xus aa) am hu2 (by simpa[kc,AV.norm,zs]using hRR)
    exact⟨v5,h5,h6⟩
   ·have hN:(⟨10,c2,e2.h,w2⟩:Ent).N=10:=rfl;have g5':(e2.h.set h.length (AObj.cells [I 0,I 0,.nils,S em]))[h.length+1]?=some (.cells [x5]):=by rw[dm aa];exact g5
    simp-dsimp[go_sem,hN,l4,l5,g4,g5,lx4]
    try rw[show x4.drop 4=[]from cv aa]
    try simp-dsimp[go_sem,g5',l4,l5]
  |panic v =>
   obtain⟨hv,l4,l5⟩:=hq;obtain⟨⟨x4,g4,lx4⟩,⟨x5,g5⟩,hu2,hRR⟩:=hR _ _ hv jr;split at hRR
   ·rename_i he;cases he
   ·rename_i st he;cases he;obtain⟨mj,m7,hun,hRR⟩:=hRR;cases x with
    |panic ch =>
     cases ch with
     |nil=>simp[XR]at hx
     |cons p l =>
      cases l with
      |cons=>simp[XR]at hx
      |nil =>
       obtain⟨u,rc,gx⟩:=p;cases rc<;>cases gx<;>simp only[XR]at hx;show Leaves _ _ _ _ (a.defers++_) _ _;rw[s2.defers,ej];refine leaves_cons (f:=137) (args:=#[tm[4],tm[5]]) ae (by simp[invoke]) ((jfe s2.hs (hd4 c2 ig) mj x4 g4 lx4 x5 g5 aa m7 hx).mono ?_);rintro en u' w4 ⟨⟨v4,rfl⟩,rfl,c4,s4,k4⟩;have n4:h.length<e2.h.length:=aa;have n5:h.length+1<e2.h.length:=aa;have sim4:Sim 10 c4 ⟨e2.t,(e2.h.set h.length (.cells st)).set (h.length+1) (.cells [Bo true])⟩ a w4:=⟨s2.defers,s2.size,fun i=>(s2.tmps i).mono k4.ext,s4⟩
       have kk:(⟨10,c,h,w⟩:Ent).ok c4 ((e2.h.set h.length (.cells st)).set (h.length+1) (.cells [Bo true])) w4:=(k1.trans k2).trans k4;have xbs:kc ((e2.h.set h.length (.cells st)).set (h.length+1) (.cells [Bo true])) st=st:=hst' _ _ hv _;obtain⟨v5,h5,h6⟩:=fin c4 ⟨e2.t,(e2.h.set h.length (.cells st)).set (h.length+1) (.cells [Bo true])⟩ a w4 (e2.h.take h.length) st true sim4 kk l4 l5 (by simp[n4]) mj (by rw[xbs];exact hun) (by simp[n5]) (xus aa) am hu2 (by rw[xbs];exact hRR);exact⟨v5,h5,h6⟩
    |_=>simp[XR]at hx
   ·exact hRR.elim
  |_=>exact hq.elim
 ·have hN:(⟨10,c1,h++[.cells [I 0,I 0,.nils,S em],.cells [Bo false]],w1⟩:Ent).N=10:=rfl;simp-dsimp[go_sem,hN];refine it hg fun r h' hr=>?_;cases r<;>simp[go_sem,hr];exact⟨_,hr⟩
end Go.Proofs.YtbimdamecieomaaGreatDoor
namespace Go.Proofs.YtbimdamecieomaaGreatDoor
open Go Go.Abs Go.Cw Go.Shelf Tryz
def xva:Ren:=⟨fun
 | 129=>185| 173=>291| 246=>319| 283=>333| 284=>334| 285=>335| 286=>336
 | 317=>341| 318=>342| 319=>343| 320=>344| 337=>346| 338=>347|x=>x,
 fun| 0=>0| 2=>2| 3=>3| 4=>4| 5=>5| 9=>9| 20=>20| 37=>331| 46=>167| 51=>218| 53=>220| 171=>333| 173=>335| 212=>340| 213=>341| 232=>343| 233=>344|x=>x,
 fun| 17=>1| 18=>2| 19=>3|x=>x⟩
theorem jja:Lays.n173 prog xva:=by
 constructor<;>first|exact fun _=>by kernel_rfl|kernel_rfl
theorem xlx:LaysM.n173 prog xva:={ jja with i0:=by kernel_rfl,i2:=by kernel_rfl,i3:=by kernel_rfl,i4:=by kernel_rfl,i5:=by kernel_rfl,i9:=by kernel_rfl,i20:=by kernel_rfl,i37:=by kernel_rfl,i46:=by kernel_rfl,i51:=by kernel_rfl,i53:=by kernel_rfl,i171:=by kernel_rfl,i173:=by kernel_rfl,i212:=by kernel_rfl,i232:=by kernel_rfl,i233:=by kernel_rfl,m17:=by kernel_rfl,m18:=by kernel_rfl,m19:=by kernel_rfl }
def xft:Array Value:=(Lib.pow10Tab.map fun z=>Value.int .u64 z).toArray
def uu(T:TypeId)(x:Nat×Nat):AObj:=.raw 1 (fun _=>.cells xft T x) []
def jh(n:Int):g9:=⟨(Lib.itoa n).toArray⟩
theorem ja5{c:Ctx}{h:gz}{w:World}(hs:HSim c h w)(k:Nat)(os:Array Obj):HSim c h (Sort.grow (w.drewN k) os)∧(⟨0,c,h,w⟩:Ent).ok c h (Sort.grow (w.drewN k) os):=by
 have hw:∀b,b<w.heap.size→(Sort.grow (w.drewN k) os).heap[b]?=w.heap[b]?:=fun b hb=>by
  show(w.heap++os)[b]?=_;rw[qlr hb]
 refine⟨hs.ext hw (.refl c) (fun _ _=>rfl) (fun _ _ _ h=>.inl h) hs.dom,?_⟩;exact(Ent.ok.refl 0 hs).ext' hs hw (.refl c) (fun _=>rfl) rfl rfl rfl (by show _≤(w.heap++os).size;simp) (fun _ _ _ h=>.inl h)
theorem jg7(n:Int)(hn:i64 n)(h:gz)(g:Nat){T:TypeId}{x:Nat×Nat}(hg:h[g]?=some (uu T x))(jq:(jh n).size≤68719476736) :
  ACalls prog 291 [I n,I 10] h fun r h'=>r=.ret (S (jh n))∧h'=h:=by
 refine⟨⟨_,xlx.f173,rfl,rfl⟩,fun c w vs hs ha=>?_⟩;obtain⟨hb,us,hv,_⟩:=hs.obj _ _ hg
 have htab:Lib.TabIs prog w "internal/strconv.uint64pow10" .u64 Lib.pow10Tab:=by
  unfold Lib.TabIs World.var?;rw[xlx.m17];simp only[Go.f5];show(match w.heap[1]? with|some (.cells cs _ _)=>some cs|_=>none)=_;rw[hv];rfl
 have he:vs = #[.int .i64 n,.int .i64 10]:=xo4 (l:=[.int .i64 n,.int .i64 10]) ha;rw[he];refine(Any.strconv_FormatInt_10 xlx n hn.1 hn.2 w htab).mono ?_;rintro e w' ⟨rfl,k,os,rfl⟩;obtain⟨g1,g2⟩:=ja5 hs k os;exact⟨_,h,c,⟨rfl,rfl⟩,.val _ (by simpa[zz]using jq),g1,g2⟩
theorem xyq(n:Int)(hn:i64 n)(h:gz)(g:Nat){T:TypeId}{x:Nat×Nat}(hg:h[g]?=some (uu T x)) :
  ACalls prog 265 [I n] h fun r h'=>r=.ret (S (jh n))∧h'=h:=by
 have jq:(jh n).size≤68719476736:=by
  have:=Lib.itoa_length_le n hn.1 hn.2;show(Lib.itoa n).length≤_;omega
 refine lw func265 ntmps265 rfl ac rfl fun E hN hh hu hb il kr=>?_;simp-dsimp[go_sem,hN];refine it (jg7 n hn h g hg jq) ?_;rintro r h' ⟨rfl,rfl⟩;simp-dsimp[go_sem,hN];exact⟨_,.refl _,_,rfl,hwk.refl _,ct _,hu,rfl,rfl⟩
end Go.Proofs.YtbimdamecieomaaGreatDoor
namespace Go.Proofs.YtbimdamecieomaaGreatDoor
open Go Go.Abs Go.Cw Tryz
section
attribute [local go_sem] mC
variable {C:Cfg} {tT:TypeId} {tx:Nat×Nat} {g m v o io ir ip:Nat} {K:MQ→gz} {n0:Nat}
abbrev MHs(C:Cfg)(tT:TypeId)(tx:Nat×Nat)(g m v o io ir ip:Nat)(K:MQ→gz)(n0:Nat):Prop:=MH C (uu tT tx) 71 9 g m v o io ir ip K n0
theorem xnc(Y:MHs C tT tx g m v o io ir ip K n0)(s:MS)(mj:s.steps≤100000) :
  ACalls prog 138 [.ptr m 0] (K s.q) fun r h'=>r=nt (qq s).1∧h'=K (qq s).2.q:=by
 refine lw func138 ntmps138 rfl ac rfl fun E hN hh hu hb il kr=>?_;have hw:IntKind.i64.wrap ((s.steps:Int)+1)=(s.steps:Int)+1:=qe6 aa aa;simp-dsimp[go_sem,hN,Y.lm,hw,Y.smx];refine gy ?_ ?_<;>intro h0<;>simp at h0
 ·simp-dsimp[go_sem,hN];refine it (qbf 1008 _) ?_;rintro r h' ⟨rfl,rfl⟩;simp-dsimp[go_sem,hN];rw[qq,if_pos aa];exact⟨_,.refl _,K (qq s).2.q,af,ag,au,Y.und' _,aj,ah⟩
 ·simp-dsimp[go_sem,hN];rw[qq,if_neg aa];exact⟨_,.refl _,K (qq s).2.q,af,ag,au,Y.und' _,aj,ah⟩
theorem jci(Y:MHs C tT tx g m v o io ir ip K n0)(s:MS)(x:V)(hl:s.out.length≤100) :
  ACalls prog 172 [.ptr m 0,.agg x.c] (K s.q) fun r h'=>r=nt (uj x s).1∧h'=K (uj x s).2.q:=by
 refine lw func172 ntmps172 rfl ac rfl fun E hN hh hu hb il kr=>?_;simp-dsimp[go_sem,hN,Y.lm',Y.lio'];refine gy ?_ ?_<;>intro h0<;>simp at h0
 ·simp-dsimp[go_sem,hN];refine it (qbf 1007 _) ?_;rintro r h' ⟨rfl,rfl⟩;simp-dsimp[go_sem,hN];rw[uj,if_pos aa];exact⟨_,.refl _,K s.q,af,ag,au,Y.und' _,aj,ah⟩
 simp-dsimp[go_sem,hN];refine xc1 10 9 [0] mixed ac ?_;simp-dsimp[go_sem,hN,Y.lm',Y.lio',Y.len,Y.loc,Y.sioA,Y.smx'];refine⟨aa,?_⟩;rw[uj,if_neg aa];exact⟨_,.refl _,K ⟨s.vars,s.own,s.out++[x],s.reads,s.puts,s.out.length+1,s.reads.length,s.puts.length,s.steps⟩,af,ag,au,Y.und' _,aj,ah⟩
theorem jds(Y:MHs C tT tx g m v o io ir ip K n0)(s:MS)(key:g9)(ha:jp s.reads)(hl:s.reads.length+1≤68719476736) :
  ACalls prog 266 [.ptr m 0,S key] (K s.q) fun r h'=>r=og (r5 C key s).1∧h'=K (r5 C key s).2.q:=by
 refine lw func266 ntmps266 rfl ac rfl fun E hN hh hu hb il kr=>?_;simp-dsimp[go_sem,hN];refine ia (qe2 key) ?_;simp-dsimp[go_sem,hN];refine gy ?_ ?_<;>intro h0<;>simp at h0
 ·simp-dsimp[go_sem,hN];refine it (qbf 1004 _) ?_;rintro r h' ⟨rfl,rfl⟩;simp-dsimp[go_sem,hN];rw[r5,if_pos h0];exact⟨_,.refl _,K s.q,af,ag,au,Y.und' _,aj,ah⟩
 rw[r5,if_neg cg];rcases hk:jg s.own key with _|w
 rotate_left
 ·simp-dsimp[go_sem,hN,Y.lm',Y.lo',hk];exact⟨_,.refl _,K s.q,af,ag,au,Y.und' _,aj,ah⟩
 simp-dsimp[go_sem,hN,Y.lm',Y.lo',hk];refine ka (xk9 C.rd key) ae ?_;simp-dsimp[go_sem,hN]
 repeat refine⟨ax,?_⟩
 refine gy ?_ ?_<;>intro h1<;>simp at h1
 ·simp-dsimp[go_sem,hN];refine it (xo2 key _) ?_;rintro r h' ⟨rfl,rfl⟩;simp-dsimp[go_sem,hN];simp only[h1.1,h1.2,and_self,if_true];exact⟨_,.refl _,K s.q,af,ag,au,Y.und' _,aj,ah⟩
 have ll:¬(C.all=false∧jk C.rd key=false):=qjj;simp only[ll,if_false];simp-dsimp[go_sem,hN,Y.lm',Y.lir'];refine it (xm5 _ _ s.reads (Y.lir' s.q _) aa key ha) ?_;rintro r h' ⟨rfl,rfl⟩;simp-dsimp[go_sem,hN,Y.sir',Y.lm',Y.smx',Y.len,Y.loc,Y.sloc,Y.loc1,Y.sloc1];refine ia (jms C.state key) ?_;simp-dsimp[go_sem,hN,Y.sir',Y.lm',Y.smx',Y.len,Y.loc,Y.sloc,Y.loc1,Y.sloc1];exact⟨_,.refl _,K (MS.q { s with reads:=sq s.reads key }),af,ag,au,Y.und' _,aj,ah⟩
theorem xtf(Y:MHs C tT tx g m v o io ir ip K n0)(s:MS)(key:g9)(x:V)(ha:jp s.puts)(hl:s.puts.length+1≤68719476736) :
  ACalls prog 170 [.ptr m 0,S key,.agg x.c] (K s.q) fun r h'=>r=nt (qz C key x s).1∧h'=K (qz C key x s).2.q:=by
 refine lw func170 ntmps170 rfl ac rfl fun E hN hh hu hb il kr=>?_;simp-dsimp[go_sem,hN];refine ia (qe2 key) ?_;simp-dsimp[go_sem,hN];refine gy ?_ ?_<;>intro h0<;>simp at h0
 ·simp-dsimp[go_sem,hN];refine it (qbf 1004 _) ?_;rintro r h' ⟨rfl,rfl⟩;simp-dsimp[go_sem,hN];rw[qz,if_pos h0];exact⟨_,.refl _,K s.q,af,ag,au,Y.und' _,aj,ah⟩
 rw[qz,if_neg cg];simp-dsimp[go_sem,hN,Y.lm'];refine ka (xk9 C.wr key) ae ?_;simp-dsimp[go_sem,hN]
 repeat refine⟨ax,?_⟩
 refine gy ?_ ?_<;>intro h1<;>simp at h1
 ·simp-dsimp[go_sem,hN];refine it (xo2 key _) ?_;rintro r h' ⟨rfl,rfl⟩;simp-dsimp[go_sem,hN];simp only[h1.1,h1.2,and_self,if_true];exact⟨_,.refl _,K s.q,af,ag,au,Y.und' _,aj,ah⟩
 have ll:¬(C.all=false∧jk C.wr key=false):=qjj;simp only[ll,if_false];simp-dsimp[go_sem,hN,Y.lm',Y.lip'];refine it (xm5 _ _ s.puts (Y.lip' s.q _) aa key ha) ?_;rintro r h' ⟨rfl,rfl⟩;simp-dsimp[go_sem,hN,Y.sip',Y.lm',Y.smx'];refine kf 6 mixed ac ac ?_;simp-dsimp[go_sem,hN,Y.lm',Y.lo',Y.len,Y.loc,Y.so'];exact⟨_,.refl _,K (MS.q { s with puts:=sq s.puts key,own:=js s.own key x }),af,ag,au,Y.und' _,aj,ah⟩
end
end Go.Proofs.YtbimdamecieomaaGreatDoor
