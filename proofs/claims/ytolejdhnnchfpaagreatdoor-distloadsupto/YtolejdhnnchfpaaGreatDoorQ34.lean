/- Part 34 of a proof. -/
import Derived.Test.YtolejdhnnchfpaaGreatDoorQ26
import Derived.Test.YtolejdhnnchfpaaGreatDoorQ33
set_option linter.all false
set_option maxRecDepth 4000
set_option maxHeartbeats 2000000
namespace Go.Proofs.YtolejdhnnchfpaaGreatDoor
open Go Go.Abs Go.Cw Go.Proofs.Tryz
theorem xit(l:List Pr):APure prog 52 [.slice (l.map Pr.c)] (.slice (l.map Pr.c)):=by
 refine lz func52 rfl ae ac rfl ?_;intro E h hN hh hu hb;rw[ntmps52]at hN;simp[go_sem]at hb;refine tg (qr6 ?_);simp[go_sem,hN];refine tg (tg (qeq [_] _ ?_));simp[go_sem,hN];intro c a w s k;refine je6 s (el:=59) (sz:=4) (x:=.tmp 3) (rows:=l.map Pr.c) (d1:=4) rfl rfl aa rfl ac ag ag λb a' hbn s'=>?_;refine qca _ [_,_] _ rfl ?_ c a' w s' k;simp[go_sem,hN];cases b with
 |true =>
  have hl:l=[]:=ca;subst hl;apply jo;simp-dsimp[go_sem,hN]
 |false =>
  refine qy1 (x:=.tmp 4) (b:=false) ag (λh=>by cases h) (λ_=>xcp ?_);simp only[jg6];refine tg (qeq [] _ ?_);simp[go_sem,hN];intro c a w s k;refine jdp s k (el:=59) (sz:=4) (d1:=5) rfl rfl aa rfl ac ac ac aa λc' a' w' s' k'=>?_;refine qca _ [_] _ rfl ?_ c' a' w' s' k';simp[go_sem,hN];refine⟨hb.1,?_⟩;apply jo;simp-dsimp[go_sem,hN]
theorem xlm(p q:Pr):APure prog 69 [.agg p.c,.agg q.c] (I (qti p.key q.key)):=by
 refine lz func69 rfl ae ac rfl ?_;intro E h hN hh hu hb;rw[ntmps69]at hN;refine jo _ _ _ ?_;simp-dsimp[go_sem,hN];refine iv (xum p.key q.key) ?_;simp-dsimp[go_sem,hN]
theorem xy2(p:Pr)(h:g9)(o i:Nat)(l:List Pr)(hp:h[o]?=some (.cells [.own i l.length]))(hi:h[i]?=some (.arr 59 4 (l.map Pr.c)))(hl:l.length+1<=68719476736) :
  ACalls prog 146 [.agg p.c,.ptr o 0] h λr h'=>r=.ret (.tuple [])/\h'=(h.set i (.arr 59 4 ((l++[p]).map Pr.c))).set o (.cells [.own i (l++[p]).length]):=by
 refine mh func146 ntmps146 rfl ae rfl λE hN hh hu hb iq ju=>?_;simp[go_sem]at hb;have hp':o<h.length:=(cm.1 hp).1;have ke:i<h.length:=(cm.1 hi).1;have hpi:o≠i:=af;have a1:∀l:g9,(h++l)[o]?=h[o]?:=λl=>co hp';have a2:∀l:g9,(h++l)[i]?=h[i]?:=λl=>co ke;have a3:∀(l:g9) (y:AObj),(h++l).set o y=h.set o y++l:=λl y=>e6 _ _ hp';have a4:∀(l:g9) (y:AObj),(h++l).set i y=h.set i y++l:=λl y=>e6 _ _ ke;have a5:∀(l:g9) (q y:AObj),(h.set i q++l).set o y=(h.set i q).set o y++l:=λl q y=>e6 _ _ af;have a6:∀(l:g9) (q:AObj),(h.set i q++l)[o]?=h[o]?:=λl q=>by rw[co af,ct (Ne.symm hpi)]
 have hus:∀(r:List (List AV)) (n:Nat),hUnder h.length ((h.set i (.arr 59 4 r)).set o (.cells [.own i n]))=true:=λr n=>qh (qh hu qhk) qg0;simp-dsimp[go_sem,hN,a1,a2,a3,a4,a5,a6,hp,hi];refine⟨aa,?_⟩;exact⟨_,.refl _,_,rfl,hwk.app0 _,ac,qio,rfl,ac⟩
def pg(h:g9)(l:List Pr):g9:=h++[.cells [.own (h.length+3) l.length],.cells [.fn (.func 146) [] [.ptr h.length 0]],.cells [.fn (.func 147) [] [.ptr (h.length+1) 0]],.arr 59 4 (l.map Pr.c)]
theorem qui{h:g9}(hu:hUnder h.length h=true)(l:List Pr):hUnder (pg h l).length (pg h l)=true:=by
 unfold pg;rw[qx,uk ac hu];simp[go_sem]
theorem xrp{h:g9}(hu:hUnder h.length h=true){l:List Pr}(l':List Pr){L:g9}(hL:hUnder (pg h l++L).length (pg h l++L)=true):hUnder (pg h l'++L).length (pg h l'++L)=true:=by
 rw[qx,cw]at hL|-;refine⟨?_,?_⟩
 .exact uk ac (qui hu l')
 .grind[pg]
theorem xib(h:g9)(l:List Pr):(pg h l).length=h.length+4:=by simp[pg]
theorem xyh(h:g9)(l:List Pr)(p:Pr)(L:g9)(hl:l.length+1<=68719476736):ACalls prog 146 [.agg p.c,.ptr h.length 0] (pg h l++L) λr h'=>r=.ret (.tuple [])/\h'=pg h (l++[p])++L:=by
 have:=xy2 p (pg h l++L) h.length (h.length+3) l (by simp[pg]) (by simp[pg]) hl;simpa[pg]using this
def qpl(l:List Pr)(p:Pr):List Pr:=if p.v.k=0 then l else l++[p]
theorem jcl(h:g9)(u6:hUnder h.length h=true)(l:List Pr)(p:Pr)(L:g9)(hl:l.length+1<=68719476736):ACalls prog 147 [.agg p.c,.ptr (h.length+1) 0] (pg h l++L) λr h'=>r=.ret (.tuple [])/\h'=pg h (qpl l p)++L:=by
 refine mh func147 ntmps147 rfl ae rfl λE hN hh hu hb iq ju=>?_;have e1:∀X:g9,(pg h l++X)[h.length+1]?=some (.cells [.fn (.func 146) [] [.ptr h.length 0]]):=λX=>by simp[pg]
 have e2:∀(l:List Pr),(pg h l).length=h.length+4:=λl=>xib h l;simp-dsimp[go_sem,hN,e1,e2,dn];refine iv (xr5 p) ?_;simp-dsimp[go_sem,hN];refine ii ?_ ?_<;>intro h0<;>simp at h0
 .simp-dsimp[go_sem,hN,e1,e2,dn];have hk:=xyh h l p (L++[.cells p.c]) hl;refine iy (by simpa[go_sem]using hk) ?_;rintro r h' ⟨rfl,rfl⟩;simp-dsimp[go_sem,hN];rw[qpl,if_neg h0];exact⟨_,.refl _,pg h (l++[p])++L,rfl,qgc,by simp[pg];omega,xrp u6 _ hu,rfl,rfl⟩
 .simp-dsimp[go_sem,hN];rw[qpl,if_pos h0];exact⟨_,.refl _,pg h l++L,rfl,qgc,ac,hu,rfl,rfl⟩
theorem xvu(h:g9)(u6:hUnder h.length h=true)(l:List Pr)(q p:Pr)(L:g9)(hl:l.length+1<=68719476736):ACalls prog 148 [.agg q.c,.agg p.c,.ptr (h.length+2) 0] (pg h l++L) λr h'=>r=.ret (.tuple [])/\h'=pg h (qpl l p)++L:=by
 refine mh func148 ntmps148 rfl ae rfl λE hN hh hu hb iq ju=>?_;have e1:∀X:g9,(pg h l++X)[h.length+2]?=some (.cells [.fn (.func 147) [] [.ptr (h.length+1) 0]]):=λX=>by simp[pg]
 have e2:∀(l:List Pr),(pg h l).length=h.length+4:=λl=>xib h l;simp-dsimp[go_sem,hN,e1,e2,dn];have hk:=jcl h u6 l p (L++[.cells q.c,.cells p.c]) hl;refine iy (by simpa[go_sem]using hk) ?_;rintro r h' ⟨rfl,rfl⟩;simp-dsimp[go_sem,hN];exact⟨_,.refl _,pg h (qpl l p)++L,rfl,qgc,by simp[pg];omega,xrp u6 _ hu,rfl,rfl⟩
theorem xgr(iw:List Pr)(q:Pr)(l:List Pr):iw++qrk q l=qpl iw q++l:=by grind[qrk,qpl]
theorem xjf(l:List Pr)(p:Pr):(qpl l p).length<=l.length+1:=by grind[qpl]
theorem jcp(h:g9)(u6:hUnder h.length h=true)(a b:List Pr)(hB:a.length+b.length<=68719476735) :
  ACalls prog 68 [.slice (a.map Pr.c),.slice (b.map Pr.c),.fn (.func 69) [] [],.fn (.func 146) [] [.ptr h.length 0],.fn (.func 147) [] [.ptr (h.length+1) 0],.fn (.func 148) [] [.ptr (h.length+2) 0]] (pg h []) λr h'=>r=.ret (.tuple [])/\h'=pg h (o8 a b):=by
 refine re func68 rfl ae ac ?_;intro E hN hh hu hb iq ju;rw[ntmps68]at hN;refine jo _ _ _ ?_;simp[go_sem]at hb;have e2:∀(l:List Pr),(pg h l).length=h.length+4:=λl=>xib h l;simp-dsimp[go_sem,hN];refine qvb (α:=Nat×Nat×List Pr) (λx=>x.1<=a.length/\x.2.1<=b.length/\x.2.2.length<=x.1+x.2.1/\x.2.2++o8 (a.drop x.1) (b.drop x.2.1)=o8 a b)
  (λx=>⟨[(0,.slice (a.map Pr.c)),(1,.slice (b.map Pr.c)),(2,.fn (.func 69) [] []),(3,.fn (.func 146) [] [.ptr h.length 0]),(4,.fn (.func 147) [] [.ptr (h.length+1) 0]),(5,.fn (.func 148) [] [.ptr (h.length+2) 0]),(12,I x.1),(13,I x.2.1)],pg h x.2.2⟩) (λx=>a.length+b.length - x.1 - x.2.1) (0,0,[]) ac ?_ ?_
 .exact Wk.mk af ac (qui u6 []) bv
 rintro⟨i,k,iw⟩ ⟨hi,hk,hal,hI⟩;dsimp only at hi hk hal hI|-;simp-dsimp[go_sem,hN];refine ii ?_ ?_<;>intro hc<;>simp at hc
 .simp-dsimp[go_sem,hN];refine ii ?_ ?_<;>intro h1<;>simp at h1
  .have pj:k<b.length:=aa;have hw:IntKind.i64.wrap ((k:Int)+1)=((k+1:Nat):Int):=cf;rw[cq (show a.length<=i by omega),jv pj,o8,xgr]at hI;simp-dsimp[go_sem,hN,pj];refine iy qhh ?_;rintro r h' ⟨rfl,rfl⟩;simp-dsimp[go_sem,hN,hw];have rh:=xjf iw b[k];exact⟨i,k+1,qpl iw b[k],⟨hi,aa,aa,by rw[cq (show a.length<=i by omega)];exact hI⟩,aa,Wk.mk af ac (qui u6 _) bv⟩
  .have uz:i<a.length:=aa;have hw:IntKind.i64.wrap ((i:Int)+1)=((i+1:Nat):Int):=cf;simp-dsimp[go_sem,hN];refine ii ?_ ?_<;>intro h2<;>simp at h2
   .rw[cq (show b.length<=k by omega),jv uz,o8]at hI;simp-dsimp[go_sem,hN,uz];refine iy qhr ?_;rintro r h' ⟨rfl,rfl⟩;simp-dsimp[go_sem,hN,hw];exact⟨i+1,k,iw++[a[i]],⟨aa,hk,az,by rw[cq (show b.length<=k by omega)];simpa using hI⟩,aa,Wk.mk af ac (qui u6 _) bv⟩
   .have pj:k<b.length:=aa;have oh:IntKind.i64.wrap ((k:Int)+1)=((k+1:Nat):Int):=cf;have lw:=xew a[i].key b[k].key;have quq:=xew b[k].key a[i].key;rw[jv uz,jv pj,o8]at hI;simp-dsimp[go_sem,hN,uz,pj];refine jt 9 mixed ae ae ?_;simp-dsimp[go_sem,hN,uz,pj];refine iv (xlm a[i] b[k]) ?_;simp-dsimp[go_sem,hN];refine ii ?_ ?_<;>intro h3<;>simp at h3
    .rw[if_pos (lw.1.1 h3)]at hI;simp-dsimp[go_sem,hN,uz,pj];refine iy qhr ?_;rintro r h' ⟨rfl,rfl⟩;simp-dsimp[go_sem,hN,hw];exact⟨i+1,k,iw++[a[i]],⟨aa,hk,az,by rw[jv pj];simpa using hI⟩,aa,Wk.mk af ac (qui u6 _) bv⟩
    rw[if_neg (λg=>absurd (lw.1.2 g) aa)]at hI;simp-dsimp[go_sem,hN];refine ii ?_ ?_<;>intro h4<;>simp at h4
    .have h5:js b[k].key a[i].key=true:=by
      rcases qjn (js b[k].key a[i].key)with g|g
      .exact g
      .grind[qvh]
     rw[if_pos h5,xgr]at hI;simp-dsimp[go_sem,hN,uz,pj];refine iy qhh ?_;rintro r h' ⟨rfl,rfl⟩;simp-dsimp[go_sem,hN,oh];have rh:=xjf iw b[k];exact⟨i,k+1,qpl iw b[k],⟨hi,aa,aa,by rw[jv uz];exact hI⟩,aa,Wk.mk af ac (qui u6 _) bv⟩
    .have he:a[i].key=b[k].key:=lw.2.1 aa;rw[if_neg af,xgr]at hI;simp-dsimp[go_sem,hN,uz,pj];refine jt 9 mixed ae ae ?_;simp-dsimp[go_sem,hN,uz,pj];refine iy (by simpa[go_sem]using xvu h u6 iw a[i] b[k] [] aa) ?_;rintro r h' ⟨rfl,rfl⟩;simp-dsimp[go_sem,hN,hw,oh];have rh:=xjf iw b[k];exact⟨i+1,k+1,qpl iw b[k],⟨aa,aa,aa,hI⟩,aa,Wk.mk af ac (qui u6 _) bv⟩
 .rw[cq (show a.length<=i by omega),cq (show b.length<=k by omega),o8,ej]at hI;subst hI;simp-dsimp[go_sem,hN];exact⟨_,.refl _,pg h (o8 a b),rfl,hwk.refl _,by simp[e2],qui u6 _,rfl,rfl⟩
theorem xxf(w:List Pr):qsy none w=r9 w:=by rw[xhd];rfl
theorem xtn(l w:List Pr)(hB:l.length+w.length<68719476736):APure prog 103 [.slice (l.map Pr.c),.slice (w.map Pr.c)]
  (if jl l&&r9 w then .tuple [.slice ((rx l w).map Pr.c),I 0]else .tuple [.slice [],I 1]):=by
 refine lz func103 rfl ae (by simp[ntmps103]) (by split<;>rfl) ?_;intro E h hN hh hu hb;rw[ntmps103]at hN;refine jo _ _ _ ?_;simp[go_sem]at hb;have hs:=xp2 w;rw[xxf]at hs;simp-dsimp[go_sem,hN];refine iv (qb6 l) ?_;simp-dsimp[go_sem,hN];refine kq hs ac ?_;simp-dsimp[go_sem,hN];refine ii ?_ ?_<;>intro h0<;>simp at h0
 .simp-dsimp[go_sem,hN];grind
 rw[h0.1,h0.2];have hm:o8 l w=rx l w:=xt4 ((tn l).1 h0.1).2.2 ((qbp w).1 h0.2).2.2;simp-dsimp[go_sem,hN];have hk:=jcp h hu l w aa;rw[hm]at hk;have oh:∀E:Ent,Wk E ⟨[],h++[.cells [.nils],.cells [.fn (.func 146) [] [.ptr h.length 0]],.cells [.fn (.func 147) [] [.ptr (h.length+1) 0]]]⟩ ⟨[],pg h []⟩:=λE=>by
  have:=qol E ⟨[],h++[.cells [.nils],.cells [.fn (.func 146) [] [.ptr h.length 0]],.cells [.fn (.func 147) [] [.ptr (h.length+1) 0]]]⟩ (p:=h.length) (j:=0) (t:=59) (sz:=4) (xs:=[.nils]) ac rfl;simpa[pg]using this
 refine iy (xc7 oh hk) ?_;rintro r h' ⟨rfl,rfl⟩;simp-dsimp[go_sem,hN,pg]
end Go.Proofs.YtolejdhnnchfpaaGreatDoor
set_option maxRecDepth 8000
set_option maxHeartbeats 4000000
namespace Go.Proofs.YtolejdhnnchfpaaGreatDoor
open Go Go.Abs Go.Cw Go.Proofs.Tryz
theorem jat(p:Pr)(h:g9)(o i:Nat)(l:List Pr)(hp:h[o]?=some (.cells [.own i l.length]))(hi:h[i]?=some (.arr 59 4 (l.map Pr.c)))(hl:l.length+1<=68719476736) :
  ACalls prog 67 [.agg p.c,.ptr o 0] h λr h'=>r=.ret (.tuple [])/\h'=(h.set i (.arr 59 4 ((l++[p]).map Pr.c))).set o (.cells [.own i (l++[p]).length]):=by
 refine re func67 rfl ae ac ?_;intro E hN hh hu hb iq ju;rw[ntmps67]at hN;refine jo _ _ _ ?_;simp[go_sem]at hb;have hp':o<h.length:=(cm.1 hp).1;have ke:i<h.length:=(cm.1 hi).1;have hpi:o≠i:=af;have a1:∀l:g9,(h++l)[o]?=h[o]?:=λl=>co hp';have a2:∀l:g9,(h++l)[i]?=h[i]?:=λl=>co ke;have a3:∀(l:g9) (y:AObj),(h++l).set o y=h.set o y++l:=λl y=>e6 _ _ hp';have a4:∀(l:g9) (y:AObj),(h++l).set i y=h.set i y++l:=λl y=>e6 _ _ ke;have a5:∀(l:g9) (q y:AObj),(h.set i q++l).set o y=(h.set i q).set o y++l:=λl q y=>e6 _ _ af;have a6:∀(l:g9) (q:AObj),(h.set i q++l)[o]?=h[o]?:=λl q=>by rw[co af,ct (Ne.symm hpi)]
 have hus:∀(r:List (List AV)) (n:Nat),hUnder h.length ((h.set i (.arr 59 4 r)).set o (.cells [.own i n]))=true:=λr n=>qh (qh hu qhk) qg0;simp-dsimp[go_sem,hN,a1,a2,a3,a4,a5,a6,hp,hi];refine⟨aa,?_⟩;exact⟨_,.refl _,_,rfl,hwk.app0 _,ac,qio,rfl,ac⟩
def qw(h:g9)(l:List Pr)(tw:Bool):g9:=h++[.cells [.own (h.length+2) l.length],.cells [Bo tw],.arr 59 4 (l.map Pr.c)]
theorem qvk{h:g9}(hu:hUnder h.length h=true)(l:List Pr)(tw:Bool):hUnder (qw h l tw).length (qw h l tw)=true:=by
 unfold qw;rw[qx,uk ac hu];simp[go_sem]
theorem xn1(h:g9)(l:List Pr)(tw:Bool):(qw h l tw).length=h.length+3:=qhy
theorem jn1(h:g9)(l:List Pr)(tw:Bool)(p:Pr)(L:g9)(hl:l.length+1<=68719476736):ACalls prog 67 [.agg p.c,.ptr h.length 0] (qw h l tw++L) λr h'=>r=.ret (.tuple [])/\h'=qw h (l++[p]) tw++L:=by
 have:=jat p (qw h l tw++L) h.length (h.length+2) l qhy qhy hl;simpa[qw]using this
theorem jfb(h:g9)(u6:hUnder h.length h=true)(l:List Pr)(tw:Bool)(q p:Pr)(L:g9):ACalls prog 70 [.agg q.c,.agg p.c,.ptr (h.length+1) 0] (qw h l tw++L) λr h'=>r=.ret (.tuple [])/\h'=qw h l true++L:=by
 refine re func70 rfl ae ac ?_;intro E hN hh hu hb iq ju;rw[ntmps70]at hN;refine jo _ _ _ ?_;have e1:∀X:g9,(qw h l tw++X)[h.length+1]?=some (.cells [Bo tw]):=λX=>by simp[qw]
 have e2:∀(l:List Pr) (t:Bool),(qw h l t).length=h.length+3:=λl t=>xn1 h l t;have e3:∀(X:g9) (y:AObj),(qw h l tw++X).set (h.length+1) y=h++[.cells [.own (h.length+2) l.length],y,.arr 59 4 (l.map Pr.c)]++X:=λX y=>by simp[qw]
 simp-dsimp[go_sem,hN,e1,e2,e3,dn];have hx:qw h l true++L++[.cells q.c,.cells p.c]=h++.cells [.own (h.length+2) l.length]::.cells [.val (.bool true)]::.arr 59 4 (l.map Pr.c)::(L++[.cells q.c,.cells p.c]):=qhy;have hy:hUnder (qw h l true++L).length (qw h l true++L)=true:=by
  rw[qx,cw]at hu|-;refine⟨uk ac (qvk u6 l true),?_⟩;have e:(qw h l true++L).length=(qw h l tw++L).length:=qhy;rw[e];exact hu.2
 exact⟨_,.refl _,qw h l true++L,rfl,by have:=hwk.app0 (l:=[.cells q.c,.cells p.c]) (qw h l true++L);rw[hx]at this;exact this,by simp[qw];omega,hy,rfl,rfl⟩
theorem xju(a:List Pr):qn a []=(a,false):=by cases a<;>rw[qn]
theorem xzi(h:g9)(u6:hUnder h.length h=true)(a b:List Pr)(hB:a.length+b.length<=68719476735) :
  ACalls prog 68 [.slice (a.map Pr.c),.slice (b.map Pr.c),.fn (.func 69) [] [],.fn (.func 67) [] [.ptr h.length 0],.fn (.func 67) [] [.ptr h.length 0],.fn (.func 70) [] [.ptr (h.length+1) 0]] (qw h [] false) λr h'=>r=.ret (.tuple [])/\((qn a b).2=false->h'=qw h (qn a b).1 false)/\((qn a b).2=true->∃l,h'=qw h l true):=by
 refine re func68 rfl ae ac ?_;intro E hN hh hu hb iq ju;rw[ntmps68]at hN;refine jo _ _ _ ?_;simp[go_sem]at hb;have e2:∀(l:List Pr) (t:Bool),(qw h l t).length=h.length+3:=λl t=>xn1 h l t;simp-dsimp[go_sem,hN];refine qvb (α:=Nat×Nat×List Pr×Nat) (λx=>x.1<=a.length/\x.2.1<=b.length/\x.2.2.1.length<=x.1+x.2.1/\(x.2.2.1++(qn (a.drop x.1) (b.drop x.2.1)).1=(qn a b).1)/\(decide (x.2.2.2=1)||(qn (a.drop x.1) (b.drop x.2.1)).2)=(qn a b).2)
  (λx=>⟨[(0,.slice (a.map Pr.c)),(1,.slice (b.map Pr.c)),(2,.fn (.func 69) [] []),(3,.fn (.func 67) [] [.ptr h.length 0]),(4,.fn (.func 67) [] [.ptr h.length 0]),(5,.fn (.func 70) [] [.ptr (h.length+1) 0]),(12,I x.1),(13,I x.2.1)],qw h x.2.2.1 (decide (x.2.2.2=1))⟩) (λx=>a.length+b.length - x.1 - x.2.1) (0,0,[],0) ac ?_ ?_
 .exact Wk.mk af ac (qvk u6 [] false) bv
 rintro⟨i,k,iw,tw⟩ ⟨hi,hk,hal,hI,hJ⟩;dsimp only at hi hk hal hI hJ|-;simp-dsimp[go_sem,hN];refine ii ?_ ?_<;>intro hc<;>simp at hc
 .simp-dsimp[go_sem,hN];refine ii ?_ ?_<;>intro h1<;>simp at h1
  .have pj:k<b.length:=aa;have hw:IntKind.i64.wrap ((k:Int)+1)=((k+1:Nat):Int):=cf;rw[cq (show a.length<=i by omega),qn]at hI hJ;rw[jv pj]at hI;simp-dsimp[go_sem,hN,pj];refine iy qg2 ?_;rintro r h' ⟨rfl,rfl⟩;simp-dsimp[go_sem,hN,hw];exact⟨i,k+1,iw++[b[k]],tw,⟨hi,aa,az,by rw[cq (show a.length<=i by omega),qn];simpa using hI,by rw[cq (show a.length<=i by omega),qn];exact hJ⟩,aa,Wk.mk af ac (qvk u6 _ _) bv⟩
  .have uz:i<a.length:=aa;have hw:IntKind.i64.wrap ((i:Int)+1)=((i+1:Nat):Int):=cf;simp-dsimp[go_sem,hN];refine ii ?_ ?_<;>intro h2<;>simp at h2
   .rw[cq (show b.length<=k by omega),xju]at hI hJ;rw[jv uz]at hI;simp-dsimp[go_sem,hN,uz];refine iy qg3 ?_;rintro r h' ⟨rfl,rfl⟩;simp-dsimp[go_sem,hN,hw];exact⟨i+1,k,iw++[a[i]],tw,⟨aa,hk,az,by rw[cq (show b.length<=k by omega),xju];simpa using hI,by rw[cq (show b.length<=k by omega),xju];exact hJ⟩,aa,Wk.mk af ac (qvk u6 _ _) bv⟩
   .have pj:k<b.length:=aa;have oh:IntKind.i64.wrap ((k:Int)+1)=((k+1:Nat):Int):=cf;have lw:=xew a[i].key b[k].key;have quq:=xew b[k].key a[i].key;rw[jv uz,jv pj,qn]at hI hJ;simp-dsimp[go_sem,hN,uz,pj];refine jt 9 mixed ae ae ?_;simp-dsimp[go_sem,hN,uz,pj];refine iv (xlm a[i] b[k]) ?_;simp-dsimp[go_sem,hN];refine ii ?_ ?_<;>intro h3<;>simp at h3
    .rw[if_pos (lw.1.1 h3)]at hI hJ;simp-dsimp[go_sem,hN,uz,pj];refine iy qg3 ?_;rintro r h' ⟨rfl,rfl⟩;simp-dsimp[go_sem,hN,hw];exact⟨i+1,k,iw++[a[i]],tw,⟨aa,hk,az,by rw[jv pj];simpa using hI,by rw[jv pj];exact hJ⟩,aa,Wk.mk af ac (qvk u6 _ _) bv⟩
    rw[if_neg (λg=>absurd (lw.1.2 g) aa)]at hI hJ;simp-dsimp[go_sem,hN];refine ii ?_ ?_<;>intro h4<;>simp at h4
    .have h5:js b[k].key a[i].key=true:=by
      rcases qjn (js b[k].key a[i].key)with g|g
      .exact g
      .grind[qvh]
     rw[if_pos h5]at hI hJ;simp-dsimp[go_sem,hN,uz,pj];refine iy qg2 ?_;rintro r h' ⟨rfl,rfl⟩;simp-dsimp[go_sem,hN,oh];exact⟨i,k+1,iw++[b[k]],tw,⟨hi,aa,az,by rw[jv uz];simpa using hI,by rw[jv uz];exact hJ⟩,aa,Wk.mk af ac (qvk u6 _ _) bv⟩
    .have he:a[i].key=b[k].key:=lw.2.1 aa;rw[if_neg af]at hI hJ;simp-dsimp[go_sem,hN,uz,pj];refine jt 9 mixed ae ae ?_;simp-dsimp[go_sem,hN,uz,pj];refine iy (by simpa[go_sem]using jfb h u6 iw (decide (tw=1)) a[i] b[k] []) ?_;rintro r h' ⟨rfl,rfl⟩;simp-dsimp[go_sem,hN,hw,oh];exact⟨i+1,k+1,iw,1,⟨aa,aa,aa,hI,by simpa using hJ⟩,aa,Wk.mk af ac (qvk u6 _ _) bv⟩
 .rw[cq (show a.length<=i by omega),cq (show b.length<=k by omega),qn,ej]at hI;rw[cq (show a.length<=i by omega),cq (show b.length<=k by omega),qn,Bool.or_false]at hJ;subst hI;rw[hJ];simp-dsimp[go_sem,hN];refine⟨_,.refl _,qw h (qn a b).1 (qn a b).2,rfl,hwk.refl _,by simp[e2],qvk u6 _ _,rfl,λh=>by rw[h],λh=>⟨_,by rw[h]⟩⟩
theorem xpo(a b:List Pr)(hB:a.length+b.length<68719476736):APure prog 35 [.slice (a.map Pr.c),.slice (b.map Pr.c)] (.tuple [.slice ((ws a b).1.map Pr.c),I (ws a b).2]):=by
 obtain⟨R,hR⟩:∃R,ws a b=R:=⟨_,rfl⟩
 rw[hR];unfold ws at hR;refine lz func35 rfl ae ac rfl ?_;intro E h hN hh hu hb;rw[ntmps35]at hN;refine jo _ _ _ ?_;simp[go_sem]at hb;simp-dsimp[go_sem,hN];refine iv (qb6 a) ?_;simp-dsimp[go_sem,hN];refine kq (qb6 b) ac ?_;simp-dsimp[go_sem,hN];refine ii ?_ ?_<;>intro h0<;>simp at h0
 .rw[if_pos h0]at hR;subst hR;simp-dsimp[go_sem,hN]
 rw[if_neg af]at hR;have hk:=xzi h hu a b aa;have hany:=xie a b ((tn a).1 h0.1).2.2 ((tn b).1 h0.2).2.2;have hmm:=xev a b (λq hq=>(((tn b).1 h0.2).1 q hq).2);have oh:∀E:Ent,Wk E ⟨[],h++[.cells [.nils],.cells [Bo false]]⟩ ⟨[],qw h [] false⟩:=λE=>by
  have:=qol E ⟨[],h++[.cells [.nils],.cells [Bo false]]⟩ (p:=h.length) (j:=0) (t:=59) (sz:=4) (xs:=[.nils]) ac rfl;simpa[qw]using this
 simp-dsimp[go_sem,hN];refine iy (xc7 oh hk) ?_;rintro r h' ⟨rfl,k1,k2⟩;rcases hx:(qn a b).2 with _|_
 .rw[k1 hx];rw[hx]at hany;rw[if_neg af]at hR;have hm:o8 a b=rx a b:=xt4 ((tn a).1 h0.1).2.2 ((tn b).1 h0.2).2.2;rw[hmm hx,hm];subst hR;simp-dsimp[go_sem,hN,qw]
 .obtain⟨l,rfl⟩:=k2 hx;rw[hx]at hany;rw[if_pos hany.symm]at hR;subst hR;simp-dsimp[go_sem,hN,qw]
attribute [go_sem] Shard.c
theorem qxs(p:Plc)(s:List Pr):APure prog 14 [.agg p.c,.slice (s.map Pr.c)] (.slice ((m5 p s).map Shard.c)):=by
 have nk:=qv0 p;have qm:=qc0 p;have it:m5 p s=if (jy p&&jl s)=true then(nq p).map λn=>⟨n,pq p s n⟩else []:=rfl;obtain⟨v,hv⟩:∃v,jy p=v:=⟨_,rfl⟩
 rw[hv]at nk it;rw[it];refine lz func14 rfl ae ac rfl ?_;intro E h hN hh hu hb;rw[ntmps14]at hN;refine jo _ _ _ ?_;simp[go_sem,Plc.c]at hb;simp-dsimp[go_sem,hN,Plc.c];refine iv nk ?_;simp-dsimp[go_sem,hN];refine kq (qb6 s) ac ?_;simp-dsimp[go_sem,hN];refine ii ?_ ?_<;>intro h0<;>simp at h0
 .rw[if_neg af];simp-dsimp[go_sem,hN]
 obtain⟨rfl,h1⟩:=h0;rw[if_pos af];simp-dsimp[go_sem,hN,Plc.c];refine iv (qzj p) ?_;simp-dsimp[go_sem,hN];obtain⟨l,hl⟩:∃l,nq p=l:=⟨_,rfl⟩
 rw[hl]at qm|-;obtain⟨G,hG⟩:∃G:Int->Shard,G=λn=>⟨n,pq p s n⟩:=⟨_,rfl⟩
 rw[show(l.map λn=>(⟨n,pq p s n⟩:Shard))=l.map G by rw[hG]];obtain⟨F,hF⟩:∃F:Nat->List Shard,F=λn=>(l.take n).map G:=⟨_,rfl⟩
 have hF0:F 0=[]:=af;have w6:F l.length=l.map G:=af;have s9:∀n (hn:n<l.length),F (n+1)=F n++[G l[n]]:=λn hn=>by grind[ec]
 have uq:∀n,(F n).length<=16:=λn=>by grind
 have hGc:∀n,(G n).c=[I n,.slice ((pq p s n).map Pr.c)]:=λn=>by rw[hG];rfl
 rw[<-w6];refine jz l.length (λ_=>True) (λn=>⟨[(1,.slice (s.map Pr.c)),(2,.ptr h.length 0),(5,.own (h.length+1) (F n).length),(17,.slice (l.map ka)),(18,I l.length),(19,I n)],h++[.cells [I p.ver,.slice (p.parts.map Part.c)],.arr 53 2 ((F n).map Shard.c)]⟩) trivial ((qq1 E _ 5 53 2 ag).trans qes) ?_;intro n hn _;have hw:=jj hn (show l.length<=68719476736 by omega);have yb:=uq n;simp-dsimp[go_sem,hN];refine ii ?_ ?_<;>intro hc<;>simp at hc
 .have hs:=s9 n hc;simp-dsimp[go_sem,hN,hc,ka];refine iv (xka p s l[n] hv) ?_;simp-dsimp[go_sem,hN,hw];refine⟨aa,hc,?_⟩;rw[hs];exact Wk.mk ai ca am ag
 .have th:n=l.length:=aa;subst th;simp-dsimp[go_sem,hN]
theorem xbw(s:ig):APure prog 49 [S s] (Bo (qlu s)):=by
 refine lz func49 rfl ae ac rfl ?_;intro E h hN hh hu hb;rw[ntmps49]at hN;refine jo _ _ _ ?_;simp[go_sem]at hb;simp-dsimp[go_sem,hN];refine ii ?_ ?_<;>intro h0<;>simp at h0
 .simp-dsimp[go_sem,hN];simp[qlu,show ¬((s.size:Int)<=24)by omega]
 simp-dsimp[go_sem,hN];refine jz s.size (λn=>nz qt4 ((bl s).drop n)=nz qt4 (bl s)) (λn=>⟨[(0,S s),(3,I n)],h⟩) ac (Wk.mk ai ac aa ag) ?_;intro n hn hI;have hw:=jj hn hb;simp-dsimp[go_sem,hN];refine ii ?_ ?_<;>intro hc<;>simp at hc
 .rw[qnt hc,nz]at hI;simp-dsimp[go_sem,hN,hc];refine ii ?_ ?_<;>intro hg<;>simp at hg
  .simp-dsimp[go_sem,hN];have:qt4 (qq s n)=false:=qin;rw[this,fl]at hI;simp[qlu,<-hI]
  .simp-dsimp[go_sem,hN,hw];have:qt4 (qq s n)=true:=qin;rw[this,dh]at hI;exact⟨hc,hI,(Wk.mk ai ac aa ag)⟩
 .rw[qt1 aa,nz]at hI;simp-dsimp[go_sem,hN];simp[qlu,<-hI,h0]
theorem jc0(x:Part)(nx:ig)(last:Bool):APure prog 50 [.agg x.c,S nx,Bo last] (Bo (qo5 x (if last then none else some nx))):=by
 refine lz func50 rfl ae ac rfl ?_;intro E h hN hh hu hb;rw[ntmps50]at hN;refine jo _ _ _ ?_;simp-dsimp[go_sem,hN];refine ii ?_ ?_<;>intro hc<;>simp at hc
 .simp-dsimp[go_sem,hN,qo5,hc]
 simp-dsimp[go_sem,hN];refine kq (xbw _) ac ?_;simp-dsimp[go_sem,hN];cases last<;>simp[qo5,hc,z8]<;>exact λa b c d e=>⟨⟨⟨⟨a,b⟩,c⟩,d⟩,e⟩
theorem jef(choices:List Int)(step n:Nat)(hn:0<n):APure prog 32 [.slice (choices.map ka),I step,I n] (I (qrh choices step n)):=by
 refine lz func32 rfl ae ac rfl ?_;intro E h hN hh hu hb;rw[ntmps32]at hN;refine jo _ _ _ ?_;simp[go_sem]at hb;have hC:=jj5 (choices:=choices) (step:=step) (n:=n);by_cases hs:step<choices.length
 .rw[dif_pos hs]at hC;have hz:¬(choices.length:Int)<=(step:Int):=aa;simp-dsimp[go_sem,hN,hs,hz,ka];refine ii ?_ ?_<;>intro h0<;>simp at h0
  .rw[if_pos aa]at hC;simp-dsimp[go_sem,hN,hC]
  .rw[if_neg aa]at hC;obtain⟨c,hc⟩:=Int.eq_ofNat_of_zero_le (show 0<=choices[step]by omega);have hm:choices[step].tmod (n:Int)=((choices[step].toNat % n:Nat):Int):=af;simp-dsimp[go_sem,hN,hs,ka,hm,hC];omega
 .rw[dif_neg hs]at hC;have hz:(choices.length:Int)<=(step:Int):=aa;simp-dsimp[go_sem,hN,hz,hC]
theorem xq8(p:Plc)(x:Shard)(f:Foot):APure prog 137 [.agg p.c,.agg x.c,.agg f.c] (Bo (pf p f&&jl x.prs)):=by
 refine kl func137 ntmps137 rfl ae rfl rfl λE h hN hh hu hb=>?_;simp-dsimp[go_sem,hN,Plc.c,Foot.c];refine iv (qv0 p) ?_;simp-dsimp[go_sem,hN];refine kq (qzd f) ac ?_;simp-dsimp[go_sem,hN];refine kq (qb6 x.prs) ac ?_;simp-dsimp[go_sem,hN,pf,fOk]
theorem xvp(l:List Int)(k:Int):APure prog 127 [.slice (l.map ka),I k] (I (nv (λx=>decide (k=x)) l)):=by
 refine kl func127 ntmps127 rfl ae rfl rfl λE h hN hh hu hb=>?_;simp[go_sem]at hb;simp-dsimp[go_sem,hN];refine jz l.length (λn=>ph (λx=>decide (k=x)) n (l.drop n)=nv (λx=>decide (k=x)) l) (λn=>⟨[(0,.slice (l.map ka)),(1,I k),(7,I l.length),(8,I n)],h⟩) qgd (Wk.mk ai ac aa ag) ?_;intro n hn hI;have hw:=jj hn hb.1;simp-dsimp[go_sem,hN];refine ii ?_ ?_<;>intro hc<;>simp at hc
 .rw[jv hc,ph]at hI;simp-dsimp[go_sem,hN,hc,ka];refine ii ?_ ?_<;>intro hg<;>simp at hg
  .rw[if_pos af]at hI;simp-dsimp[go_sem,hN,<-hI]
  .rw[if_neg af]at hI;simp-dsimp[go_sem,hN,hw];exact⟨hc,hI,(Wk.mk ai ac aa ag)⟩
 .rw[cq aa,ph]at hI;simp-dsimp[go_sem,hN,<-hI]
theorem xcv(l:List Int)(k:Int):APure prog 88 [.slice (l.map ka),I k] (Bo (p6 l k)):=by
 have he:p6 l k=decide (0<=nv (λx=>decide (k=x)) l):=by
  rw[xjb];unfold p6;congr 1;funext x;exact decide_eq_decide.2 eq_comm
 rw[he];refine lz func88 rfl ae ac rfl ?_;intro E h hN hh hu hb;rw[ntmps88]at hN;refine jo _ _ _ ?_;simp-dsimp[go_sem,hN];refine iv (xvp l k) ?_;simp-dsimp[go_sem,hN]
theorem jc8(p:Plc)(f:Foot)(n:Int):APure prog 58 [.agg p.c,.agg f.c,I n] (.agg (qrb p f n).c):=by
 obtain⟨R,hR⟩:∃R,qrb p f n=R:=⟨_,rfl⟩
 rw[hR];unfold qrb at hR;refine lz func58 rfl ae ac rfl ?_;intro E h hN hh hu hb;rw[ntmps58]at hN;refine jo _ _ _ ?_;simp-dsimp[go_sem,hN,Plc.c,Foot.c];refine iv (xe7 p f) ?_;simp-dsimp[go_sem,hN];refine ii ?_ ?_<;>intro h0<;>simp at h0
 .rw[if_pos h0]at hR;subst hR;simp-dsimp[go_sem,hN,Foot.c]
 rw[if_neg cj]at hR;have hv:=(qnm h0).1;simp-dsimp[go_sem,hN,Foot.c];refine ii (λh1=>?_) (λh1=>?_)
 .rw[if_pos h1]at hR;subst hR;simp-dsimp[go_sem,hN,Foot.c];refine iv (qzj p) ?_;simp-dsimp[go_sem,hN];refine iv (xcv (nq p) n) ?_;simp-dsimp[go_sem,hN,p6]
 rw[if_neg qgl]at hR;subst hR;simp-dsimp[go_sem,hN,Foot.c];refine jt 9 mixed ae ae ?_;simp-dsimp[go_sem,hN];refine m6 (xl6 p f.reads n hv) ac ?_;simp-dsimp[go_sem,hN];refine iv (xl6 p f.writes n hv) ?_;simp-dsimp[go_sem,hN,Foot.c]
theorem xwx(gf:FuncId)(a b k:Nat)(xs:List Int)(h:g9)(hk:h[k]?=some (.uarr 3 1 []))(hxl:xs.length<68719476736)
  (hit:∀(l:Nat) (HF:Nat->g9) (n1:Nat),YJ prog l HF xs n1->(∀j i,i<h.length->i≠k->(HF j)[i]?=h[i]?)->ACalls prog gf [.fn (.yield l) [] [],.ptr a 0,.ptr b 0] (HF 0) λr h'=>r=.ret (.tuple [])/\h'=HF xs.length) :
  ACalls prog 195 [.own k 0,.fn (.func gf) [] [.ptr a 0,.ptr b 0]] h λr h'=>r=.ret (.own k xs.length)/\h'=h.set k (.uarr 3 1 (xs.map ka)):=by
 refine xc4 func195 rfl ae (by simp[ntmps195]) ?_;intro E hN hh hu hb iq ju;rw[ntmps195]at hN;have hkl:=(cm.1 hk).1;obtain⟨_,hab⟩:k<h.length/\a<h.length/\b<h.length:=by simpa[go_sem]using ju
 refine qbq _ _ _ _ ?_;simp-dsimp[go_sem,hN];obtain⟨T,hT⟩:∃T:List (List AV)->Nat->g9,T=λrows m=>h.set k (.uarr 3 1 rows)++[.cells [.own k m]]:=⟨_,rfl⟩
 have yf:∀r m,(T r m).length=h.length+1:=λr m=>by rw[hT];simp
 have g0:∀r m (Z:g9),(T r m++Z)[h.length]?=some (.cells [.own k m]):=λr m Z=>by rw[hT];simp
 have gk:∀r m (Z:g9),(T r m++Z)[k]?=some (.uarr 3 1 r):=λr m Z=>by grind
 have s0:∀r m m' (Z:g9),(T r m++Z).set h.length (.cells [.own k m'])=T r m'++Z:=λr m m' Z=>by rw[hT];simp
 have sk:∀r m r' (Z:g9),(T r m++Z).set k (.uarr 3 1 r')=T r' m++Z:=λr m r' Z=>by simp_all
 have hTu:∀(l:List Int) m,hUnder (h.length+1) (T (l.map ka) m)=true:=λl m=>by
  rw[hT,qx];have:=qh (n:=h.length+1) (o:=.uarr 3 1 (l.map ka)) (i:=k) (uk aa hu) rfl;rw[this];simp[hUnder,AObj.under,lj,AV.under];omega
 obtain⟨B,hB⟩:∃B:Nat->g9,B=λj=>T ((xs.take j).map ka) (xs.take j).length:=⟨_,rfl⟩
 have hB0:h++[AObj.cells [.own k 0]]=B 0:=by grind[ed,qcf]
 have hBl:∀j,(B j).length=h.length+1:=λj=>by rw[hB,yf]
 have hBu:∀j,hUnder (h.length+1) (B j)=true:=λj=>by rw[hB];exact hTu _ _
 rw[hB0];refine jc9 (gf:=gf) (caps:=[.ptr a 0,.ptr b 0]) rfl (λH=>rfl) B xs (h.length+1) rfl hBl hBu ?_ aa ?_ ?_ ?_
 .rw[hN];simp[slots,List.range,List.range.loop,go_sem];omega
 .grind
 .intro E' l D j hj L r0 rb rd hr hN' za wo;rw[hN]at hN';have n0l:∀r m (M:g9) (o o':AObj),(T r m++o::o'::M)[h.length+1+1]?=some o':=λr m M o o'=>by grind
  have n0s:∀r m (M:g9) (o o' y:AObj),(T r m++o::o'::M).set (h.length+1+1) y=T r m++o::y::M:=λr m M o o' y=>by
   rw[fk _ _ af,yf,show h.length+1+1 - (h.length+1)=1 by omega];rfl
  have ht:(xs.take (j+1)).map ka=(xs.take j).map ka++[[I xs[j]]]:=by rw[ec hj,eg];rfl
  have htl:(xs.take (j+1)).length=(xs.take j).length+1:=af;have il:(xs.take j).length<=j:=af;rw[za,hN];simp only[hB,ht,htl];refine qbq _ _ _ _ ?_;simp-dsimp[slots,List.range,List.range.loop,go_sem,hN',yf,n0l,n0s];refine qbq _ _ _ _ ?_;simp-dsimp[go_sem,hN',yf,g0,gk,s0,sk,n0l,n0s];refine⟨aa,n0l _ _ _ _ _,?_⟩;show Wk E' ⟨[],(T _ _++nu D::rb::L).set (h.length+1+1) r0⟩ ⟨[],_⟩;rw[n0s];exact Wk.refl _ _
 .intro D o;simp only[gw,hB];simp-dsimp[go_sem,hN,g0,gk];refine⟨[(h.length+1,D)],rfl,ac,?_,?_⟩
  .grind
  .show qvf _ _ _ _ ⟨_,qee [(h.length+1,D)] (T _ _++[nu D,o])⟩;obtain⟨Z',hZ⟩:=xfi [(h.length+1,D)] (T (xs.map ka) xs.length) [nu D,o] (λq hq=>by
    simp only[c0,qjc,or_false]at hq;subst hq;rw[yf];exact cn _)
   rw[hZ];simp-dsimp[go_sem,hN,g0,gk];refine⟨_,.refl _,h.set k (.uarr 3 1 (xs.map ka)),?_,?_,ac,?_,rfl,rfl⟩
   .grind[AV.under]
   .simp[*]
   .rw[gz];exact qh hu rfl
theorem xzn(gf:FuncId)(a b:Nat)(xs:List Int)(h:g9)(hxl:xs.length<68719476736)
  (hit:∀(l:Nat) (HF:Nat->g9) (n1:Nat),YJ prog l HF xs n1->(∀j i,i<h.length->(HF j)[i]?=h[i]?)->ACalls prog gf [.fn (.yield l) [] [],.ptr a 0,.ptr b 0] (HF 0) λr h'=>r=.ret (.tuple [])/\h'=HF xs.length) :
  ACalls prog 166 [.fn (.func gf) [] [.ptr a 0,.ptr b 0]] h λr h'=>r=.ret (.own h.length xs.length)/\h'=h++[.uarr 3 1 (xs.map ka)]:=by
 refine re func166 rfl ae (by simp[ntmps166]) ?_;intro E hN hh hu hb iq ju;rw[ntmps166]at hN;refine tg (qr6 ?_);simp[go_sem,hN];refine tg (qeq [_] _ ?_);simp[go_sem,hN];intro c a' w s k;refine xq4 s k rfl rfl aa rfl ag (x:=.own h.length xs.length) (h2:=h++[.uarr 3 1 (xs.map ka)]) ?_ ?_
 .have hc:=xl7 3 1 (h:=h) (xwx gf a b h.length xs (h++[.uarr 3 1 []]) ac hxl (λl HF n1 Y hH=>hit l HF n1 Y λj i hi=>by rw[hH j i az aa,co hi]));simpa[go_sem]using hc
 intro c' a'' w' s' k';refine qca _ [_,_] _ rfl ?_ c' a'' w' s' k';simp[go_sem,hN];apply jo;simp-dsimp[go_sem,hN];exact⟨_,.refl _,h++[.uarr 3 1 (xs.map ka)],ag,hwk.refl _,ac,qif,rfl,rfl⟩
theorem jlb(gf:FuncId)(a b:Nat)(xs:List Int)(h:g9)(hxl:xs.length<68719476736)
  (hit:∀(l:Nat) (HF:Nat->g9) (n1:Nat),YJ prog l HF xs n1->(∀j i,i<h.length->(HF j)[i]?=h[i]?)->ACalls prog gf [.fn (.yield l) [] [],.ptr a 0,.ptr b 0] (HF 0) λr h'=>r=.ret (.tuple [])/\h'=HF xs.length) :
  ACalls prog 125 [.fn (.func gf) [] [.ptr a 0,.ptr b 0]] h λr h'=>r=.ret (.own h.length xs.length)/\h'=h++[.uarr 3 1 ((qs8 xs).map ka)]:=by
 refine mh func125 ntmps125 rfl ae rfl λE hN hh hu hb iq ju=>?_;simp-dsimp[go_sem,hN];refine iy (xzn gf a b xs _ hxl hit) ?_;rintro r h' ⟨rfl,rfl⟩;simp-dsimp[go_sem,hN];refine iy (xkd (l:=xs) (h:=h++[.uarr 3 1 (xs.map ka)]) (i:=h.length) ac) ?_;rintro r h' ⟨rfl,rfl⟩;simp-dsimp[go_sem,hN];exact⟨_,.refl _,h++[.uarr 3 1 ((qs8 xs).map ka)],ag,hwk.refl _,ac,qif,rfl,rfl⟩
end Go.Proofs.YtolejdhnnchfpaaGreatDoor
