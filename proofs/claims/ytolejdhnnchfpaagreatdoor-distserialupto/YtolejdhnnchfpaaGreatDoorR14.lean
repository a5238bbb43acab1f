/- Part 14 of a proof. -/
import Derived.Test.YtolejdhnnchfpaaGreatDoorR13
set_option linter.all false
set_option maxRecDepth 100000
set_option maxHeartbeats 4000000
namespace Go.Proofs.YtolejdhnnchfpaaGreatDoor
open Go Go.Abs Go.Cw Go.Proofs.Tryz
def La(l:List Pr):APure prog 52 [.slice (l.map Pr.c)] (.slice (l.map Pr.c)):=by
 refine xZ func52 rfl ah Z rfl ?_;intro E h B hh Q hb;rw[ntmps52]at B;simp[go_sem]at hb;refine yv (pY ?_);simp[go_sem,B];refine yv (yv (qU [_] _ ?_));simp[go_sem,B];intro c a w s k;refine qq3 s (el:=59) (sz:=4) (x:=.tmp 3) (S:=l.map Pr.c) (d1:=4) rfl rfl J rfl Z af af λb a' rM s'=>?_;refine lF _ [_,_] _ rfl ?_ c a' w s' k;simp[go_sem,B];cases b with
 |true =>
  have hl:l=[]:=cy;subst hl;apply yd;exact Qek
 |false =>
  refine BS (x:=.tmp 4) (b:=false) af (λh=>by cases h) (λ_=>Fu ?_);simp only[qq6];refine yv (qU [] _ ?_);simp[go_sem,B];intro c a w s k;refine XB s k (el:=59) (sz:=4) (d1:=5) rfl rfl J rfl Z Z Z J λc' a' w' s' k'=>?_;refine lF _ [_] _ rfl ?_ c' a' w' s' k';simp[go_sem,B];refine⟨hb.1,?_⟩;apply yd;exact Qek
def Mc(p q:Pr):APure prog 69 [.agg p.c,.agg q.c] (I (yC p.key q.key)):=by refine od func69 ntmps69 λE h B hh Q hb=>?_;refine M ?_;refine nc (Ng p.key q.key) ?_;exact Qek
def qmo(p:Pr)(h:mz)(o i:Nat)(l:List Pr)(hp:h[o]?=some (.cells [.own i l.length]))(hi:h[i]?=some (.arr 59 4 (l.map Pr.c)))(hl:l.length+1<=68719476736) :
  ACalls prog 146 [.agg p.c,.ptr o 0] h λr Y=>r=.ret (.tuple [])/\Y=(h.set i (.arr 59 4 ((l++[p]).map Pr.c))).set o (.cells [.own i (l++[p]).length]):=by
 refine cD func146 ntmps146 λE B hh Q hb nl qb=>?_;have rL:o<h.length:=(gn.1 hp).1;have qj:i<h.length:=(gn.1 hi).1;have sE:o≠i:=W;have a1:∀l:mz,(h++l)[o]?=h[o]?:=λl=>gu rL;have a2:∀l:mz,(h++l)[i]?=h[i]?:=λl=>gu qj;have a3:∀(l:mz) (y:AObj),(h++l).set o y=h.set o y++l:=λl y=>jw _ _ rL;have a4:∀(l:mz) (y:AObj),(h++l).set i y=h.set i y++l:=λl y=>jw _ _ qj;have a5:∀(l:mz) (q y:AObj),(h.set i q++l).set o y=(h.set i q).set o y++l:=λl q y=>jw _ _ W;have a6:∀(l:mz) (q:AObj),(h.set i q++l)[o]?=h[o]?:=λl q=>by rw[gu W,gv (Ne.symm sE)]
 exact Qfu
def vw(h:mz)(l:List Pr):mz:=h++[.cells [.own (h.length+3) l.length],.cells [.fn (.func 146) [] [.ptr h.length 0]],.cells [.fn (.func 147) [] [.ptr (h.length+1) 0]],.arr 59 4 (l.map Pr.c)]
def Ar{h:mz}(Q:hUnder h.length h=true)(l:List Pr):hUnder (vw h l).length (vw h l)=true:=by unfold vw;rw[xh,aQ Z Q];simp[go_sem]
def OM{h:mz}(Q:hUnder h.length h=true){l:List Pr}(l':List Pr){h0:mz}(hL:hUnder (vw h l++h0).length (vw h l++h0)=true):hUnder (vw h l'++h0).length (vw h l'++h0)=true:=by
 rw[xh,gy]at hL|-;refine⟨?_,?_⟩
 .exact aQ Z (Ar Q l')
 grind[vw]
def JX(h:mz)(l:List Pr):(vw h l).length=h.length+4:=by simp[vw]
def qsr(h:mz)(l:List Pr)(p:Pr)(h0:mz)(hl:l.length+1<=68719476736):ACalls prog 146 [.agg p.c,.ptr h.length 0] (vw h l++h0) λr Y=>r=.ret (.tuple [])/\Y=vw h (l++[p])++h0:=by
 have:=qmo p (vw h l++h0) h.length (h.length+3) l (by simp[vw]) (by simp[vw]) hl
 simp_all[vw]
def rD(l:List Pr)(p:Pr):List Pr:=if p.v.k=0 then l else l++[p]
def XM(h:mz)(cJ:hUnder h.length h=true)(l:List Pr)(p:Pr)(h0:mz)(hl:l.length+1<=68719476736):ACalls prog 147 [.agg p.c,.ptr (h.length+1) 0] (vw h l++h0) λr Y=>r=.ret (.tuple [])/\Y=vw h (rD l p)++h0:=by
 refine s8 func147 ntmps147 λE B hh Q hb nl qb=>?_;have e1:∀X:mz,(vw h l++X)[h.length+1]?=some (.cells [.fn (.func 146) [] [.ptr h.length 0]]):=λX=>by simp[vw]
 have e2:∀(l:List Pr),(vw h l).length=h.length+4:=λl=>JX h l;simp-dsimp[go_sem,B,e1,e2,jf];refine nc (QB p) ?_;refine nf (λL=>?_) (λL=>?_)
 .simp-dsimp[go_sem,B,e1,e2,jf];have hk:=qsr h l p (h0++[.cells p.c]) hl;refine se (by simpa[go_sem]using hk) ?_;rintro r Y ⟨rfl,rfl⟩;refine M ?_;rw[rD,gg L];exact⟨_,.refl _,vw h (l++[p])++h0,rfl,qga,by simp[vw];omega,OM cJ _ Q,rfl,rfl⟩
 refine M ?_;rw[rD,gh L];exact⟨_,.refl _,vw h l++h0,rfl,qga,Z,Q,rfl,rfl⟩
def Wl(h:mz)(cJ:hUnder h.length h=true)(l:List Pr)(q p:Pr)(h0:mz)(hl:l.length+1<=68719476736):ACalls prog 148 [.agg q.c,.agg p.c,.ptr (h.length+2) 0] (vw h l++h0) λr Y=>r=.ret (.tuple [])/\Y=vw h (rD l p)++h0:=by
 refine s8 func148 ntmps148 λE B hh Q hb nl qb=>?_;have e1:∀X:mz,(vw h l++X)[h.length+2]?=some (.cells [.fn (.func 147) [] [.ptr (h.length+1) 0]]):=λX=>by simp[vw]
 have e2:∀(l:List Pr),(vw h l).length=h.length+4:=λl=>JX h l;simp-dsimp[go_sem,B,e1,e2,jf];have hk:=XM h cJ l p (h0++[.cells q.c,.cells p.c]) hl;refine se (by simpa[go_sem]using hk) ?_;rintro r Y ⟨rfl,rfl⟩;refine M ?_;exact⟨_,.refl _,vw h (rD l p)++h0,rfl,qga,by simp[vw];omega,OM cJ _ Q,rfl,rfl⟩
theorem Jk(nw:List Pr)(q:Pr)(l:List Pr):nw++vR q l=rD nw q++l:=by grind[vR,rD]
def Ko(l:List Pr)(p:Pr):(rD l p).length<=l.length+1:=by grind[rD]
def X7(h:mz)(cJ:hUnder h.length h=true)(a b:List Pr)(hB:a.length+b.length<=68719476735) :
  ACalls prog 68 [.slice (a.map Pr.c),.slice (b.map Pr.c),.fn (.func 69) [] [],.fn (.func 146) [] [.ptr h.length 0],.fn (.func 147) [] [.ptr (h.length+1) 0],.fn (.func 148) [] [.ptr (h.length+2) 0]] (vw h []) λr Y=>r=.ret (.tuple [])/\Y=vw h (vt a b):=by
 refine cD func68 ntmps68 λE B hh Q hb nl qb=>?_;have e2:∀(l:List Pr),(vw h l).length=h.length+4:=λl=>JX h l;refine M ?_;refine xS (α:=Nat×Nat×List Pr) (λx=>x.1<=a.length/\x.2.1<=b.length/\x.2.2.length<=x.1+x.2.1/\x.2.2++vt (a.drop x.1) (b.drop x.2.1)=vt a b)
  (λx=>⟨[(0,.slice (a.map Pr.c)),(1,.slice (b.map Pr.c)),(2,.fn (.func 69) [] []),(3,.fn (.func 146) [] [.ptr h.length 0]),(4,.fn (.func 147) [] [.ptr (h.length+1) 0]),(5,.fn (.func 148) [] [.ptr (h.length+2) 0]),(12,I x.1),(13,I x.2.1)],vw h x.2.2⟩) (λx=>a.length+b.length - x.1 - x.2.1) (0,0,[]) Z ?_ ?_
 .exact Wk.mk W Z (Ar cJ []) cg
 rintro⟨i,k,nw⟩ ⟨hi,hk,kM,z⟩;dsimp only at hi hk kM z|-;refine nf (λhc=>?_) (λhc=>?_)
 .refine nf (λO=>?_) (λO=>?_)
  .have vk:k<b.length:=J;have hw:IntKind.i64.wrap ((k:Int)+1)=((k+1:Nat):Int):=cq;rw[gq (show a.length<=i by omega),ov vk,vt,Jk]at z;simp-dsimp[go_sem,B,vk];refine se qg6 ?_;rintro r Y ⟨rfl,rfl⟩;refine Qaa ?_;have y3:=Ko nw b[k];exact⟨i,k+1,rD nw b[k],⟨hi,J,J,by rw[gq (show a.length<=i by omega)];exact z⟩,J,Wk.mk W Z (Ar cJ _) cg⟩
  have cE:i<a.length:=J;have hw:IntKind.i64.wrap ((i:Int)+1)=((i+1:Nat):Int):=cq;refine nf (λU=>?_) (λU=>?_)
  .rw[gq (show b.length<=k by omega),ov cE,vt]at z;simp-dsimp[go_sem,B,cE];refine se qhe ?_;rintro r Y ⟨rfl,rfl⟩;refine Qaa ?_;exact⟨i+1,k,nw++[a[i]],⟨J,hk,au,by rw[gq (show b.length<=k by omega)];simpa using z⟩,J,Wk.mk W Z (Ar cJ _) cg⟩
  have vk:k<b.length:=J;have uc:IntKind.i64.wrap ((k:Int)+1)=((k+1:Nat):Int):=cq;have r9:=Dk a[i].key b[k].key;have zF:=Dk b[k].key a[i].key;rw[ov cE,ov vk,vt]at z;refine Qah ?_;refine pf 9 (Qah ?_);refine nc (Mc a[i] b[k]) ?_;refine nf (λh3=>?_) (λh3=>?_)
  .rw[gh (r9.1.1 h3)]at z;refine Qah ?_;refine se qhe ?_;rintro r Y ⟨rfl,rfl⟩;refine Qaa ?_;exact⟨i+1,k,nw++[a[i]],⟨J,hk,au,by rw[ov vk];simpa using z⟩,J,Wk.mk W Z (Ar cJ _) cg⟩
  rw[gg (λg=>absurd (r9.1.2 g) J)]at z;refine nf (λh4=>?_) (λh4=>?_)
  .have h5:px b[k].key a[i].key=true:=by
    grind[AD]
   rw[gh h5,Jk]at z;refine Qah ?_;refine se qg6 ?_;rintro r Y ⟨rfl,rfl⟩;simp-dsimp[go_sem,B,uc];have y3:=Ko nw b[k];exact⟨i,k+1,rD nw b[k],⟨hi,J,J,by rw[ov cE];exact z⟩,J,Wk.mk W Z (Ar cJ _) cg⟩
  have he:a[i].key=b[k].key:=r9.2.1 J;rw[gg W,Jk]at z;refine Qah ?_;refine pf 9 (Qah ?_);refine se (by simpa[go_sem]using Wl h cJ nw a[i] b[k] [] J) ?_;rintro r Y ⟨rfl,rfl⟩;simp-dsimp[go_sem,B,hw,uc];have y3:=Ko nw b[k];exact⟨i+1,k+1,rD nw b[k],⟨J,J,J,z⟩,J,Wk.mk W Z (Ar cJ _) cg⟩
 rw[gq (show a.length<=i by omega),gq (show b.length<=k by omega),vt,jv]at z;subst z;refine M ?_;exact⟨_,.refl _,vw h (vt a b),rfl,hwk.refl _,by simp[e2],Ar cJ _,rfl,rfl⟩
theorem qmu(w:List Pr):wX none w=y9 w:=by rw[Kj];rfl
def Oe(l w:List Pr)(hB:l.length+w.length<68719476736):APure prog 103 [.slice (l.map Pr.c),.slice (w.map Pr.c)]
  (if ph l&&y9 w then .tuple [.slice ((y7 l w).map Pr.c),I 0]else .tuple [.slice [],I 1]):=by
 refine xZ func103 rfl ah (by simp[ntmps103]) (by split<;>rfl) ?_;intro E h B hh Q hb;rw[ntmps103]at B;refine yd _ _ _ ?_;simp[go_sem]at hb;have hs:=PN w;rw[qmu]at hs;refine M ?_;refine nc (zW l) (M ?_);refine pz hs Z ?_;refine nf (λL=>?_) (λL=>?_)
 .exact Qee
 rw[L.1,L.2];have hm:vt l w=y7 l w:=OF ((zz l).1 L.1).2.2 ((oN w).1 L.2).2.2;refine M ?_;have hk:=X7 h Q l w J;rw[hm]at hk;have uc:∀E:Ent,Wk E ⟨[],h++[.cells [.nils],.cells [.fn (.func 146) [] [.ptr h.length 0]],.cells [.fn (.func 147) [] [.ptr (h.length+1) 0]]]⟩ ⟨[],vw h []⟩:=λE=>by have:=pJ E ⟨[],h++[.cells [.nils],.cells [.fn (.func 146) [] [.ptr h.length 0]],.cells [.fn (.func 147) [] [.ptr (h.length+1) 0]]]⟩ (p:=h.length) (j:=0) (t:=59) (sz:=4) (xs:=[.nils]) Z rfl;grind[vw]
 refine o7 (Hz uc hk) ?_;simp-dsimp[go_sem,B,vw]
def qoy(p:Pr)(h:mz)(o i:Nat)(l:List Pr)(hp:h[o]?=some (.cells [.own i l.length]))(hi:h[i]?=some (.arr 59 4 (l.map Pr.c)))(hl:l.length+1<=68719476736) :
  ACalls prog 67 [.agg p.c,.ptr o 0] h λr Y=>r=.ret (.tuple [])/\Y=(h.set i (.arr 59 4 ((l++[p]).map Pr.c))).set o (.cells [.own i (l++[p]).length]):=by
 refine cD func67 ntmps67 λE B hh Q hb nl qb=>?_;have rL:o<h.length:=(gn.1 hp).1;have qj:i<h.length:=(gn.1 hi).1;have sE:o≠i:=W;have a1:∀l:mz,(h++l)[o]?=h[o]?:=λl=>gu rL;have a2:∀l:mz,(h++l)[i]?=h[i]?:=λl=>gu qj;have a3:∀(l:mz) (y:AObj),(h++l).set o y=h.set o y++l:=λl y=>jw _ _ rL;have a4:∀(l:mz) (y:AObj),(h++l).set i y=h.set i y++l:=λl y=>jw _ _ qj;have a5:∀(l:mz) (q y:AObj),(h.set i q++l).set o y=(h.set i q).set o y++l:=λl q y=>jw _ _ W;have a6:∀(l:mz) (q:AObj),(h.set i q++l)[o]?=h[o]?:=λl q=>by rw[gu W,gv (Ne.symm sE)]
 exact Qfu
def ws(h:mz)(l:List Pr)(tw:Bool):mz:=h++[.cells [.own (h.length+2) l.length],.cells [Bo tw],.arr 59 4 (l.map Pr.c)]
def zE{h:mz}(Q:hUnder h.length h=true)(l:List Pr)(tw:Bool):hUnder (ws h l tw).length (ws h l tw)=true:=by unfold ws;rw[xh,aQ Z Q];simp[go_sem]
def Qg(h:mz)(l:List Pr)(tw:Bool):(ws h l tw).length=h.length+3:=by simp[ws]
def quk(h:mz)(l:List Pr)(tw:Bool)(p:Pr)(h0:mz)(hl:l.length+1<=68719476736):ACalls prog 67 [.agg p.c,.ptr h.length 0] (ws h l tw++h0) λr Y=>r=.ret (.tuple [])/\Y=ws h (l++[p]) tw++h0:=by
 have:=qoy p (ws h l tw++h0) h.length (h.length+2) l (by simp[ws]) (by simp[ws]) hl
 simp_all[ws]
def qo2(h:mz)(cJ:hUnder h.length h=true)(l:List Pr)(tw:Bool)(q p:Pr)(h0:mz):ACalls prog 70 [.agg q.c,.agg p.c,.ptr (h.length+1) 0] (ws h l tw++h0) λr Y=>r=.ret (.tuple [])/\Y=ws h l true++h0:=by
 refine s8 func70 ntmps70 λE B hh Q hb nl qb=>?_;have e1:∀X:mz,(ws h l tw++X)[h.length+1]?=some (.cells [Bo tw]):=λX=>by simp[ws]
 have e2:∀(l:List Pr) (t:Bool),(ws h l t).length=h.length+3:=λl t=>Qg h l t;have e3:∀(X:mz) (y:AObj),(ws h l tw++X).set (h.length+1) y=h++[.cells [.own (h.length+2) l.length],y,.arr 59 4 (l.map Pr.c)]++X:=λX y=>by simp[ws]
 simp-dsimp[go_sem,B,e1,e2,e3,jf];have hx:ws h l true++h0++[.cells q.c,.cells p.c]=h++.cells [.own (h.length+2) l.length]::.cells [.val (.bool true)]::.arr 59 4 (l.map Pr.c)::(h0++[.cells q.c,.cells p.c]):=by simp[ws]
 have hy:hUnder (ws h l true++h0).length (ws h l true++h0)=true:=by rw[xh,gy]at Q|-;refine⟨aQ Z (zE cJ l true),?_⟩;grind
 exact⟨_,.refl _,ws h l true++h0,rfl,by have:=hwk.app0 (l:=[.cells q.c,.cells p.c]) (ws h l true++h0);rw[hx]at this;exact this,by simp[ws];omega,hy,rfl,rfl⟩
theorem IN(a:List Pr):xv a []=(a,false):=by cases a<;>rw[xv]
def qke(h:mz)(cJ:hUnder h.length h=true)(a b:List Pr)(hB:a.length+b.length<=68719476735) :
  ACalls prog 68 [.slice (a.map Pr.c),.slice (b.map Pr.c),.fn (.func 69) [] [],.fn (.func 67) [] [.ptr h.length 0],.fn (.func 67) [] [.ptr h.length 0],.fn (.func 70) [] [.ptr (h.length+1) 0]] (ws h [] false) λr Y=>r=.ret (.tuple [])/\((xv a b).2=false->Y=ws h (xv a b).1 false)/\((xv a b).2=true->∃l,Y=ws h l true):=by
 refine cD func68 ntmps68 λE B hh Q hb nl qb=>?_;have e2:∀(l:List Pr) (t:Bool),(ws h l t).length=h.length+3:=λl t=>Qg h l t;refine M ?_;refine xS (α:=Nat×Nat×List Pr×Nat) (λx=>x.1<=a.length/\x.2.1<=b.length/\x.2.2.1.length<=x.1+x.2.1/\(x.2.2.1++(xv (a.drop x.1) (b.drop x.2.1)).1=(xv a b).1)/\(decide (x.2.2.2=1)||(xv (a.drop x.1) (b.drop x.2.1)).2)=(xv a b).2)
  (λx=>⟨[(0,.slice (a.map Pr.c)),(1,.slice (b.map Pr.c)),(2,.fn (.func 69) [] []),(3,.fn (.func 67) [] [.ptr h.length 0]),(4,.fn (.func 67) [] [.ptr h.length 0]),(5,.fn (.func 70) [] [.ptr (h.length+1) 0]),(12,I x.1),(13,I x.2.1)],ws h x.2.2.1 (decide (x.2.2.2=1))⟩) (λx=>a.length+b.length - x.1 - x.2.1) (0,0,[],0) Z ?_ ?_
 .exact Wk.mk W Z (zE cJ [] false) cg
 rintro⟨i,k,nw,tw⟩ ⟨hi,hk,kM,z,hJ⟩;dsimp only at hi hk kM z hJ|-;refine nf (λhc=>?_) (λhc=>?_)
 .refine nf (λO=>?_) (λO=>?_)
  .have vk:k<b.length:=J;have hw:IntKind.i64.wrap ((k:Int)+1)=((k+1:Nat):Int):=cq;rw[gq (show a.length<=i by omega),xv]at z hJ;rw[ov vk]at z;simp-dsimp[go_sem,B,vk];refine se qgq ?_;rintro r Y ⟨rfl,rfl⟩;refine Qaa ?_;exact⟨i,k+1,nw++[b[k]],tw,⟨hi,J,au,by rw[gq (show a.length<=i by omega),xv];simpa using z,by rw[gq (show a.length<=i by omega),xv];exact hJ⟩,J,Wk.mk W Z (zE cJ _ _) cg⟩
  have cE:i<a.length:=J;have hw:IntKind.i64.wrap ((i:Int)+1)=((i+1:Nat):Int):=cq;refine nf (λU=>?_) (λU=>?_)
  .rw[gq (show b.length<=k by omega),IN]at z hJ;rw[ov cE]at z;simp-dsimp[go_sem,B,cE];refine se qgr ?_;rintro r Y ⟨rfl,rfl⟩;refine Qaa ?_;exact⟨i+1,k,nw++[a[i]],tw,⟨J,hk,au,by rw[gq (show b.length<=k by omega),IN];simpa using z,by rw[gq (show b.length<=k by omega),IN];exact hJ⟩,J,Wk.mk W Z (zE cJ _ _) cg⟩
  have vk:k<b.length:=J;have uc:IntKind.i64.wrap ((k:Int)+1)=((k+1:Nat):Int):=cq;have r9:=Dk a[i].key b[k].key;have zF:=Dk b[k].key a[i].key;rw[ov cE,ov vk,xv]at z hJ;refine Qah ?_;refine pf 9 (Qah ?_);refine nc (Mc a[i] b[k]) ?_;refine nf (λh3=>?_) (λh3=>?_)
  .rw[gh (r9.1.1 h3)]at z hJ;refine Qah ?_;refine se qgr ?_;rintro r Y ⟨rfl,rfl⟩;refine Qaa ?_;exact⟨i+1,k,nw++[a[i]],tw,⟨J,hk,au,by rw[ov vk];simpa using z,by rw[ov vk];exact hJ⟩,J,Wk.mk W Z (zE cJ _ _) cg⟩
  rw[gg (λg=>absurd (r9.1.2 g) J)]at z hJ;refine nf (λh4=>?_) (λh4=>?_)
  .have h5:px b[k].key a[i].key=true:=by
    grind[AD]
   rw[gh h5]at z hJ;refine Qah ?_;refine se qgq ?_;rintro r Y ⟨rfl,rfl⟩;simp-dsimp[go_sem,B,uc];exact⟨i,k+1,nw++[b[k]],tw,⟨hi,J,au,by rw[ov cE];simpa using z,by rw[ov cE];exact hJ⟩,J,Wk.mk W Z (zE cJ _ _) cg⟩
  have he:a[i].key=b[k].key:=r9.2.1 J;rw[gg W]at z hJ;refine Qah ?_;refine pf 9 (Qah ?_);refine se (by simpa[go_sem]using qo2 h cJ nw (decide (tw=1)) a[i] b[k] []) ?_;rintro r Y ⟨rfl,rfl⟩;simp-dsimp[go_sem,B,hw,uc];exact⟨i+1,k+1,nw,1,⟨J,J,J,z,by simpa using hJ⟩,J,Wk.mk W Z (zE cJ _ _) cg⟩
 rw[gq (show a.length<=i by omega),gq (show b.length<=k by omega),xv,jv]at z;rw[gq (show a.length<=i by omega),gq (show b.length<=k by omega),xv,Bool.or_false]at hJ;subst z;rw[hJ];refine M ?_;refine⟨_,.refl _,ws h (xv a b).1 (xv a b).2,rfl,hwk.refl _,by simp[e2],zE cJ _ _,rfl,λh=>by rw[h],λh=>⟨_,by rw[h]⟩⟩
def qlq(a b:List Pr)(hB:a.length+b.length<68719476736):APure prog 35 [.slice (a.map Pr.c),.slice (b.map Pr.c)] (.tuple [.slice ((cC a b).1.map Pr.c),I (cC a b).2]):=by
 obtain⟨R,hR⟩:=Qaj (cC a b)
 rw[hR];unfold cC at hR;refine ry func35 ntmps35 λE h B hh Q hb=>?_;refine M ?_;refine nc (zW a) (M ?_);refine pz (zW b) Z ?_;refine nf (λL=>?_) (λL=>?_)
 .exact Qfv
 rw[gg W]at hR;have hk:=qke h Q a b J;have hany:=Iz a b ((zz a).1 L.1).2.2 ((zz b).1 L.2).2.2;have hmm:=Gg a b (λq hq=>(((zz b).1 L.2).1 q hq).2);have uc:∀E:Ent,Wk E ⟨[],h++[.cells [.nils],.cells [Bo false]]⟩ ⟨[],ws h [] false⟩:=λE=>by have:=pJ E ⟨[],h++[.cells [.nils],.cells [Bo false]]⟩ (p:=h.length) (j:=0) (t:=59) (sz:=4) (xs:=[.nils]) Z rfl;grind[ws]
 refine M ?_;refine se (Hz uc hk) ?_;rintro r Y ⟨rfl,k1,k2⟩;rcases hx:(xv a b).2 with _|_
 .rw[k1 hx];rw[hx]at hany;rw[gg W]at hR;have hm:vt a b=y7 a b:=OF ((zz a).1 L.1).2.2 ((zz b).1 L.2).2.2;rw[hmm hx,hm];subst hR;simp-dsimp[go_sem,B,ws]
 obtain⟨l,rfl⟩:=k2 hx;rw[hx]at hany;rw[gh hany.symm]at hR;subst hR;simp-dsimp[go_sem,B,ws]
attribute [go_sem] Shard.c
def qoi(p:Plc)(s:List Pr):APure prog 14 [.agg p.c,.slice (s.map Pr.c)] (.slice ((cT p s).map Shard.c)):=by
 have ug:=AO p;have xc:=uR p;have nv:cT p s=if (qw p&&ph s)=true then(uk p).map λn=>⟨n,wc p s n⟩else []:=rfl;obtain⟨v,hv⟩:=Qaj (qw p)
 rw[hv]at ug nv;rw[nv];refine od func14 ntmps14 λE h B hh Q hb=>?_;simp[go_sem,Plc.c]at hb;simp-dsimp[go_sem,B,Plc.c];refine nc ug (M ?_);refine pz (zW s) Z ?_;refine nf (λL=>?_) (λL=>?_)
 .rw[gg W];exact Qek
 obtain⟨rfl,O⟩:=L;rw[gh W];simp-dsimp[go_sem,B,Plc.c];refine nc (Dp p) (M ?_);obtain⟨l,hl⟩:=Qaj (uk p)
 rw[hl]at xc|-;obtain⟨hr,hG⟩:∃hr:Int->Shard,hr=λn=>⟨n,wc p s n⟩:=⟨_,rfl⟩
 rw[show(l.map λn=>(⟨n,wc p s n⟩:Shard))=l.map hr by rw[hG]];obtain⟨F,hF⟩:∃F:Nat->List Shard,F=λn=>(l.take n).map hr:=⟨_,rfl⟩
 have jW:F 0=[]:=W;have dE:F l.length=l.map hr:=W;have aB:∀n (hn:n<l.length),F (n+1)=F n++[hr l[n]]:=λn hn=>by grind[jn]
 have bX:∀n,(F n).length<=16:=λn=>by grind
 have hGc:∀n,(hr n).c=[I n,.slice ((wc p s n).map Pr.c)]:=λn=>by rw[hG];rfl
 rw[<-dE];refine po l.length (λ_=>True) (λn=>⟨[(1,.slice (s.map Pr.c)),(2,.ptr h.length 0),(5,.own (h.length+1) (F n).length),(17,.slice (l.map qe)),(18,I l.length),(19,I n)],h++[.cells [I p.ver,.slice (p.parts.map Part.c)],.arr 53 2 ((F n).map Shard.c)]⟩) trivial ((mF E _ 5 53 2 af).trans ct) ?_;intro n hn _;have hw:=oi hn (show l.length<=68719476736 by omega);have aG:=bX n;refine nf (λhc=>?_) (λhc=>?_)
 .have hs:=aB n hc;simp-dsimp[go_sem,B,hc,qe];refine nc (Le p s l[n] hv) (Qaa ?_);refine⟨J,hc,?_⟩;rw[hs];exact Wk.mk bb cy cu af
 have bL:n=l.length:=J;exact Qfw
def Ei(s:na):APure prog 49 [my s] (Bo (lG s)):=by
 refine ry func49 ntmps49 λE h B hh Q hb=>?_;refine nf (λL=>?_) (λL=>?_)
 .refine M ?_;simp[lG,show ¬((s.size:Int)<=24)by omega]
 refine M ?_;refine po s.size (λn=>ue yU ((bl s).drop n)=ue yU (bl s)) (λn=>⟨[(0,my s),(3,I n)],h⟩) Z ng ?_;intro n hn z;have hw:=oi hn hb;refine nf (λhc=>?_) (λhc=>?_)
 .rw[lJ hc,ue]at z;refine Qab ?_;refine ox (λhg=>?_) (λhg=>?_)
  .refine M ?_;have:yU (w9 s n)=false:=qia;rw[this,ly]at z;simp[lG,<-z]
  exact Qen
 rw[vA J,ue]at z;refine M ?_;simp[lG,<-z,L]
def ql4(x:Part)(nx:na)(last:Bool):APure prog 50 [.agg x.c,my nx,Bo last] (Bo (pS x (if last then none else some nx))):=by
 refine od func50 ntmps50 λE h B hh Q hb=>?_;refine nf (λhc=>?_) (λhc=>?_)
 .simp-dsimp[go_sem,B,pS,hc]
 refine M ?_;refine pz (Ei _) Z (M ?_);cases last<;>simp[pS,hc,jX]<;>exact λa b c d e=>⟨⟨⟨⟨a,b⟩,c⟩,d⟩,e⟩
def Z0(choices:List Int)(step n:Nat)(hn:0<n):APure prog 32 [.slice (choices.map qe),I step,I n] (I (vV choices step n)):=by
 refine ry func32 ntmps32 λE h B hh Q hb=>?_;have hC:=Z7 (choices:=choices) (step:=step) (n:=n);by_cases hs:step<choices.length
 .rw[dif_pos hs]at hC;have hz:¬(choices.length:Int)<=(step:Int):=J;simp-dsimp[go_sem,B,hs,hz,qe];refine ox (λL=>?_) (λL=>?_)
  .rw[gh J]at hC;simp-dsimp[go_sem,B,hC]
  rw[gg J]at hC;obtain⟨c,hc⟩:=Int.eq_ofNat_of_zero_le (show 0<=choices[step]by omega);have hm:choices[step].tmod (n:Int)=((choices[step].toNat % n:Nat):Int):=W;simp-dsimp[go_sem,B,hs,qe,hm,hC];omega
 rw[dif_neg hs]at hC;have hz:(choices.length:Int)<=(step:Int):=J;simp-dsimp[go_sem,B,hz,hC]
def ON(p:Plc)(x:Shard)(f:Foot):APure prog 137 [.agg p.c,.agg x.c,.agg f.c] (Bo (v6 p f&&ph x.prs)):=by refine od func137 ntmps137 λE h B hh Q hb=>?_;simp-dsimp[go_sem,B,Plc.c,Foot.c];refine nc (AO p) (M ?_);refine pz (EY f) Z (M ?_);refine pz (zW x.prs) Z ?_;simp-dsimp[go_sem,B,v6,lU]
def qpq(l:List Int)(k:Int):APure prog 127 [.slice (l.map qe),I k] (I (ul (λx=>decide (k=x)) l)):=by
 refine ry func127 ntmps127 λE h B hh Q hb=>?_;refine M ?_;refine po l.length (λn=>vy (λx=>decide (k=x)) n (l.drop n)=ul (λx=>decide (k=x)) l) (λn=>⟨[(0,.slice (l.map qe)),(1,I k),(7,I l.length),(8,I n)],h⟩) e6 ng ?_;intro n hn z;have hw:=oi hn hb.1;refine nf (λhc=>?_) (λhc=>?_)
 .rw[ov hc,vy]at z;simp-dsimp[go_sem,B,hc,qe];refine ox (λhg=>?_) (λhg=>?_)
  .rw[gh W]at z;exact Qem
  rw[gg W]at z;exact Qfx
 exact Qel
def HJ(l:List Int)(k:Int):APure prog 88 [.slice (l.map qe),I k] (Bo (wn l k)):=by
 have he:wn l k=decide (0<=ul (λx=>decide (k=x)) l):=by rw[Jf];unfold wn;congr 1;funext x;exact decide_eq_decide.2 eq_comm
 rw[he];refine od func88 ntmps88 λE h B hh Q hb=>?_;refine M ?_;refine nc (qpq l k) ?_;exact Qek
def Xa(p:Plc)(f:Foot)(n:Int):APure prog 58 [.agg p.c,.agg f.c,I n] (.agg (tK p f n).c):=by
 obtain⟨R,hR⟩:=Qaj (tK p f n)
 rw[hR];unfold tK at hR;refine od func58 ntmps58 λE h B hh Q hb=>?_;simp-dsimp[go_sem,B,Plc.c,Foot.c];refine nc (Hx p f) ?_;refine nf (λL=>?_) (λL=>?_)
 .rw[gh L]at hR;subst hR;simp-dsimp[go_sem,B,Foot.c]
 rw[gg bz]at hR;have hv:=(nN L).1;simp-dsimp[go_sem,B,Foot.c];refine og (λO=>?_) (λO=>?_)
 .rw[gh O]at hR;subst hR;simp-dsimp[go_sem,B,Foot.c];refine nc (Dp p) (M ?_);refine nc (HJ (uk p) n) ?_;simp-dsimp[go_sem,B,wn]
 rw[gg dq]at hR;subst hR;simp-dsimp[go_sem,B,Foot.c];refine pf 9 (M ?_);refine p7 (PO p f.reads n hv) Z (M ?_);refine nc (PO p f.writes n hv) ?_;simp-dsimp[go_sem,B,Foot.c]
def WY(gf:FuncId)(a b k:Nat)(xs:List Int)(h:mz)(hk:h[k]?=some (.uarr 3 1 []))(mE:xs.length<68719476736)
  (hit:∀(l:Nat) (HF:Nat->mz) (n1:Nat),YJ prog l HF xs n1->(∀j i,i<h.length->i≠k->(HF j)[i]?=h[i]?)->ACalls prog gf [.fn (.yield l) [] [],.ptr a 0,.ptr b 0] (HF 0) λr Y=>r=.ret (.tuple [])/\Y=HF xs.length) :
  ACalls prog 195 [.own k 0,.fn (.func gf) [] [.ptr a 0,.ptr b 0]] h λr Y=>r=.ret (.own k xs.length)/\Y=h.set k (.uarr 3 1 (xs.map qe)):=by
 refine GH func195 rfl ah (by simp[ntmps195]) ?_;intro E B hh Q hb nl qb;rw[ntmps195]at B;have hkl:=(gn.1 hk).1;obtain⟨_,sW⟩:k<h.length/\a<h.length/\b<h.length:=by simpa[go_sem]using qb
 refine pM _ _ _ _ (M ?_);obtain⟨T,hT⟩:∃T:List (List V)->Nat->mz,T=λS m=>h.set k (.uarr 3 1 S)++[.cells [.own k m]]:=⟨_,rfl⟩
 have fX:∀r m,(T r m).length=h.length+1:=λr m=>by rw[hT];simp
 have g0:∀r m (ac:mz),(T r m++ac)[h.length]?=some (.cells [.own k m]):=λr m ac=>by rw[hT];simp
 have gk:∀r m (ac:mz),(T r m++ac)[k]?=some (.uarr 3 1 r):=λr m ac=>by grind
 have s0:∀r m m' (ac:mz),(T r m++ac).set h.length (.cells [.own k m'])=T r m'++ac:=λr m m' ac=>by rw[hT];simp
 have sk:∀r m r' (ac:mz),(T r m++ac).set k (.uarr 3 1 r')=T r' m++ac:=λr m r' ac=>by simp_all
 have hTu:∀(l:List Int) m,hUnder (h.length+1) (T (l.map qe) m)=true:=λl m=>by rw[hT,xh];have:=wh (n:=h.length+1) (o:=.uarr 3 1 (l.map qe)) (i:=k) (aQ J Q) rfl;rw[this];simp[hUnder,AObj.under,q9,V.under];omega
 obtain⟨hN,hB⟩:∃hN:Nat->mz,hN=λj=>T ((xs.take j).map qe) (xs.take j).length:=⟨_,rfl⟩
 have hB0:h++[AObj.cells [.own k 0]]=hN 0:=by grind[ju,fM]
 have hBl:∀j,(hN j).length=h.length+1:=λj=>by rw[hB,fX]
 have hBu:∀j,hUnder (h.length+1) (hN j)=true:=λj=>by rw[hB];exact hTu _ _
 rw[hB0];refine qlh (gf:=gf) (pk:=[.ptr a 0,.ptr b 0]) rfl (λH=>rfl) hN xs (h.length+1) rfl hBl hBu ?_ J ?_ ?_ ?_
 .rw[B];simp[slots,List.range,List.range.loop,go_sem];omega
 .grind
 .intro E' l D j hj h0 r0 rb rd G jB iE gJ;rw[B]at jB;have n0l:∀r m (PA:mz) (o o':AObj),(T r m++o::o'::PA)[h.length+1+1]?=some o':=λr m PA o o'=>by grind
  have n0s:∀r m (PA:mz) (o o' y:AObj),(T r m++o::o'::PA).set (h.length+1+1) y=T r m++o::y::PA:=λr m PA o o' y=>by rw[ku _ _ W,fX,show h.length+1+1 - (h.length+1)=1 by omega];rfl
  have ht:(xs.take (j+1)).map qe=(xs.take j).map qe++[[I xs[j]]]:=by rw[jn hj,jr];rfl
  have htl:(xs.take (j+1)).length=(xs.take j).length+1:=W;have ni:(xs.take j).length<=j:=W;rw[iE,B];simp only[hB,ht,htl];refine pM _ _ _ _ ?_;simp-dsimp[slots,List.range,List.range.loop,go_sem,jB,fX,n0l,n0s];refine pM _ _ _ _ ?_;simp-dsimp[go_sem,jB,fX,g0,gk,s0,sk,n0l,n0s];refine⟨J,n0l _ _ _ _ _,?_⟩;show Wk E' ⟨[],(T _ _++uj D::rb::h0).set (h.length+1+1) r0⟩ ⟨[],_⟩;rw[n0s];exact Wk.refl _ _
 intro D o;simp only[mj,hB];simp-dsimp[go_sem,B,g0,gk];refine⟨[(h.length+1,D)],rfl,Z,?_,?_⟩
 .grind
 show zA _ _ _ _ ⟨_,oQ [(h.length+1,D)] (T _ _++[uj D,o])⟩;obtain⟨Z',hZ⟩:=Fl [(h.length+1,D)] (T (xs.map qe) xs.length) [uj D,o] (λq hq=>by simp only[iq,qi0,or_false]at hq;subst hq;rw[fX];exact gj _)
 rw[hZ];simp-dsimp[go_sem,B,g0,gk];refine⟨_,.refl _,h.set k (.uarr 3 1 (xs.map qe)),?_,?_,Z,?_,rfl,rfl⟩
 .grind[V.under]
 .simp[*]
 rw[mr];exact wh Q rfl
def qkv(gf:FuncId)(a b:Nat)(xs:List Int)(h:mz)(mE:xs.length<68719476736)
  (hit:∀(l:Nat) (HF:Nat->mz) (n1:Nat),YJ prog l HF xs n1->(∀j i,i<h.length->(HF j)[i]?=h[i]?)->ACalls prog gf [.fn (.yield l) [] [],.ptr a 0,.ptr b 0] (HF 0) λr Y=>r=.ret (.tuple [])/\Y=HF xs.length) :
  ACalls prog 166 [.fn (.func gf) [] [.ptr a 0,.ptr b 0]] h λr Y=>r=.ret (.own h.length xs.length)/\Y=h++[.uarr 3 1 (xs.map qe)]:=by
 refine Bf func166 rfl ah (by simp[ntmps166]) ?_;intro E B hh Q hb nl qb;rw[ntmps166]at B;refine yv (pY ?_);simp[go_sem,B];refine yv (qU [_] _ ?_);simp[go_sem,B];intro c a' w s k;refine Jo s k rfl rfl J rfl af (x:=.own h.length xs.length) (U:=h++[.uarr 3 1 (xs.map qe)]) ?_ ?_
 .have hc:=If 3 1 (h:=h) (WY gf a b h.length xs (h++[.uarr 3 1 []]) Z mE (λl HF n1 h' hH=>hit l HF n1 h' λj i hi=>by rw[hH j i au J,gu hi]));simpa[go_sem]using hc
 intro c' a'' w' s' k';refine lF _ [_,_] _ rfl ?_ c' a'' w' s' k';simp[go_sem,B];apply yd;refine M ?_;exact⟨_,.refl _,h++[.uarr 3 1 (xs.map qe)],af,hwk.refl _,Z,qh3,rfl,rfl⟩
def VF(gf:FuncId)(a b:Nat)(xs:List Int)(h:mz)(mE:xs.length<68719476736)
  (hit:∀(l:Nat) (HF:Nat->mz) (n1:Nat),YJ prog l HF xs n1->(∀j i,i<h.length->(HF j)[i]?=h[i]?)->ACalls prog gf [.fn (.yield l) [] [],.ptr a 0,.ptr b 0] (HF 0) λr Y=>r=.ret (.tuple [])/\Y=HF xs.length) :
  ACalls prog 125 [.fn (.func gf) [] [.ptr a 0,.ptr b 0]] h λr Y=>r=.ret (.own h.length xs.length)/\Y=h++[.uarr 3 1 ((wV xs).map qe)]:=by
 refine s8 func125 ntmps125 λE B hh Q hb nl qb=>?_;refine M ?_;refine o7 (qkv gf a b xs _ mE hit) (M ?_);refine o7 (IC (l:=xs) (h:=h++[.uarr 3 1 (xs.map qe)]) (i:=h.length) Z) (M ?_);exact⟨_,.refl _,h++[.uarr 3 1 ((wV xs).map qe)],af,hwk.refl _,Z,qh3,rfl,rfl⟩
abbrev lR(l:List na):List V:=[.slice (l.map ny)]
def YY(p:Plc)(ls:List (List na))(hv:qw p=true)(hlb:ls.length<=68719476736)(qn:∀x∈ls,x.length<=68719476736)(l:Nat)(HF:Nat->mz)(n1 a b:Nat)(xs:List Int)(qT:xs=ls.flatten.map (sg p))(h':YJ prog l HF xs n1)
  (ha:∀j,(HF j)[a]?=some (.cells [.slice (ls.map lR)])) (hp:∀j,(HF j)[b]?=some (.cells [I p.ver,.slice (p.parts.map Part.c)])) :
  ACalls prog 126 [.fn (.yield l) [] [],.ptr a 0,.ptr b 0] (HF 0) λr Y=>r=.ret (.tuple [])/\Y=HF xs.length:=by
 refine GH func126 rfl ah (by simp[ntmps126]) ?_;intro E B hh Q hb nl qb;rw[ntmps126]at B;have han:a<n1:=by rw[<-h'.len 0];exact(gn.1 (ha 0)).1
 have rM:b<n1:=by rw[<-h'.len 0];exact(gn.1 (hp 0)).1
 refine AH _ _ _ _ ?_;simp-dsimp[go_sem,B,ha,hp];obtain⟨c,hc0⟩:∃c:Nat->Nat,c=λn=>((ls.take n).flatten).length:=⟨_,rfl⟩
 have su:∀n (hn:n<ls.length),c (n+1)=c n+ls[n].length:=λn hn=>by grind[jn,List.flatten_append,it,List.flatten_cons,List.flatten_nil]
 have hce:c ls.length=xs.length:=W;have hxg:∀n (hn:n<ls.length) m (hm:m<ls[n].length),∃hh:c n+m<xs.length,xs[c n+m]=sg p ls[n][m]:=λn hn m hm=>by
  have e1:ls.flatten=(ls.take n).flatten++(ls[n]++(ls.drop (n+1)).flatten):=by grind[me,qiv,List.flatten_append,List.flatten_cons]
  have e2:xs=((ls.take n).flatten).map (sg p)++(ls[n].map (sg p)++((ls.drop (n+1)).flatten).map (sg p)):=W;grind[gz,Nat.add_sub_cancel_left,gu,ii]
 have hYl:=h'.len;have hYu:=h'.und;refine I0 (ι:=Nat) (λn=>n<=ls.length) (λn=>([],⟨[(0,.fn (.yield l) [] []),(1,.ptr a 0),(2,.ptr b 0),(8,.slice (ls.map lR)),(9,I ls.length),(10,I n)],HF (c n)⟩)) (λn=>ls.length - n) 0 (il _) rfl ?_ ?_
 .rw[show c 0=0 by rw[hc0];rfl];exact Wk.mk bb Z J qgb
 intro n hn;have hw:=oi hn hlb;refine AH _ _ _ _ ?_;simp-dsimp[go_sem,B,ha,hp];refine ox (λhc=>?_) (λhc=>?_)
 rotate_left
 .have bL:n=ls.length:=J;subst bL;rw[hce];refine M ?_;refine⟨[],rfl,qiz,Z,?_⟩;simp-dsimp[go_sem,B,oQ];exact⟨_,.refl _,HF xs.length,rfl,hwk.refl _,by rw[h'.len,h'.len];exact gj _,qgh,rfl,rfl⟩
 have oy:=qn _ (ij hc);have hxn:=hxg n hc;refine Qab ?_;refine I0 (ι:=Nat) (λm=>m<=ls[n].length) (λm=>([],⟨[(0,.fn (.yield l) [] []),(1,.ptr a 0),(2,.ptr b 0),(8,.slice (ls.map lR)),(9,I ls.length),(10,I n),(14,.slice (ls[n].map ny)),(15,I ls[n].length),(16,I m)],HF (c n+m)⟩)) (λm=>ls[n].length - m) 0 (il _) rfl ?_ ?_
 .exact Wk.mk W Z W qgb
 intro m hm;have uc:=oi hm oy;refine AH _ _ _ _ ?_;simp-dsimp[go_sem,B,ha,hp];refine ox (λhd=>?_) (λhd=>?_)
 .obtain⟨ni,hx⟩:=hxn m hd;have hy:=h'.y (c n+m) ni [];simp only[jv]at hy;rw[hx]at hy;simp-dsimp[go_sem,B,hd,hp];refine nc (Gb p _ hv) (M ?_);refine hy.mono ?_;rintro r Y ⟨rfl,rfl⟩;simp-dsimp[go_sem,B,uc];exact⟨m+1,J,J,Wk.mk W (by simp[qjl]) W qgb⟩
 have hmm:m=ls[n].length:=J;subst hmm;refine Qaa ?_;refine⟨n+1,J,J,?_⟩;rw[su n hc];exact Wk.mk W Z W qgb
theorem Wb:mL Value.nilFunc=.val .nilFunc:=rfl
def Qn(p:Plc)(ls:List (List na))(h:mz):ACalls prog 86 [.agg p.c,.slice (ls.map lR)] h λr Y=>r=.ret (.fn (.func 126) [] [.ptr (h.length+1) 0,.ptr h.length 0])/\Y=h++[.cells [I p.ver,.slice (p.parts.map Part.c)],.cells [.slice (ls.map lR)]]:=by refine s8 func86 ntmps86 λE B hh Q hb nl qb=>?_;simp-dsimp[go_sem,B,Wb,Plc.c];exact⟨_,.refl _,_,ca,hwk.refl _,Z,qh3,rfl,rfl⟩
def qqo(gf:FuncId)(a b:Nat)(xs:List Int)(h:mz)(mE:xs.length<68719476736)
  (hit:∀(l:Nat) (HF:Nat->mz) (n1:Nat),YJ prog l HF xs n1->(∀j i,i<h.length->(HF j)[i]?=h[i]?)->ACalls prog gf [.fn (.yield l) [] [],.ptr a 0,.ptr b 0] (HF 0) λr Y=>r=.ret (.tuple [])/\Y=HF xs.length) :
  ACalls prog 85 [.fn (.func gf) [] [.ptr a 0,.ptr b 0]] h λr Y=>r=.ret (.slice ((mG xs).map qe))/\Y=h:=by
 refine s8 func85 ntmps85 λE B hh Q hb nl qb=>?_;refine M ?_;refine o7 (VF gf a b xs _ mE hit) (M ?_);refine o7 (IQ (n:=xs.length) (l:=wV xs) (h:=h++[.uarr 3 1 ((wV xs).map qe)]) (i:=h.length) Z Z) (M ?_);exact⟨_,.refl _,h,by simp[V.under],hwk.app0 _,Z,Q,rfl,rfl⟩
def Me(p:Plc)(ls:List (List na))(h:mz)(hv:qw p=true)(hlb:ls.length<=68719476736)(qn:∀x∈ls,x.length<=68719476736)(hfl:ls.flatten.length<68719476736) :
  ACalls prog 85 [.fn (.func 126) [] [.ptr (h.length+1) 0,.ptr h.length 0]] (h++[.cells [I p.ver,.slice (p.parts.map Part.c)],.cells [.slice (ls.map lR)]]) λr Y=>r=.ret (.slice ((mG (ls.flatten.map (sg p))).map qe))/\Y=h++[.cells [I p.ver,.slice (p.parts.map Part.c)],.cells [.slice (ls.map lR)]] :=
 qqo _ _ _ _ _ W λl HF n1 h' hH=>YY p ls hv hlb qn l HF n1 _ _ _ rfl h' (λj=>by rw[hH j _ Z];simp) (λj=>by rw[hH j _ Z];simp)
def M7{f:Foot}(h:lU f=true):f.all=false->f.reads.length<=64/\f.writes.length<=64:=λha=>by unfold lU vi at h;grind
def F3(p:Plc)(f:Foot):APure prog 54 [.agg p.c,.agg f.c] (.slice ((sh p f).map qe)):=by
 obtain⟨R,hR⟩:=Qaj (sh p f)
 rw[hR];unfold sh at hR;refine od func54 ntmps54 λE h B hh Q hb=>?_;simp-dsimp[go_sem,B,Plc.c,Foot.c];refine nc (Hx p f) ?_;refine nf (λL=>?_) (λL=>?_)
 .exact Qfv
 rw[gg bz]at hR;have hv:=(nN L).1;have hl:=M7 (nN L).2;simp-dsimp[go_sem,B,Foot.c];refine og (λO=>?_) (λO=>?_)
 .exact Qfy
 rw[gg dq]at hR;subst hR;refine M ?_;refine o7 (Qn p [f.reads,f.writes] _) (M ?_);have hl:=hl J;have hd:=Me p [f.reads,f.writes] (h++[.cells [I p.ver,.slice (p.parts.map Part.c)],.cells [Bo f.all,.slice (f.reads.map ny),.slice (f.writes.map ny)]]) hv Z au au;exact Qfz
def YM(p:Plc)(f:Foot):APure prog 87 [.agg p.c,.agg f.c] (.slice ((tZ p f).map qe)):=by
 obtain⟨R,hR⟩:=Qaj (tZ p f)
 rw[hR];unfold tZ at hR;refine od func87 ntmps87 λE h B hh Q hb=>?_;simp-dsimp[go_sem,B,Plc.c,Foot.c];refine nc (Hx p f) ?_;refine nf (λL=>?_) (λL=>?_)
 .exact Qfv
 rw[gg bz]at hR;have hv:=(nN L).1;have hl:=M7 (nN L).2;simp-dsimp[go_sem,B,Foot.c];refine og (λO=>?_) (λO=>?_)
 .exact Qfy
 rw[gg dq]at hR;subst hR;refine M ?_;refine o7 (Qn p [f.writes] _) (M ?_);have hl:=hl J;have hd:=Me p [f.writes] (h++[.cells [I p.ver,.slice (p.parts.map Part.c)],.cells [Bo f.all,.slice (f.reads.map ny),.slice (f.writes.map ny)]]) hv Z au au;exact Qfz
def Pw(p:Plc)(f:Foot):APure prog 55 [.agg p.c,.agg f.c] (.slice ((sj p f).map qe)):=by
 obtain⟨R,hR⟩:=Qaj (sj p f)
 rw[hR];unfold sj at hR;refine od func55 ntmps55 λE h B hh Q hb=>?_;simp-dsimp[go_sem,B,Plc.c,Foot.c];refine nc (Hx p f) ?_;refine nf (λL=>?_) (λL=>?_)
 .exact Qfv
 rw[gg bz]at hR;have hl:=zN (nN L).1;simp-dsimp[go_sem,B,Plc.c,Foot.c];refine nc (YM p f) ?_;refine nf (λO=>?_) (λO=>?_)
 .rw[gh O]at hR;exact Qeu
 rw[gg dq]at hR;simp-dsimp[go_sem,B,Plc.c,Foot.c];refine nc (F3 p f) ?_;refine nf (λU=>?_) (λU=>?_)
 .rw[gh U]at hR;subst hR;exact Qfb
 rw[gg fy]at hR;subst hR;obtain⟨ver,l⟩:=p;cases l with
 |nil=>simp at hl
 |cons x l =>
 simp-dsimp[go_sem,B,Plc.c,HW]
attribute [go_sem] Mail.c
def qry(l:List Mail)(f:FuncId)(pk:List V)(q:Mail->Bool)(h:mz)(mU:qu h pk=pk)(hp:∀x∈l,ACalls prog f ([.agg x.c]++pk) h λr Y=>r=.ret (Bo (q x))/\Y=h) :
  ACalls prog 140 [.slice (l.map Mail.c),.fn (.func f) [] pk] h λr Y=>r=.ret (I (ul q l))/\Y=h:=by
 refine cD func140 ntmps140 λE B hh Q hb nl qb=>?_;refine M ?_;refine po l.length (λn=>vy q n (l.drop n)=ul q l) (λn=>⟨[(0,.slice (l.map Mail.c)),(1,.fn (.func f) [] pk),(7,I l.length),(8,I n)],h⟩) e6 (Wk.mk bb Z ee bh) ?_;intro n hn z;have hw:=oi hn hb.1;refine nf (λhc=>?_) (λhc=>?_)
 .rw[ov hc,vy]at z;simp-dsimp[go_sem,B,hc,mU];refine se (hp l[n] (ij hc)) ?_;rintro r Y ⟨rfl,rfl⟩;refine M ?_;refine og ?_ ?_<;>intro hg<;>try simp at hg
  .exact Qep
  exact Qeq
 exact Qer
def Jn(l:List Mail)(f:FuncId)(pk:List V)(q:Mail->Bool)(h:mz)(mU:qu h pk=pk)(hp:∀x∈l,ACalls prog f ([.agg x.c]++pk) h λr Y=>r=.ret (Bo (q x))/\Y=h) :
  ACalls prog 99 [.slice (l.map Mail.c),.fn (.func f) [] pk] h λr Y=>r=.ret (Bo (l.any q))/\Y=h:=by
 refine s8 func99 ntmps99 λE B hh Q hb nl qb=>?_;refine M ?_;refine se (qry l f pk q h mU hp) ?_;rintro r Y ⟨rfl,rfl⟩;obtain⟨hN,hB⟩:=Qaj (l.any q)
 rw[hB];have hi:(0<=ul q l)=(hN=true):=by grind[Jf]
 simp-dsimp[go_sem,B,hi];exact⟨_,.refl _,Y,af,af,Z,ak,rfl,rfl⟩
def qk6(l l':List na):APure prog 170 [.slice (l.map ny),.slice (l'.map ny)] (Bo (ta gY l l')):=by refine od func170 ntmps170 λE h B hh Q hb=>?_;refine M ?_;refine nc (qsi l l') ?_;exact Qek
def Zo(l l':List Pr):APure prog 171 [.slice (l.map Pr.c),.slice (l'.map Pr.c)] (Bo (ta iF l l')):=by refine od func171 ntmps171 λE h B hh Q hb=>?_;refine M ?_;refine nc (YK l l') ?_;exact Qek
def T8(a b:Mail):APure prog 142 [.agg a.c,.agg b.c] (Bo (sG a b)):=by refine od func142 ntmps142 λE h B hh Q hb=>?_;refine M ?_;refine pz (qk6 a.keys b.keys) Z (M ?_);refine pz (Zo a.prs b.prs) Z ?_;simp-dsimp[go_sem,B,sG]
def Z2(x:Mail)(h:mz)(i j k:Nat)(t m n:Int)(hi:h[i]?=some (.cells [I t]))(hj:h[j]?=some (.cells [I m]))(hk:h[k]?=some (.cells [I n])) :
  ACalls prog 100 [.agg x.c,.ptr i 0,.ptr j 0,.ptr k 0] h λr Y=>r=.ret (Bo (decide (x.txn=t)&&decide (x.frm=m)&&decide (x.to=n)))/\Y=h:=by
 refine s8 func100 ntmps100 λE B hh Q hb nl qb=>?_;have qj:i<h.length:=(gn.1 hi).1;have uq:j<h.length:=(gn.1 hj).1;have qh:k<h.length:=(gn.1 hk).1;have a1:∀l,(h++l)[i]?=some (.cells [I t]):=λl=>by rw[gu qj];exact hi
 have a2:∀l,(h++l)[j]?=some (.cells [I m]):=λl=>by rw[gu uq];exact hj
 have a3:∀l,(h++l)[k]?=some (.cells [I n]):=λl=>by rw[gu qh];exact hk
 simp-dsimp[go_sem,B,a1,a2,a3,Q];exact Qfi
def UW(x m:Mail)(h:mz)(i:Nat)(hi:h[i]?=some (.cells m.c)):ACalls prog 141 [.agg x.c,.ptr i 0] h λr Y=>r=.ret (Bo (sG x m))/\Y=h:=by
 refine s8 func141 ntmps141 λE B hh Q hb nl qb=>?_;have qj:i<h.length:=(gn.1 hi).1;have a1:∀l,(h++l)[i]?=some (.cells m.c):=λl=>by rw[gu qj];exact hi
 simp-dsimp[go_sem,B,a1,Q];refine nc (T8 x m) (M ?_);exact Qfi
def qox(x m:Mail)(h:mz)(i:Nat)(hi:h[i]?=some (.cells m.c)):ACalls prog 143 [.agg x.c,.ptr i 0] h λr Y=>r=.ret (Bo (decide (x.frm=m.frm)))/\Y=h:=by
 refine s8 func143 ntmps143 λE B hh Q hb nl qb=>?_;have qj:i<h.length:=(gn.1 hi).1;have a1:∀l,(h++l)[i]?=some (.cells m.c):=λl=>by rw[gu qj];exact hi
 exact Qeo
def ZG(p:Plc)(x:Shard)(f:Foot):APure prog 138 [.agg p.c,.agg x.c,.agg f.c] (.slice ((pU p x.prs f).map Pr.c)):=by
 obtain⟨node,l⟩:=x;have ug:=ON p ⟨node,l⟩ f;have nv:pU p l f=if (v6 p f&&ph l)=true then l.filter λx=>f.all||qa f.reads x.key else []:=rfl;simp only at ug;obtain⟨v,hv⟩:=Qaj ((v6 p f&&ph l))
 rw[hv]at ug nv;simp only[nv];refine od func138 ntmps138 λE h B hh Q hb=>?_;simp[go_sem,Plc.c,Foot.c]at hb;simp-dsimp[go_sem,B,Plc.c,Foot.c];refine nc ug ?_;cases v with
 |false=>simp-dsimp[go_sem,B]
 |true =>
 simp-dsimp[go_sem,B,Foot.c];obtain⟨q,hq⟩:∃q:Pr->Bool,q=λx=>f.all||qa f.reads x.key:=⟨_,rfl⟩
 rw[<-hq];obtain⟨F,hF⟩:∃F:Nat->List Pr,F=λn=>(l.take n).filter q:=⟨_,rfl⟩
 have jW:F 0=[]:=W;have dE:F l.length=l.filter q:=W;have aB:∀n (hn:n<l.length),F (n+1)=F n++(if q l[n]=true then [l[n]]else []):=λn hn=>by grind[Dw]
 have bX:∀n,(F n).length<=n:=λn=>by rw[hF];exact DP _ _ _
 refine po l.length (λ_=>True) (λn=>⟨[(3,.ptr h.length 0),(5,.ptr (h.length+2) 0),(7,.slice ((F n).map Pr.c)),(16,.slice (l.map Pr.c)),(17,I l.length),(18,I n)],h++[.cells [I p.ver,.slice (p.parts.map Part.c)],.cells [I node,.slice (l.map Pr.c)],.cells [Bo f.all,.slice (f.reads.map ny),.slice (f.writes.map ny)]]⟩) trivial ((AB E _).trans ct) ?_;intro n hn _;have hw:=oi hn hb.2.1.1;have aG:=bX n;have wj:=aB n;refine nf (λhc=>?_) (λhc=>?_)
 .have wj:=wj hc;simp-dsimp[go_sem,B,hc,Foot.c];refine pz (GK f.reads _) Z (M ?_);refine og (λhd=>?_) (λhd=>?_)
  .rw[gh W]at wj;refine M ?_;refine pf 8 (Qaa ?_);refine⟨J,hc,?_⟩;rw[wj];exact ng
  rw[gg W,jv]at wj;refine Qaa ?_;refine⟨hc,?_⟩;rw[wj];exact ng
 have bL:n=l.length:=J;subst bL;refine M ?_;rw[dE]
 done
def Vn(p:Plc)(f:Foot)(t:Nat)(n:Int)(l:List Mail):APure prog 63 [.agg p.c,.agg f.c,I t,I n,.slice (l.map Mail.c)] (Bo (tU p f t n l)):=by
 have y3:=Na p f;obtain⟨R,hR⟩:=Qaj (tU p f t n l)
 rw[hR];unfold tU at hR;refine od func63 ntmps63 λE h B hh Q hb=>?_;simp-dsimp[go_sem,B,Plc.c,Foot.c];refine nc (AO p) (M ?_);refine pz (EY f) Z ?_;refine nf (λL=>?_) (λL=>?_)
 .have:v6 p f=false:=by unfold v6 lU;rcases L with L|L<;>simp[L]
  rw[this,ly]at hR;exact Qeu
 have h0r:v6 p f=true:=by simp_all[v6,lU]
 rw[h0r,jb]at hR;simp-dsimp[go_sem,B,Plc.c,Foot.c];refine nc (F3 p f) (M ?_);obtain⟨q,hq⟩:∃q:Int->Bool,q=λm=>l.any λx=>decide (x.txn=(t:Int))&&decide (x.frm=m)&&decide (x.to=n):=⟨_,rfl⟩
 rw[<-hq]at hR;obtain⟨ps,hps⟩:=Qaj (sh p f)
 rw[hps]at hR y3|-;refine po ps.length (λm=>(ps.drop m).all q=R) (λm=>⟨[(4,.slice (l.map Mail.c)),(7,.ptr (h.length+2) 0),(8,.ptr (h.length+3) 0),(24,.slice (ps.map qe)),(25,I ps.length),(26,I m)],h++[.cells [I p.ver,.slice (p.parts.map Part.c)],.cells [Bo f.all,.slice (f.reads.map ny),.slice (f.writes.map ny)],.cells [I t],.cells [I n]]⟩) W ng ?_;intro m hm z;have hw:=oi hm (show ps.length<=68719476736 by omega);refine nf (λhc=>?_) (λhc=>?_)
 .rw[ov hc,qin]at z;simp-dsimp[go_sem,B,hc,qe];refine o7 (Jn l _ _ (λx=>decide (x.txn=(t:Int))&&decide (x.frm=ps[m])&&decide (x.to=n)) _ eg (λx hx=>Z2 x _ _ _ _ t ps[m] n Z Z Z)) ?_;rw[show(l.any λx=>decide (x.txn=(t:Int))&&decide (x.frm=ps[m])&&decide (x.to=n))=q ps[m]by rw[hq]];refine nf (λhd=>?_) (λhd=>?_)
  .rw[hd,ly]at z;exact Qes
  rw[hd,jb]at z;exact Qfx
 rw[gq J,qjc]at z;exact Qes
def UX(p:Plc)(x:Shard)(t:Nat)(f:Foot):APure prog 96 [.agg p.c,.agg x.c,I t,.agg f.c] (.slice ((fU p x.node x.prs t f).map Mail.c)):=by
 have mE:=Ir p f;obtain⟨node,prs⟩:=x;have ug:=ON p ⟨node,prs⟩ f;have nv:fU p node prs t f=if (v6 p f&&ph prs&&wn (sh p f) node)=true then(sj p f).map λto=>⟨(t:Int),node,to,lI p f.reads node,pU p prs f⟩else []:=rfl;simp only at ug|-;rw[nv];clear nv;obtain⟨v,hv⟩:=Qaj ((v6 p f&&ph prs))
 rw[hv]at ug|-;refine od func96 ntmps96 λE h B hh Q hb=>?_;simp[go_sem,Plc.c,Foot.c,Shard.c]at hb;simp-dsimp[go_sem,B,Plc.c,Foot.c];refine pf 11 ?_;simp-dsimp[go_sem,B,Foot.c,Plc.c];refine p7 ug Z (M ?_);refine p7 (F3 p f) Z (M ?_);refine pz (HJ (sh p f) node) Z ?_;refine nf (λL=>?_) (λL=>?_)
 .rw[gg (by rcases L with L|L<;>simp[L])];exact Qek
 obtain⟨rfl,O⟩:=L;have G:v6 p f=true:=(by simpa using hv:v6 p f=true/\ph prs=true).1;have hpv:=(nN G).1;rw[gh (by rw[O];rfl)];clear hv ug;have u3:f.reads.length<=68719476736:=hb.2.2.1.1;simp-dsimp[go_sem,B,Plc.c,Foot.c];refine nc (Pw p f) (M ?_);obtain⟨xs,qT⟩:=Qaj (sj p f)
 rw[qT]at mE|-;obtain⟨hr,hG⟩:∃hr:Int->Mail,hr=λto=>⟨(t:Int),node,to,lI p f.reads node,pU p prs f⟩:=⟨_,rfl⟩
 rw[<-hG];obtain⟨F,hF⟩:∃F:Nat->List Mail,F=λn=>(xs.take n).map hr:=⟨_,rfl⟩
 have jW:F 0=[]:=qii;have dE:F xs.length=xs.map hr:=by rw[hF];simp
 have aB:∀n (hn:n<xs.length),F (n+1)=F n++[hr xs[n]]:=λn hn=>by rw[hF];simp only[jn hn,jr];rfl
 have bX:∀n,(F n).length<=16:=λn=>by rw[hF];simp only[ka,kc];omega
 obtain⟨hN,hB⟩:∃hN:mz,hN=h++[.cells [I p.ver,.slice (p.parts.map Part.c)],.cells [I node,.slice (prs.map Pr.c)],.cells [Bo f.all,.slice (f.reads.map ny),.slice (f.writes.map ny)]]:=⟨_,rfl⟩
 refine po xs.length (λ_=>True) (λn=>⟨[(2,I t),(4,.ptr h.length 0),(5,.ptr (h.length+1) 0),(7,.ptr (h.length+2) 0),(9,.own (h.length+3) (F n).length),(31,.slice (xs.map qe)),(32,I xs.length),(33,I n)],h++[.cells [I p.ver,.slice (p.parts.map Part.c)],.cells [I node,.slice (prs.map Pr.c)],.cells [Bo f.all,.slice (f.reads.map ny),.slice (f.writes.map ny)],.arr 162 5 ((F n).map Mail.c)]⟩) trivial ((mF E _ 9 162 5 af).trans ct) ?_;intro n hn _;have hw:=oi hn (show xs.length<=68719476736 by omega);have aG:=bX n;have wj:=aB n;refine nf (λhc=>?_) (λhc=>?_)
 .have wj:=wj hc;simp-dsimp[go_sem,B,hc,qe];refine pf 10 (M ?_);refine p7 (ZG p ⟨node,prs⟩ f) Z (M ?_);obtain⟨to,hto⟩:=Qaj (xs[n])
  simp only[hto]at wj|-;obtain⟨Lc,hLc⟩:=Qaj (pU p prs f)
  have hGn:(hr to).c=[I t,I node,I to,.slice ((lI p f.reads node).map ny),.slice (Lc.map Pr.c)]:=by rw[hG,<-hLc];rfl
  rw[hLc];obtain⟨K,hK⟩:∃K:Nat->List na,K=λj=>lI p (f.reads.take j) node:=⟨_,rfl⟩
  have hK0:K 0=[]:=qih;have hKe:K f.reads.length=lI p f.reads node:=by rw[hK];simp
  have hK1:∀j (hj:j<f.reads.length),K (j+1)=K j++(if decide (sg p f.reads[j]=node)=true then [f.reads[j]]else []):=λj hj=>by rw[hK];exact Dw hj
  have hKl:∀j,(K j).length<=j:=λj=>by rw[hK];exact DP _ _ _
  refine po f.reads.length (λ_=>True) (λj=>⟨[(2,I t),(4,.ptr h.length 0),(5,.ptr (h.length+1) 0),(7,.ptr (h.length+2) 0),(9,.own (h.length+3) (F n).length),(12,.ptr (h.length+4) 0),(31,.slice (xs.map qe)),(32,I xs.length),(33,I n),(47,.slice (f.reads.map ny)),(48,I f.reads.length),(49,I j)],
   h++[.cells [I p.ver,.slice (p.parts.map Part.c)],.cells [I node,.slice (prs.map Pr.c)],.cells [Bo f.all,.slice (f.reads.map ny),.slice (f.writes.map ny)],.arr 162 5 ((F n).map Mail.c),.cells [I t,I node,I to,.own (h.length+5) (K j).length,.slice (Lc.map Pr.c)],.arr 9 1 ((K j).map ny)]⟩) trivial
   ((pJ E _ (p:=h.length+4) (j:=3) (t:=9) (sz:=1) (xs:=[I t,I node,I to,.nils,.slice (Lc.map Pr.c)]) Z Z).trans (by rw[hK0];exact ng)) ?_
  intro j hj _;have hwj:=oi hj u3;have hj1:=hKl j;have pL:=hK1 j;refine nf (λhd=>?_) (λhd=>?_)
  .have pL:=pL hd;simp-dsimp[go_sem,B,hd];refine pf 5 (M ?_);refine p7 (Gb p _ hpv) Z ?_;refine nf (λhe=>?_) (λhe=>?_)
   .rw[gh (by simpa using he)]at pL;simp-dsimp[go_sem,B,hwj];refine⟨J,hd,?_⟩;rw[pL];exact ng
   rw[gg (by simpa using he),jv]at pL;simp-dsimp[go_sem,B,hwj];refine⟨hd,?_⟩;rw[pL];exact ng
  have hjj:j=f.reads.length:=J;subst hjj;rw[hKe];refine Qaa ?_;refine⟨J,hc,?_⟩;rw[wj,jr,jd,kf,hGn];exact ng
 have bL:n=xs.length:=J;subst bL;refine M ?_;rw[dE,qio]
def Ma(a b:List Pr):(cC a b).1.length<=a.length+b.length:=qhm
def XE{α β:Type}(f:β->α->β)(b:β){l:List α}{n:Nat}(h:n<l.length):(l.take (n+1)).foldl f b=f ((l.take n).foldl f b) l[n]:=by rw[jn h,qj9];rfl
def UH(t:Nat)(n:Int)(l:List Mail)(h0:Nat)(hL:∀m∈aX t n l,m.prs.length<=h0)(hM:((aX t n l).length+1) * h0<68719476736) :
  APure prog 101 [I t,I n,.slice (l.map Mail.c)] (.tuple [.slice ((cN t n l).1.map Pr.c),I (cN t n l).2]):=by
 obtain⟨R,hR⟩:=Qaj (cN t n l)
 rw[hR];unfold cN at hR;refine ry func101 ntmps101 λE h B hh Q hb=>?_;refine M ?_;obtain⟨g,hg⟩:∃g:List Mail->Mail->List Mail,g=λnw m=>if (wN t n m&&!nw.any (λx=>sG x m))=true then nw++[m]else nw:=⟨_,rfl⟩
 obtain⟨F,hF⟩:∃F:Nat->List Mail,F=λk=>(l.take k).foldl g []:=⟨_,rfl⟩
 have jW:F 0=[]:=W;have dE:F l.length=aX t n l:=by grind[aX]
 have aB:∀k (hk:k<l.length),F (k+1)=g (F k) l[k]:=λk hk=>by rw[hF];exact XE g [] hk
 have bX:∀k,k<=l.length->(F k).length<=k:=λk=>by
  induction k with
  |zero=>intro _;rw[jW];simp
  |succ k ih =>
   intro hk;have:=ih J;rw[aB k J,hg];simp only;split
   .simp;omega
   omega
 refine po l.length (λ_=>True) (λk=>⟨[(0,I t),(1,I n),(8,.own h.length (F k).length),(18,.slice (l.map Mail.c)),(19,I l.length),(20,I k)],h++[.arr 162 5 ((F k).map Mail.c)]⟩) trivial ((mF E _ 8 162 5 af).trans ct) ?_;intro k hk _;have hw:=oi hk hb.1;have aG:=bX k hk;have wj:=aB k;refine nf (λhc=>?_) (λhc=>?_)
 .have wj:=wj hc;refine Qab ?_;obtain⟨h',hY⟩:∃h':mz,h'=h++[.arr 162 5 ((F k).map Mail.c),.cells l[k].c]:=⟨_,rfl⟩
  have jE:=Jn (F k) 141 [.ptr (h.length+1) 0] (λx=>sG x l[k]) h' rfl (λx hx=>UW x l[k] h' (h.length+1) cy);rw[hY]at jE;refine Q0 (λ_=>jE) Z ?_ (λh=>h);clear jE hY;obtain⟨D,hD⟩:∃D,((F k).any λx=>sG x l[k])=D:=⟨_,rfl⟩
  rw[hD];rw[hg]at wj;simp only[hD]at wj;refine M ?_;refine og (λhd=>?_) (λhd=>?_)
  .rw[gh (by grind[wN])]at wj;refine Qaa ?_;refine⟨J,hc,?_⟩;rw[wj,jr,it];exact ng
  rw[gg (by grind[wN])]at wj;refine Qaa ?_;refine⟨hc,?_⟩;rw[wj];exact ng
 have rR:k=l.length:=J;subst rR;rw[dE]at aG|-;clear wj aB bX dE jW hF hg;obtain⟨PA,hMe⟩:=Qaj (aX t n l)
 rw[hMe]at hR hL hM aG|-;have hMl:PA.length<=68719476736:=J;refine nf (λL=>?_) (λL=>?_)
 .rw[gh bz]at hR;exact Qeu
 rw[gg bz]at hR;refine M ?_;refine po PA.length (λk=>((PA.drop k).any λm=>!ph m.prs)=(PA.any λm=>!ph m.prs)) (λk=>⟨[(8,.slice (PA.map Mail.c)),(48,.slice (PA.map Mail.c)),(49,I PA.length),(50,I k)],h⟩) Z ((AB E _).trans ng) ?_;intro k hk z;have hw:=oi hk hMl;refine nf (λhc=>?_) (λhc=>?_)
 .rw[ov hc,qit]at z;refine Qab ?_;refine nc (zW PA[k].prs) ?_;refine nf (λhd=>?_) (λhd=>?_)
  .rw[hd,qjy,Bool.true_or]at z;rw[gh z.symm]at hR;exact Qeu
  rw[hd,Bool.not_true,qir]at z;exact Qfx
 rw[gq J,qjn]at z;rw[gg W]at hR;refine M ?_;refine u4 (α:=List Pr) PA.length (λk out=>vQ (PA.take k) (PA.drop k) out=R/\out.length<=k * h0) (λk out=>⟨[(8,.slice (PA.map Mail.c)),(13,.slice (out.map Pr.c)),(59,.slice (PA.map Mail.c)),(60,I PA.length),(61,I k)],h⟩) [] W ((AB E _).trans ng) ?_;intro k out hk z;obtain⟨z,hlo⟩:=z;have hw:=oi hk hMl;refine nf (λhc=>?_) (λhc=>?_)
 .have hkM:(k+1) * h0<=(PA.length+1) * h0:=jl _ J;rw[kz,qi5]at hkM;have hmL:=hL _ (ij hc);rw[ov hc,vQ]at z;refine Qab ?_;refine⟨J,?_⟩;rw[<-ln];obtain⟨h',hY⟩:∃h':mz,h'=h++[.cells PA[k].c]:=⟨_,rfl⟩
  have jE:=Jn (PA.take k) 143 [.ptr h.length 0] (λx=>decide (x.frm=PA[k].frm)) h' rfl (λx hx=>qox x PA[k] h' h.length W);rw[hY]at jE;refine se jE ?_;clear jE hY;rintro r Y ⟨rfl,rfl⟩;obtain⟨D,hD⟩:∃D,((PA.take k).any λx=>decide (x.frm=PA[k].frm))=D:=⟨_,rfl⟩
  rw[hD]at z|-;refine M ?_;refine og (λhd=>?_) (λhd=>?_)
  .rw[gh hd]at z;exact Qes
  rw[gg W]at z;have eD:=Ma out PA[k].prs;refine M ?_;refine nc (qlq out PA[k].prs J) ?_;refine nf (λhe=>?_) (λhe=>?_)
  .rw[gh he]at z;exact Qes
  rw[gg fx]at z;rw[<-jn hc]at z;refine Qaa ?_;refine⟨hc,_,⟨z,?_⟩,ng⟩;rw[kz,qi5];omega
 rw[gq J,vQ]at z;exact Qes
section
variable{i:Nat}{H:mz}{ob:AObj}
def VQ(x:LReq)(h:mz)(i:Nat)(t:Int)(hi:h[i]?=some (.cells [I t])):ACalls prog 198 [.agg x.c,.ptr i 0] h λr Y=>r=.ret (Bo (decide (x.t=t)))/\Y=h:=by
 refine s8 func198 ntmps198 λE B hh Q hb nl qb=>?_;have qj:i<h.length:=(gn.1 hi).1;have a1:∀l,(h++l)[i]?=some (.cells [I t]):=λl=>by rw[gu qj];exact hi
 exact Qet
def Zv(x:LReq)(t:Int):APure prog 198 [.agg x.c,.eptr [I t]] (Bo (decide (x.t=t))):=by refine od func198 ntmps198 λE h B hh Q hb=>?_;simp-dsimp[go_sem,B,LReq.c]
theorem wh{N:Nat}(h:hUnder N H=true)(ho:ob.under N=true):hUnder N (H.set i ob)=true:=by grind[lY]
theorem Ef(h:H[i]?=some ob):H.set i ob=H:=by apply kp;grind
def aS(t:Int)(l:List LReq):List LReq:=l.filter λx=>!fH t x
def qqm{ci:Nat}(l:List LReq)(t:Int)(hi:H[i]?=some (.uarr 152 2 (l.map LReq.c)))(hci:H[ci]?=some (.cells [I t]))(hl:l.length<68719476736) :
  ACalls prog 197 [.own i l.length,.fn (.func 198) [] [.ptr ci 0]] H λr H'=>r=.ret (.slice ((aS t l).map LReq.c))/\∃X,H'=H.set i (.arr 152 2 X):=by
 refine Bf func197 rfl ah (by simp[ntmps197]) ?_;intro E B hh Q hb nl qb;rw[ntmps197]at B;have tq:=(gn.1 hi).1;have qn:=(gn.1 hci).1;have nv:i≠ci:=λe=>by rw[e,hci]at hi;cases hi
 refine yv (pY ?_);simp[go_sem,B];refine yv (qU [_,_] _ ?_);simp[go_sem,B];intro c a w s k;refine M6 s k (f:=.func 129) (args:=#[.tmp 8,.tmp 9]) rfl qhh rfl af (py:=129) af
  (λy=>match y with| .tmp 8=>.slice (l.map LReq.c)|_=>.fn (.func 198) [] [.eptr [I t]]) ?_ (x:=I (ul (fH t) l)) (λh=>MU l _ _ (fH t) h eg λx=>Zv x t h) rfl ?_
 .intro y hy v G;simp only[iq,qi0,or_false]at hy;rcases hy with rfl|rfl
  .exact YS (n:=l.length) s.hs hi Z ei
  exact TW (λu Q=>UG s.hs hci (by simp[V.isData];rfl) Q) ei
 intro a' w' s' k';refine lF _ [_,_,_] _ rfl ?_ _ a' w' s' k';simp[go_sem,B];have hfe:aS t l=l.filter λx=>!fH t x:=rfl;clear s' k' s k;rcases D1 (fH t) l with⟨O,U⟩|⟨m,hm,O,U⟩
 .rw[O];refine AWp.wk (tX E _ (i:=i) hi) ?_;apply yd;have cE:(H.set i (.arr 152 2 (l.map LReq.c)))[i]?=some (.arr 152 2 (l.map LReq.c)):=ji tq;simp-dsimp[go_sem,B,cE];have hd:aS t l=l:=List.filter_eq_self.2 λx hx=>by grind
  exact⟨_,.refl _,H.set i (.arr 152 2 (l.map LReq.c)),rfl,hwk.refl _,Z,qfz,by rw[hd],_,rfl⟩
 rw[O];have hw1':IntKind.i64.wrap ((m:Int)+1)=((m+1:Nat):Int):=by rw[oi (kb hm) J];omega
 refine FQ (e1:=⟨[(0,.own i l.length),(1,.fn (.func 198) [] [.ptr ci 0]),(5,I m)],H⟩) ?_ ?_
 .refine M ?_;exact Qfr
 refine Kn (ι:=List LReq) (λmw=>mw.length=l.length/\mw.take (aS t l).length=aS t l) (λmw=>⟨[(0,.own i l.length),(5,I (aS t l).length)],H.set i (.uarr 152 2 (mw.map LReq.c))⟩) ?_ ?_
 rotate_left
 .rintro mw ⟨a1,a2⟩;have hi3:(H.set i (.uarr 152 2 (mw.map LReq.c)))[i]?=some (.uarr 152 2 (mw.map LReq.c)):=ji tq;refine yv (qU [_,_] _ ?_);simp[go_sem,B];intro c a w s k;refine Yn s k (T:=98) (el:=152) (x:=.tmp 36) (y:=.tmp 37) (d1:=38) (n:=l.length) (j:=(aS t l).length) (i:=i) (sz:=2) (zr:=[I 0,Bo false]) (S:=mw.map LReq.c) rfl rfl rfl J rfl rfl rfl Z Z Z J Z (by simp[go_sem];exact⟨rfl,rfl⟩) af af af hi3 (by simp[a1]) W ?_;intro a' w' s' k';refine lF _ [_,_,_,_] _ rfl ?_ c a' w' s' k';simp[go_sem,B];clear s' k' s k;have hjl:(aS t l).length<=l.length:=qjx _ _;obtain⟨R,hR⟩:=Qaj (List.take (aS t l).length (List.map LReq.c mw)++List.replicate (l.length - (aS t l).length) [I 0,Bo false])
  have hRl:R.length=l.length:=W;have hRt:R.take (aS t l).length=(aS t l).map LReq.c:=by rw[<-hR,qkd W,List.take_take,Nat.min_self,<-ln,a2]
  rw[hR];refine AWp.wk (tX E _ (i:=i) (t:=152) (sz:=2) (S:=R) W) ?_;have hi5:(H.set i (.arr 152 2 R))[i]?=some (.arr 152 2 R):=ji tq;apply yd;simp only[mq];simp-dsimp[go_sem,B,hi5,hRl,hRt,hjl];refine⟨λr G=>?_,?_⟩
  .rw[<-hR]at G;rcases jj.1 G with h9|h9
   .obtain⟨x,_,rfl⟩:=ig.1 (qi2 h9);rfl
   grind
  exact⟨_,.refl _,H.set i (.arr 152 2 R),rfl,hwk.refl _,Z,qfz,rfl,_,rfl⟩
 refine M ?_;rw[hw1'];have hd1:aS t (l.take (m+1))=l.take m:=by
  unfold aS;rw[jn hm,List.filter_append];have e1:(l.take m).filter (λx=>!fH t x)=l.take m:=List.filter_eq_self.2 λx hx=>by rw[<-J3 (fH t) l 0 m (by rw[im];exact O)]at hx;exact jk.1 List.all_takeWhile x hx
  grind
 refine u4 (α:=List LReq) (l.length - (m+1)) (λn mw=>mw.length=l.length/\mw.take (aS t (l.take (m+1+n))).length=aS t (l.take (m+1+n))/\mw.drop (m+1+n)=l.drop (m+1+n)/\(aS t (l.take (m+1+n))).length<=m+n)
  (λn mw=>⟨[(0,.own i l.length),(1,.fn (.func 198) [] [.ptr ci 0]),(5,I ((aS t (l.take (m+1+n))).length)),(6,I ((m+1+n:Nat)))],H.set i (.uarr 152 2 (mw.map LReq.c))⟩) l ?_ ?_ ?_
 .grind
 .rw[Ef hi,jt,hd1];have:(l.take m).length=m:=W;rw[this];exact Qfr
 rintro n mw hn ⟨a1,a2,a3,a4⟩;obtain⟨k,hk⟩:=Qaj (m+1+n)
 obtain⟨j,hj⟩:=Qaj ((aS t (l.take k)).length)
 rw[show m+1+(n+1)=k+1 by omega];rw[hk]at a2 a3 a4|-;rw[hj]at a2 a4|-;have hi3:(H.set i (.uarr 152 2 (mw.map LReq.c)))[i]?=some (.uarr 152 2 (mw.map LReq.c)):=ji tq;have hi4:∀ac,(H.set i (.uarr 152 2 (mw.map LReq.c))++ac)[i]?=some (.uarr 152 2 (mw.map LReq.c)):=λac=>by rw[gu W];exact hi3
 have hc4:∀ac,(H.set i (.uarr 152 2 (mw.map LReq.c))++ac)[ci]?=some (.cells [I t]):=λac=>by rw[gu W,gv nv];exact hci
 have hw:=oi (n:=k) (h0:=l.length) J J;have hwj:=oi (n:=j) (h0:=l.length) J J;have hkl:k<=l.length:=J;simp-dsimp[go_sem,B,hi3,a1];refine ox (λhc=>?_) (λhc=>?_)
 .have hAk:∀h,mw[k]'h=l[k]:=λh=>by
   have:(mw.drop k)[0]?=(l.drop k)[0]?:=by rw[a3]
   grind
  have pG:aS t (l.take (k+1))=aS t (l.take k)++if fH t l[k]then []else [l[k]]:=by unfold aS;grind[jn]
  have hdk:mw.drop (k+1)=l.drop (k+1):=by
   have:=congrArg (List.drop 1) a3
   rwa [List.drop_drop,List.drop_drop]at this
  have kD:j<l.length:=J;simp-dsimp[go_sem,B,hi3,hi4,a1,hc,hAk,LReq.c];refine o7 (VQ l[k] _ ci t (hc4 _)) ?_;refine nf (λhg=>?_) (λhg=>?_)
  .simp-dsimp[go_sem,B,hi3,hi4,a1,kD,hw,hwj,LReq.c];have hd3:aS t (l.take (k+1))=aS t (l.take k)++[l[k]]:=W;have hl3:(aS t (l.take (k+1))).length=j+1:=W;refine⟨J,mw.set j l[k],⟨by simp[a1],?_,?_,J⟩,?_⟩
   .rw[hl3,hd3,<-a2,jn W,List.getElem_set_self,List.take_set_of_le (gj _)]
   .grind[List.drop_set]
   rw[hl3,jw _ _ W,mq,qiq];exact Qga
  refine Qaa ?_;have hd3:aS t (l.take (k+1))=aS t (l.take k):=W;refine⟨J,mw,⟨a1,by rw[hd3,hj];exact a2,hdk,by rw[hd3];omega⟩,?_⟩;rw[hd3,hj];exact Qga
 have vd:k=l.length:=J;refine M ?_;refine⟨mw,⟨a1,?_⟩,?_⟩
 .grind
 rw[vd,mj]at hj;rw[hj];exact Qfr
end
def On(q:List LReq)(t:Int)(hl:q.length<68719476736):APure prog 169 [.slice (q.map LReq.c),I t] (.slice ((fL t q).map LReq.c)):=by refine ry func169 ntmps169 λE h B hh Q hb=>?_;refine M ?_;refine o7 (IP q _) (M ?_);refine se (qqm (H:=h++[.cells [I t],.uarr 152 2 (q.map LReq.c)]) (i:=h.length+1) (ci:=h.length) q t Z Z hl) ?_;rintro r Y ⟨rfl,X,rfl⟩;have e1:(h++[AObj.cells [I t],.uarr 152 2 (q.map LReq.c)]).set (h.length+1) (.arr 152 2 X)=h++[AObj.cells [I t],.arr 152 2 X]:=Z;rw[e1];refine M ?_;rfl
theorem OO(t:Int)(q:LQ):∀l,eA t (l++[q])=eA t l++if (fL t q.reqs).length=0 then []else [⟨q.key,fL t q.reqs⟩]
 | []=>by simp[ke,eA]
 |x::l=>by have ih:=OO t q l;rw[mb,eA,ih,eA];rcases fL t x.reqs with _|⟨y,m⟩<;>simp
def Rq(t:Int):∀l,(eA t l).length<=l.length
 | []=>gj _
 |x::l=>by have ih:=Rq t l;rw[eA];split<;>simp<;>omega
def W8(T:LT)(t:Int)(hv:kV T=true)(cV:0<=ul (fH t) T.glob)(hl:T.glob.length<68719476736)(hq:T.qs.length<68719476736)(G:∀x∈T.qs,x.reqs.length<68719476736) :
  APure prog 139 [.agg T.c,I t] (.tuple [.agg (uM t T).c,I 0]):=by
 refine od func139 ntmps139 λE h B hh Q hb=>?_;simp[go_sem,LT.c]at hb;simp-dsimp[go_sem,B,LT.c];refine nc (GV T) ?_;simp-dsimp[go_sem,B,hv];refine nc (BH T.glob t) ?_;have hix2:¬ul (fH t) T.glob<0:=J;simp-dsimp[go_sem,B,hix2];refine nc (On T.glob t hl) (M ?_);obtain⟨F,hF⟩:∃F:Nat->List LQ,F=λn=>eA t (T.qs.take n):=⟨_,rfl⟩
 have jW:F 0=[]:=by grind[eA]
 have aB:∀n (hn:n<T.qs.length),F (n+1)=F n++if (fL t T.qs[n].reqs).length=0 then []else [⟨T.qs[n].key,fL t T.qs[n].reqs⟩]:=λn hn=>by grind[jn,OO]
 have bX:∀n,(F n).length<=n:=λn=>by rw[hF];refine jh (Rq t _) ?_;rw[kc];omega
 have dE:F T.qs.length=eA t T.qs:=W;refine po T.qs.length (λ_=>True) (λn=>⟨[(1,I t),(4,P0 (h.length+1)),(6,P0 (h.length+2)),(28,.slice (T.qs.map LQ.c)),(29,I T.qs.length),(30,I n)],h++[.cells [.slice (T.glob.map LReq.c),.slice (T.qs.map LQ.c)],.cells [.nils,.nils],.cells [.slice ((fL t T.glob).map LReq.c),.own (h.length+3) (F n).length],.arr 192 2 ((F n).map LQ.c)]⟩) trivial
  ((pJ E _ (p:=h.length+2) (j:=1) (t:=192) (sz:=2) (xs:=[.slice ((fL t T.glob).map LReq.c),.nils]) Z Z).trans ct) ?_
 intro n hn _;have hw:=oi hn J;refine nf (λhc=>?_) (λhc=>?_)
 .simp-dsimp[go_sem,B,hc,LQ.c];refine nc (On T.qs[n].reqs t (G _ (ij hc))) (M ?_);have h9:=bX n;refine ox (λhg=>?_) (λhg=>?_)
  .have wj:F (n+1)=F n++[⟨T.qs[n].key,fL t T.qs[n].reqs⟩]:=by rw[aB n hc,gg J]
   simp-dsimp[go_sem,B,hw,LQ.c];refine⟨J,hc,?_⟩;rw[wj,jr,it,jd,kf,show LQ.c ⟨T.qs[n].key,fL t T.qs[n].reqs⟩=[my T.qs[n].key,.slice ((fL t T.qs[n].reqs).map LReq.c)]from rfl];exact(Wk.mk bb af cu (by simp[go_sem,LQ.c]))
  have wj:F (n+1)=F n:=by rw[aB n hc];simp[hg]
  refine Qaa ?_;refine⟨hc,?_⟩;rw[wj];exact(Wk.mk bb af cu (by simp[go_sem,LQ.c]))
 have nv:n=T.qs.length:=J;subst nv;refine M ?_;simp[dE,uM,LT.c]
theorem V4{l:List Int}:(Lib.compact l).length=0↔l=[]:=by
 constructor
 .intro h;cases l with
  |nil=>rfl
  |cons x l =>
   exfalso;have L:(0:Nat)∈(List.range (x::l).length).filter (Lib.keeps (x::l).toArray):=kl.2 ⟨qil.2 Z,Lib.keeps_lt_one _ 0 J⟩;have O:=List.length_pos_of_mem L;unfold Lib.compact Lib.compactUpTo at h;rw[ka]at h;omega
 rintro rfl;rfl
def XO(T:LT)(t:Int):(Kc T t).length=0↔mZ T t=[]:=by
 unfold Kc;rw[V4];constructor
 .grind[List.length_mergeSort,ko]
 simp_all
def XA(T:LT)(t:Nat)(hl:T.glob.length+bE T.qs<68719476736):APure prog 59 [.agg T.c,I t] (Bo (BG T t)):=by refine od func59 ntmps59 λE h B hh Q hb=>?_;simp[go_sem,LT.c]at hb;simp-dsimp[go_sem,B,LT.c];refine nc (GV T) (M ?_);refine pz (BH T.glob t) Z (M ?_);refine pz (Va T t hl) Z ?_;have hw:=XO T t;simp-dsimp[go_sem,B,BG,hw];rw[show decide (mZ T ↑t=[])=(mZ T ↑t).isEmpty from by cases mZ T ↑t<;>simp]
def Vs(T:LT)(t:Int)(hv:kV T=true)(cV:ul (fH t) T.glob<0) :
  APure prog 139 [.agg T.c,I t] (.tuple [.agg [.slice [],.slice []],I 9]):=by
 refine od func139 ntmps139 λE h B hh Q hb=>?_;simp[go_sem,LT.c]at hb;simp-dsimp[go_sem,B,LT.c];refine nc (GV T) ?_;simp-dsimp[go_sem,B,hv];refine nc (BH T.glob t) ?_;simp-dsimp[go_sem,B,cV]
section
variable{H:mz}{o k t:Nat}{a0 a1 a2 a3 a4 a7 a8 a9 b1 b2 b3 b4 b5 b6:V}{h0:List (List Int)}
def Pq(H:mz)(v:V)(S:List (List V)):Prop:=v=.slice S\/∃j,v=.own j S.length/\H[j]?=some (.arr 34 1 S)
abbrev iR(l:List Int):List V:=[.slice (l.map qe)]
def Po{v a6:V}{n:Int}(ho:H[o]?=some (.cells [a0,a1,a2,a3,a4,v,a6,a7,a8,a9]))(hv:Pq H v (h0.map iR))(hk:H[k]?=some (.cells [I n,b1,b2,b3,b4,b5,b6]))(ht:t<h0.length) :
  ACalls prog 56 [P0 o,P0 k,I t] H λr Y=>r=.ret (Bo (wn h0[t] n))/\Y=H:=by
 refine s8 func56 ntmps56 λE B hh Q hb nl qb=>?_;have hi:=HJ h0[t] n;rcases hv with rfl|⟨j,rfl,hj⟩
 .exact Qgb
 exact Qgc
def Q8{v a5:V}{n:Int}(ho:H[o]?=some (.cells [a0,a1,a2,a3,a4,a5,v,a7,a8,a9]))(hv:Pq H v (h0.map iR))(hk:H[k]?=some (.cells [I n,b1,b2,b3,b4,b5,b6]))(ht:t<h0.length) :
  ACalls prog 62 [P0 o,P0 k,I t] H λr Y=>r=.ret (Bo (wn h0[t] n))/\Y=H:=by
 refine s8 func62 ntmps62 λE B hh Q hb nl qb=>?_;have hi:=HJ h0[t] n;rcases hv with rfl|⟨j,rfl,hj⟩
 .exact Qgb
 exact Qgc
def QX(Q:hUnder H.length H=true){i:Nat}{x:AObj}(h:H[i]?=some x):x.under H.length=true:=lY.1 Q x (gw h)
def G2{b0:V}{T:LT}(hk:H[k]?=some (.cells [b0,b1,.slice (T.glob.map LReq.c),.slice (T.qs.map LQ.c),b4,b5,b6]))(hv:kV T=true)(hl:T.glob.length<68719476736)(hq:T.qs.length<68719476736)(G:∀x∈T.qs,x.reqs.length<68719476736) :
  ACalls prog 97 [P0 o,P0 k,I t] H λr Y=>r=.ret (.tuple [])/\Y=H.set k (.cells [b0,b1,.slice ((relS T t).glob.map LReq.c),.slice ((relS T t).qs.map LQ.c),b4,b5,b6]):=by
 refine s8 func97 ntmps97 λE B hh Q hb nl qb=>?_;have hkl:=(gn.1 hk).1;have hk1:∀l,(H++l)[k]?=some (.cells [b0,b1,.slice (T.glob.map LReq.c),.slice (T.qs.map LQ.c),b4,b5,b6]):=λl=>by rw[gu hkl];exact hk
 have aA:∀l X,(H++l).set k X=H.set k X++l:=λl X=>jw _ _ hkl;have hbu:=QX Q hk;simp only[AObj.under,q9,V.under,gy,jb,kg]at hbu;by_cases cV:0<=ul (fH (t:Int)) T.glob
 .have pq:=W8 T t hv cV hl hq G;have he:relS T t=uM t T:=by grind[relS]
  rw[he];simp-dsimp[go_sem,B,hk];refine nc pq ?_;simp-dsimp[go_sem,B,LT.c,hk1,aA];refine⟨_,.refl _,_,ca,hwk.app0 _,Z,?_,rfl,rfl⟩;simp only[mr];exact Go.Abs.wh (n:=H.length) (i:=k) (o:=AObj.cells [b0,b1,.slice ((uM (t:Int) T).glob.map LReq.c),.slice ((uM (t:Int) T).qs.map LQ.c),b4,b5,b6]) Q (by simp[AObj.under,q9,V.under,hbu])
 have pq:=Vs T t hv J;have he:relS T t=T:=by grind[relS]
 rw[he,fM hk];simp-dsimp[go_sem,B,hk];refine nc pq (M ?_);exact⟨_,.refl _,H,ca,hwk.app0 _,Z,Q,rfl,rfl⟩
end
structure NK where
 c:Nat
 ib:Nat
 sd:Nat
 xd:Nat
abbrev wP(x:Nd)(k:NK):List V:=[I x.node,.slice (x.prs.map Pr.c),.slice (x.tab.glob.map LReq.c),.slice (x.tab.qs.map LQ.c),.own k.ib x.inbox.length,.own k.sd x.sent.length,.own k.xd x.exd.length]
structure NdH(H:mz)(k:NK)(x:Nd):Prop where
 hc:H[k.c]?=some (.cells (wP x k))
 hi:H[k.ib]?=some (.arr 162 5 (x.inbox.map Mail.c))
 hs:H[k.sd]?=some (.uarr 4 1 (x.sent.map rS))
 hx:H[k.xd]?=some (.uarr 4 1 (x.exd.map rS))
def gZ(p:Plc)(A:List Txn):List (List Int):=A.map λx=>sh p (uw x)
def jY(p:Plc)(A:List Txn):List (List Int):=A.map λx=>sj p (uw x)
theorem Ym(p:Plc)(A:List Txn):(gZ p A).length=A.length:=by simp[gZ]
theorem KW(p:Plc)(A:List Txn):(jY p A).length=A.length:=by simp[jY]
def qm8{p:Plc}{A:List Txn}{t:Nat}(h:t<A.length)(Y:t<(gZ p A).length):(gZ p A)[t]=sh p (pc A t):=by grind[ii,yV,gZ,qiy]
def KF{p:Plc}{A:List Txn}{t:Nat}(h:t<A.length)(Y:t<(jY p A).length):(jY p A)[t]=sj p (pc A t):=by grind[ii,yV,jY,qiy]
abbrev xG(nb:List Proc)(p:Plc)(A:List Txn)(q ef tr a b c:Nat):List V :=
 [.slice (nb.map Proc.c),I p.ver,.slice (p.parts.map Part.c),.slice (A.map Txn.c),.slice (A.map λt=>(uw t).c),.slice ((gZ p A).map iR),.slice ((jY p A).map iR),.own q a,.own tr b,.own ef c]
structure SysH(hN:Nat)(nb:List Proc)(p:Plc)(A:List Txn)(H:mz)(o q ef tr:Nat)(ks:List NK)(σ:Sy):Prop where
 ho:H[o]?=some (.cells (xG nb p A q ef tr σ.nds.length σ.tr.length σ.efs.length))
 hq:H[q]?=some (.oarr 97 1 (ks.map λk=>[.ptr k.c 0]))
 he:H[ef]?=some (.uarr 82 8 (σ.efs.map Eff.c))
 ht:H[tr]?=some (.uarr 162 5 (σ.tr.map Mail.c))
 len:ks.length=σ.nds.length
 nd:∀(i:Nat) (k:NK) (x:Nd),ks[i]?=some k->σ.nds[i]?=some x->NdH H k x
 sep:∀(i j:Nat) (a b:NK),ks[i]?=some a->ks[j]?=some b->(i≠j->a.c≠b.c/\a.ib≠b.ib/\a.sd≠b.sd/\a.xd≠b.xd)/\a.sd≠b.xd
 lo:hN<=o/\hN<=q/\hN<=ef/\hN<=tr
 lk:∀k∈ks,hN<=k.c/\hN<=k.ib/\hN<=k.sd/\hN<=k.xd
section
variable {hN:Nat} {nb:List Proc} {p:Plc} {A:List Txn} {H H':mz} {o q ef tr:Nat} {ks:List NK} {σ:Sy}
section
variable{i:Nat}{k:NK}
def SysH.ne(my:SysH hN nb p A H o q ef tr ks σ):q≠o/\ef≠o/\tr≠o/\ef≠q/\tr≠q/\tr≠ef:=by
 refine⟨λe=>?_,λe=>?_,λe=>?_,λe=>?_,λe=>?_,λe=>?_⟩
 .have h:=my.hq;exact Qgd
 .have h:=my.he;exact Qgd
 .have h:=my.ht;exact Qgd
 .have h:=my.he;exact Qge
 .have h:=my.ht;exact Qge
 have h:=my.ht;rw[e,my.he]at h;simp at h
def SysH.gt(my:SysH hN nb p A H o q ef tr ks σ){x:Nd}(hk:ks[i]?=some k)(hx:σ.nds[i]?=some x) :
  (k.c≠o/\k.c≠q/\k.c≠ef/\k.c≠tr)/\(k.ib≠o/\k.ib≠q/\k.ib≠ef/\k.ib≠tr)/\(k.sd≠o/\k.sd≠q/\k.sd≠ef/\k.sd≠tr)/\(k.xd≠o/\k.xd≠q/\k.xd≠ef/\k.xd≠tr):=by
 have N:=my.nd i k x hk hx;refine⟨⟨λe=>?_,λe=>?_,λe=>?_,λe=>?_⟩,⟨λe=>?_,λe=>?_,λe=>?_,λe=>?_⟩,⟨λe=>?_,λe=>?_,λe=>?_,λe=>?_⟩,λe=>?_,λe=>?_,λe=>?_,λe=>?_⟩
 .have h:=N.hc;rw[e,my.ho]at h;simp at h
 .have h:=N.hc;exact Qge
 .have h:=N.hc;rw[e,my.he]at h;cases h
 .have h:=N.hc;rw[e,my.ht]at h;cases h
 .have h:=N.hi;exact Qgd
 .have h:=N.hi;exact Qge
 .have h:=N.hi;rw[e,my.he]at h;cases h
 .have h:=N.hi;rw[e,my.ht]at h;cases h
 .have h:=N.hs;exact Qgd
 .have h:=N.hs;exact Qge
 .have h:=N.hs;rw[e,my.he]at h;simp at h
 .have h:=N.hs;rw[e,my.ht]at h;simp at h
 .have h:=N.hx;exact Qgd
 .have h:=N.hx;exact Qge
 .have h:=N.hx;rw[e,my.he]at h;simp at h
 have h:=N.hx;rw[e,my.ht]at h;simp at h
def SysH.nn(my:SysH hN nb p A H o q ef tr ks σ){j:Nat}{l:NK}{x y:Nd}(hk:ks[i]?=some k)(hx:σ.nds[i]?=some x)(hl:ks[j]?=some l)(hy:σ.nds[j]?=some y) :
  (k.c≠l.ib/\k.c≠l.sd/\k.c≠l.xd)/\(k.ib≠l.c/\k.ib≠l.sd/\k.ib≠l.xd)/\(k.sd≠l.c/\k.sd≠l.ib/\k.sd≠l.xd)/\(k.xd≠l.c/\k.xd≠l.ib/\k.xd≠l.sd):=by
 have N:=my.nd i k x hk hx;have PA:=my.nd j l y hl hy;refine⟨⟨λe=>?_,λe=>?_,λe=>?_⟩,⟨λe=>?_,λe=>?_,λe=>?_⟩,⟨λe=>?_,λe=>?_,(my.sep i j k l hk hl).2⟩,λe=>?_,λe=>?_,λe=>(my.sep j i l k hl hk).2 e.symm⟩
 .have h:=N.hc;rw[e,PA.hi]at h;cases h
 .have h:=N.hc;rw[e,PA.hs]at h;cases h
 .have h:=N.hc;rw[e,PA.hx]at h;cases h
 .have h:=N.hi;rw[e,PA.hc]at h;cases h
 .have h:=N.hi;rw[e,PA.hs]at h;cases h
 .have h:=N.hi;rw[e,PA.hx]at h;cases h
 .have h:=N.hs;rw[e,PA.hc]at h;cases h
 .have h:=N.hs;rw[e,PA.hi]at h;cases h
 .have h:=N.hx;rw[e,PA.hc]at h;cases h
 have h:=N.hx;rw[e,PA.hi]at h;cases h
theorem SysH.lt(my:SysH hN nb p A H o q ef tr ks σ):o<H.length/\q<H.length/\ef<H.length/\tr<H.length :=
 ⟨(gn.1 my.ho).1,(gn.1 my.hq).1,(gn.1 my.he).1,(gn.1 my.ht).1⟩
theorem NdH.lt{H:mz}{x:Nd}(N:NdH H k x):k.c<H.length/\k.ib<H.length/\k.sd<H.length/\k.xd<H.length :=
 ⟨(gn.1 N.hc).1,(gn.1 N.hi).1,(gn.1 N.hs).1,(gn.1 N.hx).1⟩
theorem SysH.node(my:SysH hN nb p A H o q ef tr ks σ)(h:i<σ.nds.length):∃k,ks[i]?=some k/\NdH H k σ.nds[i]:=by
 have hl:i<ks.length:=by rw[my.len];exact h
 exact⟨ks[i],ii hl,my.nd i _ _ (ii hl) (ii h)⟩
def SysH.upN(my:SysH hN nb p A H o q ef tr ks σ){x x':Nd}(hk:ks[i]?=some k)(hx:σ.nds[i]?=some x)
  (qx:∀j,j<H.length->j≠k.c->j≠k.ib->j≠k.sd->j≠k.xd->H'[j]?=H[j]?) (hn:NdH H' k x'):SysH hN nb p A H' o q ef tr ks ⟨σ.nds.set i x',σ.tr,σ.efs⟩:=by
 obtain⟨g1,g2,g3,g4⟩:=my.gt hk hx;obtain⟨l1,l2,l3,l4⟩:=my.lt;refine { ho:=?_,hq:=?_,he:=?_,ht:=?_,len:=by simp[my.len],nd:=λj l y hl hy=>?_,sep:=my.sep,lo:=my.lo,lk:=my.lk }
 .rw[qx o l1 (Ne.symm g1.1) (Ne.symm g2.1) (Ne.symm g3.1) (Ne.symm g4.1),my.ho];simp
 .rw[qx q l2 (Ne.symm g1.2.1) (Ne.symm g2.2.1) (Ne.symm g3.2.1) (Ne.symm g4.2.1),my.hq]
 .rw[qx ef l3 (Ne.symm g1.2.2.1) (Ne.symm g2.2.2.1) (Ne.symm g3.2.2.1) (Ne.symm g4.2.2.1),my.he]
 .rw[qx tr l4 (Ne.symm g1.2.2.2) (Ne.symm g2.2.2.2) (Ne.symm g3.2.2.2) (Ne.symm g4.2.2.2),my.ht]
 by_cases e:j=i
 .grind
 simp only at hy;rw[gv (Ne.symm e)]at hy;have PA:=my.nd j l y hl hy;have hs:=(my.sep j i l k hl hk).1 e;obtain⟨n1,n2,n3,n4⟩:=my.nn hl hy hk hx;obtain⟨m1,m2,m3,m4⟩:=PA.lt;exact⟨by rw[qx _ m1 hs.1 n1.1 n1.2.1 n1.2.2];exact PA.hc,by rw[qx _ m2 n2.1 hs.2.1 n2.2.1 n2.2.2];exact PA.hi,by rw[qx _ m3 n3.1 n3.2.1 hs.2.2.1 n3.2.2];exact PA.hs,by rw[qx _ m4 n4.1 n4.2.1 n4.2.2 hs.2.2.2];exact PA.hx⟩
def SysH.upT(my:SysH hN nb p A H o q ef tr ks σ){tr2:Nat}{T:List Mail}(ho:H'[o]?=some (.cells (xG nb p A q ef tr2 σ.nds.length T.length σ.efs.length)))(ht:H'[tr2]?=some (.uarr 162 5 (T.map Mail.c)))(hb:hN<=tr2)
  (qx:∀j,j<H.length->j≠o->j≠tr->H'[j]?=H[j]?):SysH hN nb p A H' o q ef tr2 ks ⟨σ.nds,T,σ.efs⟩:=by
 obtain⟨l1,l2,l3,l4⟩:=my.lt;obtain⟨n1,n2,n3,n4,n5,n6⟩:=my.ne;refine { ho:=ho,hq:=?_,he:=?_,ht:=ht,len:=my.len,nd:=λj l y hl hy=>?_,sep:=my.sep,lo:=⟨my.lo.1,my.lo.2.1,my.lo.2.2.1,hb⟩,lk:=my.lk }
 .rw[qx q l2 n1 (Ne.symm n5),my.hq]
 .rw[qx ef l3 n2 (Ne.symm n6),my.he]
 have PA:=my.nd j l y hl hy;obtain⟨g1,g2,g3,g4⟩:=my.gt hl hy;obtain⟨m1,m2,m3,m4⟩:=PA.lt;exact⟨by rw[qx _ m1 g1.1 g1.2.2.2];exact PA.hc,by rw[qx _ m2 g2.1 g2.2.2.2];exact PA.hi,by rw[qx _ m3 g3.1 g3.2.2.2];exact PA.hs,by rw[qx _ m4 g4.1 g4.2.2.2];exact PA.hx⟩
def SysH.upE(my:SysH hN nb p A H o q ef tr ks σ){F:List Eff}(hl:F.length=σ.efs.length)(he:H'[ef]?=some (.uarr 82 8 (F.map Eff.c)))
  (qx:∀j,j<H.length->j≠ef->H'[j]?=H[j]?):SysH hN nb p A H' o q ef tr ks ⟨σ.nds,σ.tr,F⟩:=by
 obtain⟨l1,l2,l3,l4⟩:=my.lt;obtain⟨n1,n2,n3,n4,n5,n6⟩:=my.ne;refine { ho:=?_,hq:=?_,he:=he,ht:=?_,len:=my.len,nd:=λj l y hl hy=>?_,sep:=my.sep,lo:=my.lo,lk:=my.lk }
 .rw[qx o l1 (Ne.symm n2),my.ho];simp[hl]
 .rw[qx q l2 (Ne.symm n4),my.hq]
 .rw[qx tr l4 n6,my.ht]
 have PA:=my.nd j l y hl hy;obtain⟨g1,g2,g3,g4⟩:=my.gt hl hy;obtain⟨m1,m2,m3,m4⟩:=PA.lt;exact⟨by rw[qx _ m1 g1.2.2.1];exact PA.hc,by rw[qx _ m2 g2.2.2.1];exact PA.hi,by rw[qx _ m3 g3.2.2.1];exact PA.hs,by rw[qx _ m4 g4.2.2.1];exact PA.hx⟩
def SysH.up0(my:SysH hN nb p A H o q ef tr ks σ)(qx:∀j,j<H.length->H'[j]?=H[j]?):SysH hN nb p A H' o q ef tr ks σ:=by
 obtain⟨l1,l2,l3,l4⟩:=my.lt;exact⟨by rw[qx _ l1,my.ho],by rw[qx _ l2,my.hq],by rw[qx _ l3,my.he],by rw[qx _ l4,my.ht],my.len,λj l y hl hy=>by have PA:=my.nd j l y hl hy;obtain⟨m1,m2,m3,m4⟩:=PA.lt;exact⟨by rw[qx _ m1,PA.hc],by rw[qx _ m2,PA.hi],by rw[qx _ m3,PA.hs],by rw[qx _ m4,PA.hx]⟩,my.sep,my.lo,my.lk⟩
end
end
def v5(o q n c nt:Nat)(node:Int)(prs dJ:V)(ia ib ic:Nat):List V :=
 [P0 o,P0 o,P0 o,.ptr o 7,.own q n,.ptr c 0,I node,.ptr c 1,prs,prs,.agg [I node,prs],dJ,I nt,.own ia nt,dJ,I nt,.own ib nt,.agg [I node,prs,.nils,.nils,.nils,.own ia nt,.own ib nt],.ptr ic 0,.lit [.ptr ic 0],.own q (n+1)]
def rC:List V:=[.val (.bool false)]
structure R5(X0:mz)(o q n c nt:Nat)(node:Int)(prs dJ:V)(bt:List (Nat×V))(S:List (List V))(X:Nat->Bool)(e:Env)(ia ib ic:Nat):Prop where
 base:∀y∈bt,y.1<31/\oz e.t y.1=y.2
 val:∀(j:Nat) (v:V),(v5 o q n c nt node prs dJ ia ib ic)[j]?=some v->X j=true->oz e.t (31+j)=v
 d17:X 17=true->X 13=true/\X 16=true
 d18:X 18=true->X 17=true
 d19:X 19=true->X 18=true
 d20:X 20=true->X 19=true
 ql:q<X0.length
 pl:V.under X0.length prs=true
 old:∀j,j<X0.length->j≠q->e.h[j]?=X0[j]?
 len:X0.length<=e.h.length
 und:hUnder e.h.length e.h=true
 q0:X 20=false->e.h[q]?=some (.oarr 97 1 S)
 q1:X 20=true->e.h[q]?=some (.oarr 97 1 (S++[[.ptr ic 0]]))
 a:X 13=true->X0.length<=ia/\e.h[ia]?=some (.uarr 4 1 (List.replicate nt rC))
 b:X 16=true->X0.length<=ib/\e.h[ib]?=some (.uarr 4 1 (List.replicate nt rC))
 ab:X 13=true->X 16=true->ia≠ib
 cc:X 18=true->X0.length<=ic/\e.h[ic]?=some (.cells [I node,prs,.nils,.nils,.nils,.own ia nt,.own ib nt])
section
variable {X0:mz} {o q n c nt:Nat} {node:Int} {prs dJ:V} {bt:List (Nat×V)} {S:List (List V)} {X:Nat->Bool} {e:Env} {ia ib ic:Nat}
section
variable{t:List (Nat×V)}{d j:Nat}{v:V}
abbrev lO(X:Nat->Bool)(i:Nat):Nat->Bool:=λj=>if j=i then true else X j
theorem EN{y:Nat}(h:d≠y):oz ((d,v)::t) y=oz t y:=by grind[oz]
theorem Et:oz ((d,v)::t) d=v:=by simp[oz]
theorem R5.quiet(h:R5 X0 o q n c nt node prs dJ bt S X e ia ib ic){i:Nat}(hn:i<21/\i≠13/\i≠16/\i≠18/\i≠20)(hv:(v5 o q n c nt node prs dJ ia ib ic)[i]?=some v)(gA:i=17->X 13=true/\X 16=true)(eY:i=19->X 18=true) :
  R5 X0 o q n c nt node prs dJ bt S (lO X i) ⟨(31+i,v)::e.t,e.h⟩ ia ib ic:=by
 have hx:∀j,j≠i->lO X i j=X j:=λj hj=>gg hj;have hm:∀j,X j=true->lO X i j=true:=λj hj=>by unfold lO;split<;>first|rfl|exact hj
 refine { base:=λy hy=>⟨(h.base y hy).1,bv⟩,val:=λj u hj Q=>?_,d17:=λg=>?_,d18:=λg=>?_,d19:=λg=>?_,d20:=λg=>?_,ql:=h.ql,pl:=h.pl,old:=h.old,len:=h.len,und:=h.und,q0:=λg=>h.q0 W,q1:=λg=>h.q1 W,a:=λg=>h.a W,b:=λg=>h.b W,ab:=λg g'=>h.ab W W,cc:=λg=>h.cc W }
 .by_cases e:j=i
  .grind[Et]
  rw[EN J];exact h.val j u hj W
 .by_cases e:i=17
  .grind
  have:=h.d17 W;grind
 .exact hm _ (h.d18 W)
 .by_cases e:i=19
  .grind
  exact hm _ (h.d19 W)
 exact hm _ (h.d20 W)
theorem qop{ia':Nat}(O:j≠13)(U:j≠17):(v5 o q n c nt node prs dJ ia' ib ic)[j]?=(v5 o q n c nt node prs dJ ia ib ic)[j]?:=by exact Qgf
theorem ZO{ib':Nat}(O:j≠16)(U:j≠17):(v5 o q n c nt node prs dJ ia ib' ic)[j]?=(v5 o q n c nt node prs dJ ia ib ic)[j]?:=by exact Qgf
theorem VT{ic':Nat}(O:j≠18)(U:j≠19):(v5 o q n c nt node prs dJ ia ib ic')[j]?=(v5 o q n c nt node prs dJ ia ib ic)[j]?:=by exact Qgf
def DE{α:Type}{h:List α}{y:α}{hI:α}(hz:h[j]?=some hI):(h++[y])[j]?=some hI:=W
def R5.mkA(h:R5 X0 o q n c nt node prs dJ bt S X e ia ib ic)(hX:X 13=false) :
  R5 X0 o q n c nt node prs dJ bt S (lO X 13) ⟨(44,.own e.h.length nt)::e.t,e.h++[.uarr 4 1 (List.replicate nt rC)]⟩ e.h.length ib ic:=by
 have gA:X 17=false:=l8.2 λg=>by rw[(h.d17 g).1]at hX;cases hX
 have eJ:X 18=false:=l8.2 λg=>by rw[h.d18 g]at gA;cases gA
 have eY:X 19=false:=l8.2 λg=>by rw[h.d19 g]at eJ;cases eJ
 have jJ:X 20=false:=l8.2 λg=>by rw[h.d20 g]at eY;cases eY
 have hx:∀j,j≠13->lO X 13 j=X j:=λj hj=>gg hj;have hm:∀j,X j=true->lO X 13 j=true:=λj hj=>by unfold lO;split<;>first|rfl|exact hj
 refine { base:=λy hy=>⟨(h.base y hy).1,bv⟩,val:=λj u hj Q=>?_,d17:=λg=>?_,d18:=λg=>?_,d19:=λg=>?_,d20:=λg=>?_,ql:=h.ql,pl:=h.pl,old:=λj hj hq=>?_,len:=by simp;have:=h.len;omega,und:=?_,q0:=λg=>DE (h.q0 jJ),q1:=λg=>?_,a:=λg=>⟨h.len,Z⟩,b:=λg=>?_,ab:=λ_ g'=>?_,cc:=λg=>?_ }
 .by_cases e:j=13
  .subst e;cases hj;exact Et
  rw[hx _ e]at Q;rw[EN J];refine h.val j u ?_ Q;grind[qop]
 .grind
 .grind
 .grind
 .grind
 .rw[gu qhw];exact h.old j hj hq
 .simp only[it,lj];rw[z8 h.und];simp[hUnder,AObj.under]
 .grind
 .have:=h.b W;grind
 .have:=h.b W;grind
 grind
def R5.mkB(h:R5 X0 o q n c nt node prs dJ bt S X e ia ib ic)(hX:X 16=false) :
  R5 X0 o q n c nt node prs dJ bt S (lO X 16) ⟨(47,.own e.h.length nt)::e.t,e.h++[.uarr 4 1 (List.replicate nt rC)]⟩ ia e.h.length ic:=by
 have gA:X 17=false:=l8.2 λg=>by rw[(h.d17 g).2]at hX;cases hX
 have eJ:X 18=false:=l8.2 λg=>by rw[h.d18 g]at gA;cases gA
 have eY:X 19=false:=l8.2 λg=>by rw[h.d19 g]at eJ;cases eJ
 have jJ:X 20=false:=l8.2 λg=>by rw[h.d20 g]at eY;cases eY
 have hx:∀j,j≠16->lO X 16 j=X j:=λj hj=>gg hj;refine { base:=λy hy=>⟨(h.base y hy).1,bv⟩,val:=λj u hj Q=>?_,d17:=λg=>?_,d18:=λg=>?_,d19:=λg=>?_,d20:=λg=>?_,ql:=h.ql,pl:=h.pl,old:=λj hj hq=>?_,len:=by simp;have:=h.len;omega,und:=?_,q0:=λg=>DE (h.q0 jJ),q1:=λg=>?_,a:=λg=>?_,b:=λg=>⟨h.len,Z⟩,ab:=λg _=>?_,cc:=λg=>?_ }
 .by_cases e:j=16
  .subst e;cases hj;exact Et
  rw[hx _ e]at Q;rw[EN J];refine h.val j u ?_ Q;grind[ZO]
 .grind
 .grind
 .grind
 .grind
 .rw[gu qhw];exact h.old j hj hq
 .simp only[it,lj];rw[z8 h.und];simp[hUnder,AObj.under]
 .grind
 .have:=h.a W;grind
 .have:=h.a W;grind
 grind
theorem R5.box(h:R5 X0 o q n c nt node prs dJ bt S X e ia ib ic)(hX:X 18=false)(gA:X 17=true) :
  R5 X0 o q n c nt node prs dJ bt S (lO X 18) ⟨(49,.ptr e.h.length 0)::e.t,e.h++[.cells [I node,prs,.nils,.nils,.nils,.own ia nt,.own ib nt]]⟩ ia ib e.h.length:=by
 have eY:X 19=false:=l8.2 λg=>by rw[h.d19 g]at hX;cases hX
 have jJ:X 20=false:=l8.2 λg=>by rw[h.d20 g]at eY;cases eY
 obtain⟨x13,x16⟩:=h.d17 gA;have hx:∀j,j≠18->lO X 18 j=X j:=λj hj=>gg hj;have hla:=(gn.1 (h.a x13).2).1;have hlb:=(gn.1 (h.b x16).2).1;refine { base:=λy hy=>⟨(h.base y hy).1,bv⟩,val:=λj u hj Q=>?_,d17:=λg=>?_,d18:=λg=>?_,d19:=λg=>?_,d20:=λg=>?_,ql:=h.ql,pl:=h.pl,old:=λj hj hq=>?_,len:=by simp;have:=h.len;omega,und:=?_,q0:=λg=>DE (h.q0 jJ),q1:=λg=>?_,a:=λg=>⟨(h.a x13).1,DE (h.a x13).2⟩,b:=λg=>⟨(h.b x16).1,DE (h.b x16).2⟩,ab:=λ_ _=>h.ab x13 x16,cc:=λg=>⟨h.len,Z⟩ }
 .by_cases e:j=18
  .subst e;cases hj;exact Et
  rw[hx _ e]at Q;rw[EN J];refine h.val j u ?_ Q;grind[VT]
 .grind
 .grind
 .simp
 .grind
 .rw[gu qhw];exact h.old j hj hq
 .simp only[it,lj];rw[z8 h.und];have:=V.under_mono (m:=e.h.length+1) (by have:=h.len;omega) _ h.pl;simp[hUnder,AObj.under,q9,V.under,this];omega
 grind
theorem R5.app(h:R5 X0 o q n c nt node prs dJ bt S X e ia ib ic)(hX:X 20=false)(eY:X 19=true) :
  R5 X0 o q n c nt node prs dJ bt S (lO X 20) ⟨(51,.own q (n+1))::e.t,e.h.set q (.oarr 97 1 (S++[[.ptr ic 0]]))⟩ ia ib ic:=by
 have eJ:=h.d19 eY;have gA:=h.d18 eJ;obtain⟨x13,x16⟩:=h.d17 gA;have hx:∀j,j≠20->lO X 20 j=X j:=λj hj=>gg hj;have hql:=h.ql;have oy:=h.len;obtain⟨a1,a2⟩:=h.a x13;obtain⟨b1,b2⟩:=h.b x16;obtain⟨c1,c2⟩:=h.cc eJ;have qn:=(gn.1 c2).1;refine { base:=λy hy=>⟨(h.base y hy).1,bv⟩,val:=λj u hj Q=>?_,d17:=λg=>?_,d18:=λg=>?_,d19:=λg=>?_,d20:=λg=>?_,ql:=h.ql,pl:=h.pl,old:=λj hj hq=>?_,len:=by simpa using oy,und:=?_,q0:=λg=>?_,q1:=λg=>?_,a:=λg=>⟨a1,by rw[gv J];exact a2⟩,b:=λg=>⟨b1,by rw[gv J];exact b2⟩,ab:=λ_ _=>h.ab x13 x16,cc:=λg=>⟨c1,by rw[gv J];exact c2⟩ }
 .by_cases e:j=20
  .subst e;cases hj;exact Et
  rw[hx _ e]at Q;rw[EN J];exact h.val j u hj Q
 .grind
 .grind
 .grind
 .grind
 .rw[gv (Ne.symm hq)];exact h.old j hj hq
 .simp only[mr];refine Go.Abs.wh h.und ?_;have hq:=QX h.und (h.q0 hX);simp only[AObj.under,List.all_append,qin,qjc,kg,gy]at hq|-;grind[q9,V.under]
 .grind
 grind
end
end
