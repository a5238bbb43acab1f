/- Part 36 of a proof. -/
import Derived.Test.YtolejdhnnchfpaaGreatDoorQ35
set_option linter.all false
set_option maxRecDepth 4000
set_option maxHeartbeats 2000000
namespace Go.Proofs.YtolejdhnnchfpaaGreatDoor
open Go Go.Abs Go.Cw Go.Proofs.Tryz
theorem xq7(q:List LReq)(t:Int)(hl:q.length<68719476736):APure prog 169 [.slice (q.map LReq.c),I t] (.slice ((yy t q).map LReq.c)):=by
 refine kl func169 ntmps169 rfl ae rfl rfl λE h hN hh hu hb=>?_;simp[go_sem]at hb;simp-dsimp[go_sem,hN];refine iy (xi2 q _) ?_;rintro r h' ⟨rfl,rfl⟩;simp-dsimp[go_sem,hN];refine iy (xy3 (H:=h++[.cells [I t],.uarr 152 2 (q.map LReq.c)]) (i:=h.length+1) (ci:=h.length) q t ac ac hl) ?_;rintro r h' ⟨rfl,X,rfl⟩;have e1:(h++[AObj.cells [I t],.uarr 152 2 (q.map LReq.c)]).set (h.length+1) (.arr 152 2 X)=h++[AObj.cells [I t],.arr 152 2 X]:=ac;rw[e1];simp-dsimp[go_sem,hN];rfl
theorem xpw(t:Int)(q:LQ):∀l,w8 t (l++[q])=w8 t l++if (yy t q.reqs).length=0 then []else [⟨q.key,yy t q.reqs⟩]
 | []=>by simp[ff,w8]
 |x::l=>by
  have ih:=xpw t q l;rw[qix,w8,ih,w8];rcases yy t x.reqs with _|⟨y,m⟩<;>simp
theorem xui(t:Int):∀l,(w8 t l).length<=l.length
 | []=>cn _
 |x::l=>by
  have ih:=xui t l;rw[w8];split<;>simp<;>omega
theorem jad(T:LT)(t:Int)(hv:qlz T=true)(u7:0<=nv (wx t) T.glob)(hl:T.glob.length<68719476736)(hq:T.qs.length<68719476736)(hr:∀x∈T.qs,x.reqs.length<68719476736) :
  APure prog 139 [.agg T.c,I t] (.tuple [.agg (qrr t T).c,I 0]):=by
 refine kl func139 ntmps139 rfl ae rfl rfl λE h hN hh hu hb=>?_;simp[go_sem,LT.c]at hb;simp-dsimp[go_sem,hN,LT.c];refine iv (xds T) ?_;simp-dsimp[go_sem,hN,hv];refine iv (qwm T.glob t) ?_;have hix2:¬nv (wx t) T.glob<0:=aa;simp-dsimp[go_sem,hN,hix2];refine iv (xq7 T.glob t hl) ?_;simp-dsimp[go_sem,hN];obtain⟨F,hF⟩:∃F:Nat->List LQ,F=λn=>w8 t (T.qs.take n):=⟨_,rfl⟩
 have hF0:F 0=[]:=by grind[w8]
 have s9:∀n (hn:n<T.qs.length),F (n+1)=F n++if (yy t T.qs[n].reqs).length=0 then []else [⟨T.qs[n].key,yy t T.qs[n].reqs⟩]:=λn hn=>by grind[ec,xpw]
 have uq:∀n,(F n).length<=n:=λn=>by
  rw[hF];refine dv (xui t _) ?_;rw[ey];omega
 have w6:F T.qs.length=w8 t T.qs:=af;refine jz T.qs.length (λ_=>True) (λn=>⟨[(1,I t),(4,P0 (h.length+1)),(6,P0 (h.length+2)),(28,.slice (T.qs.map LQ.c)),(29,I T.qs.length),(30,I n)],h++[.cells [.slice (T.glob.map LReq.c),.slice (T.qs.map LQ.c)],.cells [.nils,.nils],.cells [.slice ((yy t T.glob).map LReq.c),.own (h.length+3) (F n).length],.arr 192 2 ((F n).map LQ.c)]⟩) trivial
  ((qol E _ (p:=h.length+2) (j:=1) (t:=192) (sz:=2) (xs:=[.slice ((yy t T.glob).map LReq.c),.nils]) ac ac).trans qes) ?_
 intro n hn _;have hw:=jj hn aa;simp-dsimp[go_sem,hN];refine ii ?_ ?_<;>intro hc<;>simp at hc
 .simp-dsimp[go_sem,hN,hc,LQ.c];refine iv (xq7 T.qs[n].reqs t (hr _ (dk hc))) ?_;simp-dsimp[go_sem,hN];have h9:=uq n;refine ii ?_ ?_<;>intro hg<;>simp at hg
  .have pz:F (n+1)=F n++[⟨T.qs[n].key,yy t T.qs[n].reqs⟩]:=by rw[s9 n hc,if_neg aa]
   simp-dsimp[go_sem,hN,hw,LQ.c];refine⟨aa,hc,?_⟩;rw[pz,eg,c7,dj,fc,show LQ.c ⟨T.qs[n].key,yy t T.qs[n].reqs⟩=[S T.qs[n].key,.slice ((yy t T.qs[n].reqs).map LReq.c)]from rfl];exact(mj (by simp[go_sem,LQ.c]))
  .have pz:F (n+1)=F n:=by rw[s9 n hc];simp[hg]
   simp-dsimp[go_sem,hN,hw];refine⟨hc,?_⟩;rw[pz];exact(mj (by simp[go_sem,LQ.c]))
 .have it:n=T.qs.length:=aa;subst it;simp-dsimp[go_sem,hN];simp[w6,qrr,LT.c]
end Go.Proofs.YtolejdhnnchfpaaGreatDoor
namespace Go.Proofs.YtolejdhnnchfpaaGreatDoor
open Go Go.Abs Go.Cw
theorem xx4{l:List Int}:(Lib.compact l).length=0↔l=[]:=by
 constructor
 .intro h;cases l with
  |nil=>rfl
  |cons x l =>
   exfalso;have h0:(0:Nat)∈(List.range (x::l).length).filter (Lib.keeps (x::l).toArray):=e9.2 ⟨ga.2 ac,Lib.keeps_lt_one _ 0 aa⟩;have h1:=qj2 h0;unfold Lib.compact Lib.compactUpTo at h;rw[eo]at h;omega
 .rintro rfl;rfl
theorem jea(T:LT)(t:Int):(xko T t).length=0↔ql9 T t=[]:=by
 unfold xko;rw[xx4];constructor
 .grind[List.length_mergeSort,fg]
 .simp_all
end Go.Proofs.YtolejdhnnchfpaaGreatDoor
namespace Go.Proofs.YtolejdhnnchfpaaGreatDoor
open Go Go.Abs Go.Cw Go.Proofs.Tryz
theorem xz3(T:LT)(t:Nat)(hl:T.glob.length+qz T.qs<68719476736):APure prog 59 [.agg T.c,I t] (Bo (grS T t)):=by
 refine lz func59 rfl ae ac rfl ?_;intro E h hN hh hu hb;rw[ntmps59]at hN;refine jo _ _ _ ?_;simp[go_sem,LT.c]at hb;simp-dsimp[go_sem,hN,LT.c];refine iv (xds T) ?_;simp-dsimp[go_sem,hN];refine kq (qwm T.glob t) ac ?_;simp-dsimp[go_sem,hN];refine kq (xz8 T t hl) ac ?_;have hw:=jea T t;simp-dsimp[go_sem,hN,grS,hw];rw[show decide (ql9 T ↑t=[])=(ql9 T ↑t).isEmpty from by cases ql9 T ↑t<;>simp]
theorem xzt(T:LT)(t:Int)(hv:qlz T=true)(u7:nv (wx t) T.glob<0) :
  APure prog 139 [.agg T.c,I t] (.tuple [.agg [.slice [],.slice []],I 9]):=by
 refine kl func139 ntmps139 rfl ae rfl rfl λE h hN hh hu hb=>?_;simp[go_sem,LT.c]at hb;simp-dsimp[go_sem,hN,LT.c];refine iv (xds T) ?_;simp-dsimp[go_sem,hN,hv];refine iv (qwm T.glob t) ?_;simp-dsimp[go_sem,hN,u7]
end Go.Proofs.YtolejdhnnchfpaaGreatDoor
set_option maxRecDepth 8000
set_option maxHeartbeats 4000000
namespace Go.Proofs.YtolejdhnnchfpaaGreatDoor
open Go Go.Abs Go.Cw Go.Proofs.Tryz
def xoh(H:g9)(v:AV)(rows:List (List AV)):Prop:=v=.slice rows\/∃j,v=.own j rows.length/\H[j]?=some (.arr 34 1 rows)
abbrev iR(l:List Int):List AV:=[.slice (l.map ka)]
theorem xs1{H:g9}{o k:Nat}{a0 a1 a2 a3 a4 v a6 a7 a8 a9 b1 b2 b3 b4 b5 b6:AV}{L:List (List Int)}{t:Nat}{n:Int}(ho:H[o]?=some (.cells [a0,a1,a2,a3,a4,v,a6,a7,a8,a9]))(hv:xoh H v (L.map iR))(hk:H[k]?=some (.cells [I n,b1,b2,b3,b4,b5,b6]))(ht:t<L.length) :
  ACalls prog 56 [P0 o,P0 k,I t] H λr h'=>r=.ret (Bo (p6 L[t] n))/\h'=H:=by
 refine re func56 rfl ae ac ?_;intro E hN hh hu hb iq ju;rw[ntmps56]at hN;refine jo _ _ _ ?_;have hi:=xcv L[t] n;rcases hv with rfl|⟨j,rfl,hj⟩
 .simp-dsimp[go_sem,hN];refine jt 12 mixed ae ae ?_;simp-dsimp[go_sem,hN,ho,hk,ht];refine iv hi ?_;simp-dsimp[go_sem,hN];exact⟨_,.refl _,H,ag,ag,ac,aq,rfl,rfl⟩
 .simp-dsimp[go_sem,hN];refine jt 12 mixed ae ae ?_;simp-dsimp[go_sem,hN,ho,hk,ht,hj];refine iv hi ?_;simp-dsimp[go_sem,hN];exact⟨_,.refl _,H,ag,ag,ac,aq,rfl,rfl⟩
theorem xoc{H:g9}{o k:Nat}{a0 a1 a2 a3 a4 v a5 a7 a8 a9 b1 b2 b3 b4 b5 b6:AV}{L:List (List Int)}{t:Nat}{n:Int}(ho:H[o]?=some (.cells [a0,a1,a2,a3,a4,a5,v,a7,a8,a9]))(hv:xoh H v (L.map iR))(hk:H[k]?=some (.cells [I n,b1,b2,b3,b4,b5,b6]))(ht:t<L.length) :
  ACalls prog 62 [P0 o,P0 k,I t] H λr h'=>r=.ret (Bo (p6 L[t] n))/\h'=H:=by
 refine re func62 rfl ae ac ?_;intro E hN hh hu hb iq ju;rw[ntmps62]at hN;refine jo _ _ _ ?_;have hi:=xcv L[t] n;rcases hv with rfl|⟨j,rfl,hj⟩
 .simp-dsimp[go_sem,hN];refine jt 12 mixed ae ae ?_;simp-dsimp[go_sem,hN,ho,hk,ht];refine iv hi ?_;simp-dsimp[go_sem,hN];exact⟨_,.refl _,H,ag,ag,ac,aq,rfl,rfl⟩
 .simp-dsimp[go_sem,hN];refine jt 12 mixed ae ae ?_;simp-dsimp[go_sem,hN,ho,hk,ht,hj];refine iv hi ?_;simp-dsimp[go_sem,hN];exact⟨_,.refl _,H,ag,ag,ac,aq,rfl,rfl⟩
theorem xrr{H:g9}(hu:hUnder H.length H=true){i:Nat}{x:AObj}(h:H[i]?=some x):x.under H.length=true:=qb1.1 hu x (cv h)
theorem xd7{H:g9}{o k:Nat}{b0 b1 b4 b5 b6:AV}{T:LT}{t:Nat}(hk:H[k]?=some (.cells [b0,b1,.slice (T.glob.map LReq.c),.slice (T.qs.map LQ.c),b4,b5,b6]))(hv:qlz T=true)(hl:T.glob.length<68719476736)(hq:T.qs.length<68719476736)(hr:∀x∈T.qs,x.reqs.length<68719476736) :
  ACalls prog 97 [P0 o,P0 k,I t] H λr h'=>r=.ret (.tuple [])/\h'=H.set k (.cells [b0,b1,.slice ((relS T t).glob.map LReq.c),.slice ((relS T t).qs.map LQ.c),b4,b5,b6]):=by
 refine re func97 rfl ae ac ?_;intro E hN hh hu hb iq ju;rw[ntmps97]at hN;refine jo _ _ _ ?_;have hkl:=(cm.1 hk).1;have hk1:∀l,(H++l)[k]?=some (.cells [b0,b1,.slice (T.glob.map LReq.c),.slice (T.qs.map LQ.c),b4,b5,b6]):=λl=>by rw[co hkl];exact hk
 have sj:∀l X,(H++l).set k X=H.set k X++l:=λl X=>e6 _ _ hkl;have hbu:=xrr hu hk;simp only[AObj.under,lj,AV.under,cw,dh,fa]at hbu;by_cases u7:0<=nv (wx (t:Int)) T.glob
 .have jr:=jad T t hv u7 hl hq hr;have he:relS T t=qrr t T:=by grind[relS]
  rw[he];simp-dsimp[go_sem,hN,hk];refine iv jr ?_;simp-dsimp[go_sem,hN,LT.c,hk1,sj];refine⟨_,.refl _,_,qez,hwk.app0 _,ac,?_,rfl,rfl⟩;simp only[gz];exact Go.Abs.qh (n:=H.length) (i:=k) (o:=AObj.cells [b0,b1,.slice ((qrr (t:Int) T).glob.map LReq.c),.slice ((qrr (t:Int) T).qs.map LQ.c),b4,b5,b6]) hu (by simp[AObj.under,lj,AV.under,hbu])
 .have jr:=xzt T t hv aa;have he:relS T t=T:=by grind[relS]
  rw[he,qcf hk];simp-dsimp[go_sem,hN,hk];refine iv jr ?_;simp-dsimp[go_sem,hN];exact⟨_,.refl _,H,qez,hwk.app0 _,ac,hu,rfl,rfl⟩
end Go.Proofs.YtolejdhnnchfpaaGreatDoor
namespace Go.Proofs.YtolejdhnnchfpaaGreatDoor
open Go Go.Abs Go.Cw
structure NK where
 c:Nat
 ib:Nat
 sd:Nat
 xd:Nat
abbrev ndC(x:Nd)(k:NK):List AV:=[I x.node,.slice (x.prs.map Pr.c),.slice (x.tab.glob.map LReq.c),.slice (x.tab.qs.map LQ.c),.own k.ib x.inbox.length,.own k.sd x.sent.length,.own k.xd x.exd.length]
structure NdH(H:g9)(k:NK)(x:Nd):Prop where
 hc:H[k.c]?=some (.cells (ndC x k))
 hi:H[k.ib]?=some (.arr 162 5 (x.inbox.map Mail.c))
 hs:H[k.sd]?=some (.uarr 4 1 (x.sent.map qqf))
 hx:H[k.xd]?=some (.uarr 4 1 (x.exd.map qqf))
def zt(p:Plc)(txns:List Txn):List (List Int):=txns.map λx=>l9 p (oe x)
def qk8(p:Plc)(txns:List Txn):List (List Int):=txns.map λx=>ma p (oe x)
theorem xv0(p:Plc)(txns:List Txn):(zt p txns).length=txns.length:=by simp[zt]
theorem xki(p:Plc)(txns:List Txn):(qk8 p txns).length=txns.length:=by simp[qk8]
theorem xz0{p:Plc}{txns:List Txn}{t:Nat}(h:t<txns.length)(h':t<(zt p txns).length):(zt p txns)[t]=l9 p (jn txns t):=by grind[cu,qt5,zt,gy]
theorem xf5{p:Plc}{txns:List Txn}{t:Nat}(h:t<txns.length)(h':t<(qk8 p txns).length):(qk8 p txns)[t]=ma p (jn txns t):=by grind[cu,qt5,qk8,gy]
abbrev syC(procs:List Proc)(p:Plc)(txns:List Txn)(q ef tr a b c:Nat):List AV :=
 [.slice (procs.map Proc.c),I p.ver,.slice (p.parts.map Part.c),.slice (txns.map Txn.c),.slice (txns.map λt=>(oe t).c),.slice ((zt p txns).map iR),.slice ((qk8 p txns).map iR),.own q a,.own tr b,.own ef c]
structure SysH(B:Nat)(procs:List Proc)(p:Plc)(txns:List Txn)(H:g9)(o q ef tr:Nat)(ks:List NK)(σ:Sy):Prop where
 ho:H[o]?=some (.cells (syC procs p txns q ef tr σ.nds.length σ.tr.length σ.efs.length))
 hq:H[q]?=some (.oarr 97 1 (ks.map λk=>[.ptr k.c 0]))
 he:H[ef]?=some (.uarr 82 8 (σ.efs.map Eff.c))
 ht:H[tr]?=some (.uarr 162 5 (σ.tr.map Mail.c))
 len:ks.length=σ.nds.length
 nd:∀(i:Nat) (k:NK) (x:Nd),ks[i]?=some k->σ.nds[i]?=some x->NdH H k x
 sep:∀(i j:Nat) (a b:NK),ks[i]?=some a->ks[j]?=some b->(i≠j->a.c≠b.c/\a.ib≠b.ib/\a.sd≠b.sd/\a.xd≠b.xd)/\a.sd≠b.xd
 lo:B<=o/\B<=q/\B<=ef/\B<=tr
 lk:∀k∈ks,B<=k.c/\B<=k.ib/\B<=k.sd/\B<=k.xd
section
variable {B:Nat} {procs:List Proc} {p:Plc} {txns:List Txn} {H H':g9} {o q ef tr:Nat} {ks:List NK} {σ:Sy}
theorem SysH.ne(S:SysH B procs p txns H o q ef tr ks σ):q≠o/\ef≠o/\tr≠o/\ef≠q/\tr≠q/\tr≠ef:=by
 refine⟨λe=>?_,λe=>?_,λe=>?_,λe=>?_,λe=>?_,λe=>?_⟩
 .have h:=S.hq;rw[e,S.ho]at h;cases h
 .have h:=S.he;rw[e,S.ho]at h;cases h
 .have h:=S.ht;rw[e,S.ho]at h;cases h
 .have h:=S.he;rw[e,S.hq]at h;cases h
 .have h:=S.ht;rw[e,S.hq]at h;cases h
 .have h:=S.ht;rw[e,S.he]at h;simp at h
theorem SysH.gt(S:SysH B procs p txns H o q ef tr ks σ){i:Nat}{k:NK}{x:Nd}(hk:ks[i]?=some k)(hx:σ.nds[i]?=some x) :
  (k.c≠o/\k.c≠q/\k.c≠ef/\k.c≠tr)/\(k.ib≠o/\k.ib≠q/\k.ib≠ef/\k.ib≠tr)/\(k.sd≠o/\k.sd≠q/\k.sd≠ef/\k.sd≠tr)/\(k.xd≠o/\k.xd≠q/\k.xd≠ef/\k.xd≠tr):=by
 have N:=S.nd i k x hk hx;refine⟨⟨λe=>?_,λe=>?_,λe=>?_,λe=>?_⟩,⟨λe=>?_,λe=>?_,λe=>?_,λe=>?_⟩,⟨λe=>?_,λe=>?_,λe=>?_,λe=>?_⟩,λe=>?_,λe=>?_,λe=>?_,λe=>?_⟩
 .have h:=N.hc;rw[e,S.ho]at h;simp at h
 .have h:=N.hc;rw[e,S.hq]at h;cases h
 .have h:=N.hc;rw[e,S.he]at h;cases h
 .have h:=N.hc;rw[e,S.ht]at h;cases h
 .have h:=N.hi;rw[e,S.ho]at h;cases h
 .have h:=N.hi;rw[e,S.hq]at h;cases h
 .have h:=N.hi;rw[e,S.he]at h;cases h
 .have h:=N.hi;rw[e,S.ht]at h;cases h
 .have h:=N.hs;rw[e,S.ho]at h;cases h
 .have h:=N.hs;rw[e,S.hq]at h;cases h
 .have h:=N.hs;rw[e,S.he]at h;simp at h
 .have h:=N.hs;rw[e,S.ht]at h;simp at h
 .have h:=N.hx;rw[e,S.ho]at h;cases h
 .have h:=N.hx;rw[e,S.hq]at h;cases h
 .have h:=N.hx;rw[e,S.he]at h;simp at h
 .have h:=N.hx;rw[e,S.ht]at h;simp at h
theorem SysH.nn(S:SysH B procs p txns H o q ef tr ks σ){i j:Nat}{k l:NK}{x y:Nd}(hk:ks[i]?=some k)(hx:σ.nds[i]?=some x)(hl:ks[j]?=some l)(hy:σ.nds[j]?=some y) :
  (k.c≠l.ib/\k.c≠l.sd/\k.c≠l.xd)/\(k.ib≠l.c/\k.ib≠l.sd/\k.ib≠l.xd)/\(k.sd≠l.c/\k.sd≠l.ib/\k.sd≠l.xd)/\(k.xd≠l.c/\k.xd≠l.ib/\k.xd≠l.sd):=by
 have N:=S.nd i k x hk hx;have M:=S.nd j l y hl hy;refine⟨⟨λe=>?_,λe=>?_,λe=>?_⟩,⟨λe=>?_,λe=>?_,λe=>?_⟩,⟨λe=>?_,λe=>?_,(S.sep i j k l hk hl).2⟩,λe=>?_,λe=>?_,λe=>(S.sep j i l k hl hk).2 e.symm⟩
 .have h:=N.hc;rw[e,M.hi]at h;cases h
 .have h:=N.hc;rw[e,M.hs]at h;cases h
 .have h:=N.hc;rw[e,M.hx]at h;cases h
 .have h:=N.hi;rw[e,M.hc]at h;cases h
 .have h:=N.hi;rw[e,M.hs]at h;cases h
 .have h:=N.hi;rw[e,M.hx]at h;cases h
 .have h:=N.hs;rw[e,M.hc]at h;cases h
 .have h:=N.hs;rw[e,M.hi]at h;cases h
 .have h:=N.hx;rw[e,M.hc]at h;cases h
 .have h:=N.hx;rw[e,M.hi]at h;cases h
theorem SysH.lt(S:SysH B procs p txns H o q ef tr ks σ):o<H.length/\q<H.length/\ef<H.length/\tr<H.length :=
 ⟨(cm.1 S.ho).1,(cm.1 S.hq).1,(cm.1 S.he).1,(cm.1 S.ht).1⟩
theorem NdH.lt{H:g9}{k:NK}{x:Nd}(N:NdH H k x):k.c<H.length/\k.ib<H.length/\k.sd<H.length/\k.xd<H.length :=
 ⟨(cm.1 N.hc).1,(cm.1 N.hi).1,(cm.1 N.hs).1,(cm.1 N.hx).1⟩
theorem SysH.node(S:SysH B procs p txns H o q ef tr ks σ){i:Nat}(h:i<σ.nds.length):∃k,ks[i]?=some k/\NdH H k σ.nds[i]:=by
 have hl:i<ks.length:=by rw[S.len];exact h
 exact⟨ks[i],cu hl,S.nd i _ _ (cu hl) (cu h)⟩
theorem SysH.upN(S:SysH B procs p txns H o q ef tr ks σ){i:Nat}{k:NK}{x x':Nd}(hk:ks[i]?=some k)(hx:σ.nds[i]?=some x)
  (km:∀j,j<H.length->j≠k.c->j≠k.ib->j≠k.sd->j≠k.xd->H'[j]?=H[j]?) (hn:NdH H' k x'):SysH B procs p txns H' o q ef tr ks ⟨σ.nds.set i x',σ.tr,σ.efs⟩:=by
 obtain⟨g1,g2,g3,g4⟩:=S.gt hk hx;obtain⟨l1,l2,l3,l4⟩:=S.lt;refine { ho:=?_,hq:=?_,he:=?_,ht:=?_,len:=by simp[S.len],nd:=λj l y hl hy=>?_,sep:=S.sep,lo:=S.lo,lk:=S.lk }
 .rw[km o l1 (Ne.symm g1.1) (Ne.symm g2.1) (Ne.symm g3.1) (Ne.symm g4.1),S.ho];simp
 .rw[km q l2 (Ne.symm g1.2.1) (Ne.symm g2.2.1) (Ne.symm g3.2.1) (Ne.symm g4.2.1),S.hq]
 .rw[km ef l3 (Ne.symm g1.2.2.1) (Ne.symm g2.2.2.1) (Ne.symm g3.2.2.1) (Ne.symm g4.2.2.1),S.he]
 .rw[km tr l4 (Ne.symm g1.2.2.2) (Ne.symm g2.2.2.2) (Ne.symm g3.2.2.2) (Ne.symm g4.2.2.2),S.ht]
 .by_cases e:j=i
  .grind
  .simp only at hy;rw[ct (Ne.symm e)]at hy;have M:=S.nd j l y hl hy;have hs:=(S.sep j i l k hl hk).1 e;obtain⟨n1,n2,n3,n4⟩:=S.nn hl hy hk hx;obtain⟨m1,m2,m3,m4⟩:=M.lt;exact⟨by rw[km _ m1 hs.1 n1.1 n1.2.1 n1.2.2];exact M.hc,by rw[km _ m2 n2.1 hs.2.1 n2.2.1 n2.2.2];exact M.hi,by rw[km _ m3 n3.1 n3.2.1 hs.2.2.1 n3.2.2];exact M.hs,by rw[km _ m4 n4.1 n4.2.1 n4.2.2 hs.2.2.2];exact M.hx⟩
theorem SysH.upT(S:SysH B procs p txns H o q ef tr ks σ){tr2:Nat}{T:List Mail}(ho:H'[o]?=some (.cells (syC procs p txns q ef tr2 σ.nds.length T.length σ.efs.length)))(ht:H'[tr2]?=some (.uarr 162 5 (T.map Mail.c)))(hb:B<=tr2)
  (km:∀j,j<H.length->j≠o->j≠tr->H'[j]?=H[j]?):SysH B procs p txns H' o q ef tr2 ks ⟨σ.nds,T,σ.efs⟩:=by
 obtain⟨l1,l2,l3,l4⟩:=S.lt;obtain⟨n1,n2,n3,n4,n5,n6⟩:=S.ne;refine { ho:=ho,hq:=?_,he:=?_,ht:=ht,len:=S.len,nd:=λj l y hl hy=>?_,sep:=S.sep,lo:=⟨S.lo.1,S.lo.2.1,S.lo.2.2.1,hb⟩,lk:=S.lk }
 .rw[km q l2 n1 (Ne.symm n5),S.hq]
 .rw[km ef l3 n2 (Ne.symm n6),S.he]
 .have M:=S.nd j l y hl hy;obtain⟨g1,g2,g3,g4⟩:=S.gt hl hy;obtain⟨m1,m2,m3,m4⟩:=M.lt;exact⟨by rw[km _ m1 g1.1 g1.2.2.2];exact M.hc,by rw[km _ m2 g2.1 g2.2.2.2];exact M.hi,by rw[km _ m3 g3.1 g3.2.2.2];exact M.hs,by rw[km _ m4 g4.1 g4.2.2.2];exact M.hx⟩
theorem SysH.upE(S:SysH B procs p txns H o q ef tr ks σ){F:List Eff}(hl:F.length=σ.efs.length)(he:H'[ef]?=some (.uarr 82 8 (F.map Eff.c)))
  (km:∀j,j<H.length->j≠ef->H'[j]?=H[j]?):SysH B procs p txns H' o q ef tr ks ⟨σ.nds,σ.tr,F⟩:=by
 obtain⟨l1,l2,l3,l4⟩:=S.lt;obtain⟨n1,n2,n3,n4,n5,n6⟩:=S.ne;refine { ho:=?_,hq:=?_,he:=he,ht:=?_,len:=S.len,nd:=λj l y hl hy=>?_,sep:=S.sep,lo:=S.lo,lk:=S.lk }
 .rw[km o l1 (Ne.symm n2),S.ho];simp[hl]
 .rw[km q l2 (Ne.symm n4),S.hq]
 .rw[km tr l4 n6,S.ht]
 .have M:=S.nd j l y hl hy;obtain⟨g1,g2,g3,g4⟩:=S.gt hl hy;obtain⟨m1,m2,m3,m4⟩:=M.lt;exact⟨by rw[km _ m1 g1.2.2.1];exact M.hc,by rw[km _ m2 g2.2.2.1];exact M.hi,by rw[km _ m3 g3.2.2.1];exact M.hs,by rw[km _ m4 g4.2.2.1];exact M.hx⟩
theorem SysH.up0(S:SysH B procs p txns H o q ef tr ks σ)(km:∀j,j<H.length->H'[j]?=H[j]?):SysH B procs p txns H' o q ef tr ks σ:=by
 obtain⟨l1,l2,l3,l4⟩:=S.lt;exact⟨by rw[km _ l1,S.ho],by rw[km _ l2,S.hq],by rw[km _ l3,S.he],by rw[km _ l4,S.ht],S.len,λj l y hl hy=>by
  have M:=S.nd j l y hl hy;obtain⟨m1,m2,m3,m4⟩:=M.lt;exact⟨by rw[km _ m1,M.hc],by rw[km _ m2,M.hi],by rw[km _ m3,M.hs],by rw[km _ m4,M.hx]⟩,S.sep,S.lo,S.lk⟩
end
def v5(o q n c nt:Nat)(node:Int)(prs wq:AV)(ia ib ic:Nat):List AV :=
 [P0 o,P0 o,P0 o,.ptr o 7,.own q n,.ptr c 0,I node,.ptr c 1,prs,prs,.agg [I node,prs],wq,I nt,.own ia nt,wq,I nt,.own ib nt,.agg [I node,prs,.nils,.nils,.nils,.own ia nt,.own ib nt],.ptr ic 0,.lit [.ptr ic 0],.own q (n+1)]
def qqk:List AV:=[.val (.bool false)]
structure R5(X0:g9)(o q n c nt:Nat)(node:Int)(prs wq:AV)(bt:List (Nat×AV))(rows:List (List AV))(X:Nat->Bool)(e:Env)(ia ib ic:Nat):Prop where
 base:∀y∈bt,y.1<31/\ji e.t y.1=y.2
 val:∀(j:Nat) (v:AV),(v5 o q n c nt node prs wq ia ib ic)[j]?=some v->X j=true->ji e.t (31+j)=v
 d17:X 17=true->X 13=true/\X 16=true
 d18:X 18=true->X 17=true
 d19:X 19=true->X 18=true
 d20:X 20=true->X 19=true
 ql:q<X0.length
 pl:AV.under X0.length prs=true
 old:∀j,j<X0.length->j≠q->e.h[j]?=X0[j]?
 len:X0.length<=e.h.length
 und:hUnder e.h.length e.h=true
 q0:X 20=false->e.h[q]?=some (.oarr 97 1 rows)
 q1:X 20=true->e.h[q]?=some (.oarr 97 1 (rows++[[.ptr ic 0]]))
 a:X 13=true->X0.length<=ia/\e.h[ia]?=some (.uarr 4 1 (List.replicate nt qqk))
 b:X 16=true->X0.length<=ib/\e.h[ib]?=some (.uarr 4 1 (List.replicate nt qqk))
 ab:X 13=true->X 16=true->ia≠ib
 cc:X 18=true->X0.length<=ic/\e.h[ic]?=some (.cells [I node,prs,.nils,.nils,.nils,.own ia nt,.own ib nt])
section
variable {X0:g9} {o q n c nt:Nat} {node:Int} {prs wq:AV} {bt:List (Nat×AV)} {rows:List (List AV)} {X:Nat->Bool} {e:Env} {ia ib ic:Nat}
abbrev onX(X:Nat->Bool)(i:Nat):Nat->Bool:=λj=>if j=i then true else X j
theorem xbb{t:List (Nat×AV)}{d y:Nat}{v:AV}(h:d≠y):ji ((d,v)::t) y=ji t y:=by grind[ji]
theorem qzk{t:List (Nat×AV)}{d:Nat}{v:AV}:ji ((d,v)::t) d=v:=by simp[ji]
theorem R5.quiet(h:R5 X0 o q n c nt node prs wq bt rows X e ia ib ic){i:Nat}{v:AV}(hn:i<21/\i≠13/\i≠16/\i≠18/\i≠20)(hv:(v5 o q n c nt node prs wq ia ib ic)[i]?=some v)(h17:i=17->X 13=true/\X 16=true)(h19:i=19->X 18=true) :
  R5 X0 o q n c nt node prs wq bt rows (onX X i) ⟨(31+i,v)::e.t,e.h⟩ ia ib ic:=by
 have hx:∀j,j≠i->onX X i j=X j:=λj hj=>if_neg hj;have hm:∀j,X j=true->onX X i j=true:=λj hj=>by unfold onX;split<;>first|rfl|exact hj
 refine { base:=λy hy=>⟨(h.base y hy).1,qew⟩,val:=λj u hj hu=>?_,d17:=λg=>?_,d18:=λg=>?_,d19:=λg=>?_,d20:=λg=>?_,ql:=h.ql,pl:=h.pl,old:=h.old,len:=h.len,und:=h.und,q0:=λg=>h.q0 af,q1:=λg=>h.q1 af,a:=λg=>h.a af,b:=λg=>h.b af,ab:=λg g'=>h.ab af af,cc:=λg=>h.cc af }
 .by_cases e:j=i
  .grind[qzk]
  .rw[xbb aa];exact h.val j u hj af
 .by_cases e:i=17
  .grind
  .have:=h.d17 af;exact⟨hm _ this.1,hm _ this.2⟩
 .exact hm _ (h.d18 af)
 .by_cases e:i=19
  .grind
  .exact hm _ (h.d19 af)
 .exact hm _ (h.d20 af)
theorem xyk{ia':Nat}{j:Nat}(h1:j≠13)(h2:j≠17):(v5 o q n c nt node prs wq ia' ib ic)[j]?=(v5 o q n c nt node prs wq ia ib ic)[j]?:=by
 unfold v5;rcases j with _|_|_|_|_|_|_|_|_|_|_|_|_|_|_|_|_|_|_|_|_|j<;>first|rfl|exact absurd rfl h1|exact absurd rfl h2
theorem ji1{ib':Nat}{j:Nat}(h1:j≠16)(h2:j≠17):(v5 o q n c nt node prs wq ia ib' ic)[j]?=(v5 o q n c nt node prs wq ia ib ic)[j]?:=by
 unfold v5;rcases j with _|_|_|_|_|_|_|_|_|_|_|_|_|_|_|_|_|_|_|_|_|j<;>first|rfl|exact absurd rfl h1|exact absurd rfl h2
theorem jif{ic':Nat}{j:Nat}(h1:j≠18)(h2:j≠19):(v5 o q n c nt node prs wq ia ib ic')[j]?=(v5 o q n c nt node prs wq ia ib ic)[j]?:=by
 unfold v5;rcases j with _|_|_|_|_|_|_|_|_|_|_|_|_|_|_|_|_|_|_|_|_|j<;>first|rfl|exact absurd rfl h1|exact absurd rfl h2
theorem qvr{α:Type}{h:List α}{y:α}{j:Nat}{z:α}(hz:h[j]?=some z):(h++[y])[j]?=some z:=af
theorem R5.mkA(h:R5 X0 o q n c nt node prs wq bt rows X e ia ib ic)(hX:X 13=false) :
  R5 X0 o q n c nt node prs wq bt rows (onX X 13) ⟨(44,.own e.h.length nt)::e.t,e.h++[.uarr 4 1 (List.replicate nt qqk)]⟩ e.h.length ib ic:=by
 have h17:X 17=false:=fu.2 λg=>by rw[(h.d17 g).1]at hX;cases hX
 have h18:X 18=false:=fu.2 λg=>by rw[h.d18 g]at h17;cases h17
 have h19:X 19=false:=fu.2 λg=>by rw[h.d19 g]at h18;cases h18
 have h20:X 20=false:=fu.2 λg=>by rw[h.d20 g]at h19;cases h19
 have hx:∀j,j≠13->onX X 13 j=X j:=λj hj=>if_neg hj;have hm:∀j,X j=true->onX X 13 j=true:=λj hj=>by unfold onX;split<;>first|rfl|exact hj
 refine { base:=λy hy=>⟨(h.base y hy).1,qew⟩,val:=λj u hj hu=>?_,d17:=λg=>?_,d18:=λg=>?_,d19:=λg=>?_,d20:=λg=>?_,ql:=h.ql,pl:=h.pl,old:=λj hj hq=>?_,len:=by simp;have:=h.len;omega,und:=?_,q0:=λg=>qvr (h.q0 h20),q1:=λg=>?_,a:=λg=>⟨h.len,ac⟩,b:=λg=>?_,ab:=λ_ g'=>?_,cc:=λg=>?_ }
 .by_cases e:j=13
  .subst e;cases hj;exact qzk
  .rw[hx _ e]at hu;rw[xbb aa];refine h.val j u ?_ hu;rw[xyk (ia:=ia) e af]at hj;exact hj
 .grind
 .grind
 .grind
 .grind
 .rw[co qh8];exact h.old j hj hq
 .simp only[c7,fx];rw[tj h.und];simp[hUnder,AObj.under]
 .grind
 .have:=h.b af;exact⟨this.1,qvr this.2⟩
 .have:=h.b af;have:=(cm.1 this.2).1;omega
 .grind
theorem R5.mkB(h:R5 X0 o q n c nt node prs wq bt rows X e ia ib ic)(hX:X 16=false) :
  R5 X0 o q n c nt node prs wq bt rows (onX X 16) ⟨(47,.own e.h.length nt)::e.t,e.h++[.uarr 4 1 (List.replicate nt qqk)]⟩ ia e.h.length ic:=by
 have h17:X 17=false:=fu.2 λg=>by rw[(h.d17 g).2]at hX;cases hX
 have h18:X 18=false:=fu.2 λg=>by rw[h.d18 g]at h17;cases h17
 have h19:X 19=false:=fu.2 λg=>by rw[h.d19 g]at h18;cases h18
 have h20:X 20=false:=fu.2 λg=>by rw[h.d20 g]at h19;cases h19
 have hx:∀j,j≠16->onX X 16 j=X j:=λj hj=>if_neg hj;refine { base:=λy hy=>⟨(h.base y hy).1,qew⟩,val:=λj u hj hu=>?_,d17:=λg=>?_,d18:=λg=>?_,d19:=λg=>?_,d20:=λg=>?_,ql:=h.ql,pl:=h.pl,old:=λj hj hq=>?_,len:=by simp;have:=h.len;omega,und:=?_,q0:=λg=>qvr (h.q0 h20),q1:=λg=>?_,a:=λg=>?_,b:=λg=>⟨h.len,ac⟩,ab:=λg _=>?_,cc:=λg=>?_ }
 .by_cases e:j=16
  .subst e;cases hj;exact qzk
  .rw[hx _ e]at hu;rw[xbb aa];refine h.val j u ?_ hu;rw[ji1 (ib:=ib) e af]at hj;exact hj
 .grind
 .grind
 .grind
 .grind
 .rw[co qh8];exact h.old j hj hq
 .simp only[c7,fx];rw[tj h.und];simp[hUnder,AObj.under]
 .grind
 .have:=h.a af;exact⟨this.1,qvr this.2⟩
 .have:=h.a af;have:=(cm.1 this.2).1;omega
 .grind
theorem R5.box(h:R5 X0 o q n c nt node prs wq bt rows X e ia ib ic)(hX:X 18=false)(h17:X 17=true) :
  R5 X0 o q n c nt node prs wq bt rows (onX X 18) ⟨(49,.ptr e.h.length 0)::e.t,e.h++[.cells [I node,prs,.nils,.nils,.nils,.own ia nt,.own ib nt]]⟩ ia ib e.h.length:=by
 have h19:X 19=false:=fu.2 λg=>by rw[h.d19 g]at hX;cases hX
 have h20:X 20=false:=fu.2 λg=>by rw[h.d20 g]at h19;cases h19
 obtain⟨x13,x16⟩:=h.d17 h17;have hx:∀j,j≠18->onX X 18 j=X j:=λj hj=>if_neg hj;have hla:=(cm.1 (h.a x13).2).1;have hlb:=(cm.1 (h.b x16).2).1;refine { base:=λy hy=>⟨(h.base y hy).1,qew⟩,val:=λj u hj hu=>?_,d17:=λg=>?_,d18:=λg=>?_,d19:=λg=>?_,d20:=λg=>?_,ql:=h.ql,pl:=h.pl,old:=λj hj hq=>?_,len:=by simp;have:=h.len;omega,und:=?_,q0:=λg=>qvr (h.q0 h20),q1:=λg=>?_,a:=λg=>⟨(h.a x13).1,qvr (h.a x13).2⟩,b:=λg=>⟨(h.b x16).1,qvr (h.b x16).2⟩,ab:=λ_ _=>h.ab x13 x16,cc:=λg=>⟨h.len,ac⟩ }
 .by_cases e:j=18
  .subst e;cases hj;exact qzk
  .rw[hx _ e]at hu;rw[xbb aa];refine h.val j u ?_ hu;rw[jif (ic:=ic) e af]at hj;exact hj
 .grind
 .grind
 .simp
 .grind
 .rw[co qh8];exact h.old j hj hq
 .simp only[c7,fx];rw[tj h.und];have:=AV.under_mono (m:=e.h.length+1) (by have:=h.len;omega) _ h.pl;simp[hUnder,AObj.under,lj,AV.under,this];omega
 .grind
theorem R5.app(h:R5 X0 o q n c nt node prs wq bt rows X e ia ib ic)(hX:X 20=false)(h19:X 19=true) :
  R5 X0 o q n c nt node prs wq bt rows (onX X 20) ⟨(51,.own q (n+1))::e.t,e.h.set q (.oarr 97 1 (rows++[[.ptr ic 0]]))⟩ ia ib ic:=by
 have h18:=h.d19 h19;have h17:=h.d18 h18;obtain⟨x13,x16⟩:=h.d17 h17;have hx:∀j,j≠20->onX X 20 j=X j:=λj hj=>if_neg hj;have hql:=h.ql;have jm:=h.len;obtain⟨a1,a2⟩:=h.a x13;obtain⟨b1,b2⟩:=h.b x16;obtain⟨c1,c2⟩:=h.cc h18;have ki:=(cm.1 c2).1;refine { base:=λy hy=>⟨(h.base y hy).1,qew⟩,val:=λj u hj hu=>?_,d17:=λg=>?_,d18:=λg=>?_,d19:=λg=>?_,d20:=λg=>?_,ql:=h.ql,pl:=h.pl,old:=λj hj hq=>?_,len:=by simpa using jm,und:=?_,q0:=λg=>?_,q1:=λg=>?_,a:=λg=>⟨a1,by rw[ct aa];exact a2⟩,b:=λg=>⟨b1,by rw[ct aa];exact b2⟩,ab:=λ_ _=>h.ab x13 x16,cc:=λg=>⟨c1,by rw[ct aa];exact c2⟩ }
 .by_cases e:j=20
  .subst e;cases hj;exact qzk
  .rw[hx _ e]at hu;rw[xbb aa];exact h.val j u hj hu
 .grind
 .grind
 .grind
 .grind
 .rw[ct (Ne.symm hq)];exact h.old j hj hq
 .simp only[gz];refine Go.Abs.qh h.und ?_;have hq:=xrr h.und (h.q0 hX);simp only[AObj.under,List.all_append,qi1,List.all_nil,fa,cw]at hq|-;refine⟨hq,?_⟩;simp[lj,AV.under];exact ki
 .grind
 .grind
end
end Go.Proofs.YtolejdhnnchfpaaGreatDoor
