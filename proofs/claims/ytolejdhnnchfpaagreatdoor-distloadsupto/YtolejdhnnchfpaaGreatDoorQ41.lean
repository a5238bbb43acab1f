/- Part 41 of a proof. -/
import Derived.Test.YtolejdhnnchfpaaGreatDoorQ40
set_option linter.all false
set_option maxRecDepth 8000
set_option maxHeartbeats 4000000
namespace Go.Proofs.YtolejdhnnchfpaaGreatDoor
open Go Go.Abs Go.Cw Go.Proofs.Tryz
section
variable {procs:List Proc} {p:Plc} {txns:List Txn} {H H':g9} {l:List Shard}
theorem zw{X:Nat->Bool}{i:Nat}:(λj=>decide (j=i)||X j)=onX X i:=funext λj=>by unfold onX;by_cases h:j=i<;>simp[h]
theorem jjk(hu:hUnder H.length H=true):∃X,SysI H procs p txns X [] [] [] [] [] /\
  ∀E t,Wk E ⟨t,H++[.cells [I p.ver,.slice (p.parts.map Part.c)],.uarr 82 8 (List.replicate txns.length Cw.effZ.c),.cells (syI procs p txns H.length .nils .nils .nils .nils .nils)]⟩ ⟨t,X⟩:=by
 obtain⟨A,hA⟩:∃A:AObj,A=.cells [I p.ver,.slice (p.parts.map Part.c)]:=⟨_,rfl⟩
 obtain⟨F,hF⟩:∃F:AObj,F=.uarr 82 8 (List.replicate txns.length Cw.effZ.c):=⟨_,rfl⟩
 obtain⟨K,hK⟩:∃K,K=syI procs p txns H.length:=⟨_,rfl⟩
 rw[<-hA,<-hF,<-hK];have w1:∀E t,Wk E ⟨t,H++[A,F,.cells (K .nils .nils .nils .nils .nils)]⟩ ⟨t,H++[A,F,.cells (K .nils .nils .nils (.own (H.length+3) 0) .nils),.oarr 97 1 []]⟩:=λE t=>by
  have:=xsc E ⟨t,H++[A,F,.cells (K .nils .nils .nils .nils .nils)]⟩ (p:=H.length+2) (j:=7) (t:=97) (sz:=1) (xs:=K .nils .nils .nils .nils .nils) ac qit;simpa[qj4,hK]using this
 have w2:∀E t,Wk E ⟨t,H++[A,F,.cells (K .nils .nils .nils (.own (H.length+3) 0) .nils),.oarr 97 1 []]⟩ ⟨t,H++[A,F,.cells (K .nils .nils .nils (.own (H.length+3) 0) (.own (H.length+4) 0)),.oarr 97 1 [],.uarr 162 5 []]⟩:=λE t=>by
  have:=xas E ⟨t,H++[A,F,.cells (K .nils .nils .nils (.own (H.length+3) 0) .nils),.oarr 97 1 []]⟩ (p:=H.length+2) (j:=8) (t:=162) (sz:=5) (xs:=K .nils .nils .nils (.own (H.length+3) 0) .nils) ac qit;simpa[qj4,hK]using this
 have w3:∀E t,Wk E ⟨t,H++[A,F,.cells (K .nils .nils .nils (.own (H.length+3) 0) (.own (H.length+4) 0)),.oarr 97 1 [],.uarr 162 5 []]⟩ ⟨t,H++[A,F,.cells (K (.own (H.length+5) 0) .nils .nils (.own (H.length+3) 0) (.own (H.length+4) 0)),.oarr 97 1 [],.uarr 162 5 [],.arr 76 3 []]⟩:=λE t=>by
  have:=qol E ⟨t,H++[A,F,.cells (K .nils .nils .nils (.own (H.length+3) 0) (.own (H.length+4) 0)),.oarr 97 1 [],.uarr 162 5 []]⟩ (p:=H.length+2) (j:=4) (t:=76) (sz:=3) (xs:=K .nils .nils .nils (.own (H.length+3) 0) (.own (H.length+4) 0)) ac af;simpa[qj4,hK]using this
 have w4:∀E t,Wk E ⟨t,H++[A,F,.cells (K (.own (H.length+5) 0) .nils .nils (.own (H.length+3) 0) (.own (H.length+4) 0)),.oarr 97 1 [],.uarr 162 5 [],.arr 76 3 []]⟩ ⟨t,H++[A,F,.cells (K (.own (H.length+5) 0) (.own (H.length+6) 0) .nils (.own (H.length+3) 0) (.own (H.length+4) 0)),.oarr 97 1 [],.uarr 162 5 [],.arr 76 3 [],.arr 34 1 []]⟩:=λE t=>by
  have:=qol E ⟨t,H++[A,F,.cells (K (.own (H.length+5) 0) .nils .nils (.own (H.length+3) 0) (.own (H.length+4) 0)),.oarr 97 1 [],.uarr 162 5 [],.arr 76 3 []]⟩ (p:=H.length+2) (j:=5) (t:=34) (sz:=1) (xs:=K (.own (H.length+5) 0) .nils .nils (.own (H.length+3) 0) (.own (H.length+4) 0)) ac af;simpa[qj4,hK]using this
 have w5:∀E t,Wk E ⟨t,H++[A,F,.cells (K (.own (H.length+5) 0) (.own (H.length+6) 0) .nils (.own (H.length+3) 0) (.own (H.length+4) 0)),.oarr 97 1 [],.uarr 162 5 [],.arr 76 3 [],.arr 34 1 []]⟩ ⟨t,H++[A,F,.cells (K (.own (H.length+5) 0) (.own (H.length+6) 0) (.own (H.length+7) 0) (.own (H.length+3) 0) (.own (H.length+4) 0)),.oarr 97 1 [],.uarr 162 5 [],.arr 76 3 [],.arr 34 1 [],.arr 34 1 []]⟩:=λE t=>by
  have:=qol E ⟨t,H++[A,F,.cells (K (.own (H.length+5) 0) (.own (H.length+6) 0) .nils (.own (H.length+3) 0) (.own (H.length+4) 0)),.oarr 97 1 [],.uarr 162 5 [],.arr 76 3 [],.arr 34 1 []]⟩ (p:=H.length+2) (j:=6) (t:=34) (sz:=1) (xs:=K (.own (H.length+5) 0) (.own (H.length+6) 0) .nils (.own (H.length+3) 0) (.own (H.length+4) 0)) ac af;simpa[qj4,hK]using this
 refine⟨_,?_,λE t=>((((w1 E t).trans (w2 E t)).trans (w3 E t)).trans (w4 E t)).trans (w5 E t)⟩;have hs:∀j,H.length+j - H.length=j:=λj=>by omega
 refine { hp:=by rw[cx aa];simp[hA],he:=by rw[cx aa,hs];simp[hF],hs:=by rw[cx aa,hs];simp[hK],hq:=by rw[cx aa,hs];simp,ht:=by rw[cx aa,hs];simp,hf:=by rw[cx aa,hs];simp,hpa:=by rw[cx aa,hs];simp,hx:=by rw[cx aa,hs];simp,len:=rfl,nd:=λi k x hk=>(by simp at hk),sep:=λi j a b ha=>(by simp at ha),lk:=λk hk=>(by cases hk),und:=?_,big:=by simp,old:=λj hj=>co hj };simp only[c7,dy,ed];rw[tj hu,hA,hF,hK];simp[hUnder,AObj.under,lj,AV.under]
theorem jhb{X h:g9}{ks:List NK}{nds:List Nd}{x:Shard}{ia ib ic:Nat}(S:SysI H procs p txns X ks nds [] [] [])(km:∀j,j<X.length->j≠H.length+3->h[j]?=X[j]?)(hl:X.length<=h.length)(hu:hUnder h.length h=true)
  (hq:h[H.length+3]?=some (.oarr 97 1 ((ks.map λk=>[.ptr k.c 0])++[[.ptr ic 0]]))) (ha:X.length<=ia) (ha2:h[ia]?=some (.uarr 4 1 (List.replicate txns.length qqk))) (hb:X.length<=ib) (nm:h[ib]?=some (.uarr 4 1 (List.replicate txns.length qqk))) (hab:ia≠ib)
  (hc:X.length<=ic) (nh:h[ic]?=some (.cells [I x.node,.slice (x.prs.map Pr.c),.nils,.nils,.nils,.own ia txns.length,.own ib txns.length])) :
  ∃X' k,SysI H procs p txns X' (ks++[k]) (nds++[qc p txns 0 x]) [] [] []/\∀E t,Wk E ⟨t,h.set (H.length+2) (.cells (syI procs p txns H.length (.own (H.length+5) 0) (.own (H.length+6) 0) (.own (H.length+7) 0) (.own (H.length+3) (ks.length+1)) (.own (H.length+4) 0)))⟩ ⟨t,X'⟩:=by
 have qsp:=S.big;obtain⟨lia,_⟩:=cm.1 ha2;obtain⟨lib,_⟩:=cm.1 nm;obtain⟨lic,_⟩:=cm.1 nh;have nac:ic≠ia:=λe=>by rw[e,ha2]at nh;cases nh
 have nbc:ic≠ib:=λe=>by rw[e,nm]at nh;cases nh
 obtain⟨h1,hh1⟩:∃h1,h.set (H.length+2) (.cells (syI procs p txns H.length (.own (H.length+5) 0) (.own (H.length+6) 0) (.own (H.length+7) 0) (.own (H.length+3) (ks.length+1)) (.own (H.length+4) 0)))=h1:=⟨_,rfl⟩
 rw[hh1];have l1:h1.length=h.length:=by rw[<-hh1];simp
 have c1:h1[ic]?=some (.cells [I x.node,.slice (x.prs.map Pr.c),.nils,.nils,.nils,.own ia txns.length,.own ib txns.length]):=by rw[<-hh1,ct aa];exact nh
 have w1:∀E t,Wk E ⟨t,h1⟩ ⟨t,h1.set ic (.cells [I x.node,.slice (x.prs.map Pr.c),.slice [],.nils,.nils,.own ia txns.length,.own ib txns.length])⟩:=λE t=>by
  have:=qzn E ⟨t,h1⟩ (p:=ic) (j:=2) (x:=.nils) c1 rfl;simpa[AV.norm]using this
 obtain⟨h2,hh2⟩:∃h2,h1.set ic (.cells [I x.node,.slice (x.prs.map Pr.c),.slice [],.nils,.nils,.own ia txns.length,.own ib txns.length])=h2:=⟨_,rfl⟩
 have l2:h2.length=h.length:=by rw[<-hh2];simp[l1]
 have c2:h2[ic]?=some (.cells [I x.node,.slice (x.prs.map Pr.c),.slice [],.nils,.nils,.own ia txns.length,.own ib txns.length]):=by rw[<-hh2,du aa]
 have w2:∀E t,Wk E ⟨t,h2⟩ ⟨t,h2.set ic (.cells [I x.node,.slice (x.prs.map Pr.c),.slice [],.slice [],.nils,.own ia txns.length,.own ib txns.length])⟩:=λE t=>by
  have:=qzn E ⟨t,h2⟩ (p:=ic) (j:=3) (x:=.nils) c2 rfl;simpa[AV.norm]using this
 obtain⟨h3,hh3⟩:∃h3,h2.set ic (.cells [I x.node,.slice (x.prs.map Pr.c),.slice [],.slice [],.nils,.own ia txns.length,.own ib txns.length])=h3:=⟨_,rfl⟩
 have l3:h3.length=h.length:=by rw[<-hh3];simp[l2]
 have c3:h3[ic]?=some (.cells [I x.node,.slice (x.prs.map Pr.c),.slice [],.slice [],.nils,.own ia txns.length,.own ib txns.length]):=by rw[<-hh3,du aa]
 have w3:∀E t,Wk E ⟨t,h3⟩ ⟨t,h3.set ic (.cells [I x.node,.slice (x.prs.map Pr.c),.slice [],.slice [],.own h.length 0,.own ia txns.length,.own ib txns.length])++[AObj.arr 162 5 []]⟩:=λE t=>by
  have:=qol E ⟨t,h3⟩ (p:=ic) (j:=4) (t:=162) (sz:=5) c3 rfl;simpa[l3]using this
 obtain⟨h4,hh4⟩:∃h4,h3.set ic (.cells [I x.node,.slice (x.prs.map Pr.c),.slice [],.slice [],.own h.length 0,.own ia txns.length,.own ib txns.length])=h4:=⟨_,rfl⟩
 have l4:h4.length=h.length:=by rw[<-hh4];simp[l3]
 have o4:∀j,j≠ic->h4[j]?=h1[j]?:=λj hj=>by rw[<-hh4,ct (Ne.symm hj),<-hh3,ct (Ne.symm hj),<-hh2,ct (Ne.symm hj)]
 have o5:∀j,j<h.length->j≠ic->j≠H.length+2->(h4++[AObj.arr 162 5 []])[j]?=h[j]?:=λj hj mz zq=>by
  rw[co aa,o4 j mz,<-hh1,ct (Ne.symm zq)]
 rw[hh2]at w1;rw[hh3]at w2;rw[hh4]at w3;refine⟨h4++[AObj.arr 162 5 []],⟨ic,h.length,ia,ib⟩,?_,λE t=>((w1 E t).trans (w2 E t)).trans (w3 E t)⟩;refine S.add ?_ ?_ ?_ ⟨hc,hl,ha,hb⟩ hab (λj hj mz zq=>?_) az ?_
 .rw[co aa,o4 _ aa,<-hh1,du aa];rfl
 .rw[o5 _ aa aa aa];exact hq
 .refine⟨?_,?_,?_,?_⟩
  .show(h4++_)[ic]?=_;rw[co aa,<-hh4,du aa];simp[qc,rz]
  .show(h4++_)[h.length]?=_;rw[cx aa];simp[l4,qc]
  .rw[o5 _ lia (Ne.symm nac) aa,ha2];simp[qc,qqk,qqf]
  .rw[o5 _ lib (Ne.symm nbc) aa,nm];simp[qc,qqk,qqf]
 .rw[o5 _ aa aa mz];exact km j hj zq
 .simp only[c7,fx,l4];have hu1:hUnder h.length h1=true:=by
   rw[<-hh1];refine Go.Abs.qh hu ?_;simp[AObj.under,lj,AV.under];omega
  rw[qx];have hu4:hUnder (h.length+1) h4=true:=by
   rw[<-hh4,<-hh3,<-hh2,qi2,qi2];refine Go.Abs.qh ?_ ?_
   .have:=tj (k:=1) (l:=[]) (by rw[l1];exact hu1:hUnder h1.length h1=true);rw[ej,l1]at this;rw[this];rfl
   .simp[AObj.under,lj,AV.under];omega
  rw[hu4];rfl
theorem jd4(hp:jy p=true)(n:Int){m:Nat}(hT:m<=1048576)(mw:p6 (l9 p (jn txns m)) n=true) :
  APure prog 57 [.agg (LT.c (rz p txns n m)),I m,.agg (vy p txns n m).c] (.tuple [.agg (LT.c (rz p txns n (m+1))),I 0]):=by
 have kp:=xgc (txns:=txns) hp n m;obtain⟨z1,z2⟩:=xio (txns:=txns) hp n m;obtain⟨q1,q2⟩:=xky kp z2;have hR:((List.range m).filter λt=>p6 (l9 p (jn txns t)) n).Pairwise (· < ·):=List.pairwise_lt_range.filter _
 have hf:=qxf (txns:=txns) hp n m;obtain⟨_,_,_,_,k1,k2,_⟩:=xc6 hf;have hv:=xid kp hR λi _=>qxf hp _ i;have u7:=(xhr kp m).1 ac;have il:∀y∈(rz p txns n m).glob,y.t<=(m:Int):=λy hy=>by
  rw[kp.glob]at hy;obtain⟨i,hi,rfl⟩:=cy.1 hy;have:=ga.1 (e9.1 hi).1;simp only;omega
 have h:=xu3 (rz p txns n m).glob (rz p txns n m).qs m (vy p txns n m) (128 * m) hv hf aa u7 (λj hj _=>il _ (dk hj)) aa q1 q2 aa;have e:rz p txns n (m+1)=⟨(rz p txns n m).glob++[⟨(m:Int),(vy p txns n m).all⟩],qp7 m (vy p txns n m) (rz p txns n m).qs⟩:=by grind[rz]
 rw[e];exact h
theorem xw4(hp:jy p=true)(hl:l.length<=16)(hT:txns.length<=1048576) :
  ACalls prog 30 [.slice (procs.map Proc.c),.agg p.c,.slice (l.map Shard.c),.slice (txns.map Txn.c)] H λr h'=>r=.ret (.ptr (H.length+2) 0)/\∃ks,SysI H procs p txns h' ks (l.map (qc p txns txns.length)) (txns.map oe) (zt p txns) (qk8 p txns):=by
 refine re func30 rfl ae ac ?_;intro E hN hh hu hb iq ju;rw[ntmps30]at hN;refine jo _ _ _ ?_;obtain⟨X0,S0,hW0⟩:=jjk (procs:=procs) (p:=p) (txns:=txns) hu;have hlX:H.length<=X0.length:=by have:=S0.big;omega
 simp-dsimp[go_sem,hN,Plc.c,jf0];refine xw9 6 mixed ae ?_;simp-dsimp[go_sem,hN];refine⟨aa,?_⟩;refine td (α:=g9×List NK) l.length (λn x=>SysI H procs p txns x.1 x.2 ((l.take n).map (qc p txns 0)) [] [] []) (λn x=>⟨[(3,.slice (txns.map Txn.c)),(5,.ptr H.length 0),(9,.ptr (H.length+2) 0),(25,.slice (l.map Shard.c)),(26,I l.length),(27,I n)],x.1⟩) (X0,[]) af ((hW0 E _).trans (Wk.mk af (hwk.refl _) S0.und (by simp[go_sem];have:=S0.big;omega))) ?_;rintro n ⟨X,ks⟩ hn S;dsimp only at S|-;have hw:=jj hn aa;simp-dsimp[go_sem,hN];refine ii ?_ ?_<;>intro hc<;>simp at hc
 .obtain⟨x,hx⟩:∃x,l[n]=x:=⟨_,rfl⟩
  have mb:∃Y0,X++[AObj.cells [I x.node,.slice (x.prs.map Pr.c)]]=Y0:=⟨_,rfl⟩
  obtain⟨Y0,hY0⟩:=mb;have qsp:=S.big;have hYl:Y0.length=X.length+1:=af;have hYo:∀j,j<X.length->Y0[j]?=X[j]?:=λj hj=>by rw[<-hY0];exact co hj
  have hYc:Y0[X.length]?=some (.cells [I x.node,.slice (x.prs.map Pr.c)]):=af;have hYu:hUnder Y0.length Y0=true:=by
   rw[hYl,<-hY0,tj S.und];simp[hUnder,AObj.under,AV.under,lj]
  have ki:=xit x.prs;have hkn:ks.length=n:=by
   have:=S.len;simpa[fm hn]using this
  simp-dsimp[go_sem,hN,hc,hx,Shard.c];rw[hY0];refine jkb 21 (λXs e=>∃ia ib ic,R5 Y0 (H.length+2) (H.length+3) ks.length X.length txns.length x.node (.slice (x.prs.map Pr.c)) (.slice (txns.map Txn.c)) [(3,.slice (txns.map Txn.c)),(5,.ptr H.length 0),(9,.ptr (H.length+2) 0),(11,.ptr X.length 0),(25,.slice (l.map Shard.c)),(26,I l.length),(27,I n)] (ks.map λk=>[.ptr k.c 0]) Xs e ia ib ic) mixed ae ?_ ?_ ?_
  .refine⟨0,0,0,?_⟩;refine { base:=λy hy=>?_,val:=λ_ _ _ h=>cg,d17:=λh=>cg,d18:=λh=>cg,d19:=λh=>cg,d20:=λh=>cg,ql:=by omega,pl:=rfl,old:=λ_ _ _=>rfl,len:=cn _,und:=hYu,q0:=λ_=>by rw[hYo _ aa];exact S.hq,q1:=λh=>cg,a:=λh=>cg,b:=λh=>cg,ab:=λh=>cg,cc:=λh=>cg };simp only[c0,qjc,or_false]at hy;rcases hy with rfl|rfl|rfl|rfl|rfl|rfl|rfl<;>exact⟨ac,rfl⟩
  .rintro Xs e' i oo ⟨ia,ib,ic,hR⟩ ho pn rk;have b3:ji e'.t 3=.slice (txns.map Txn.c):=(hR.base (3,.slice (txns.map Txn.c)) ac).2;have b9:ji e'.t 9=.ptr (H.length+2) 0:=(hR.base (9,.ptr (H.length+2) 0) ac).2;have b11:ji e'.t 11=.ptr X.length 0:=(hR.base (11,.ptr X.length 0) ac).2;have hoO:e'.h[H.length+2]?=some (.cells (syI procs p txns H.length (.own (H.length+5) 0) (.own (H.length+6) 0) (.own (H.length+7) 0) (.own (H.length+3) ks.length) (.own (H.length+4) 0))):=by
    rw[hR.old _ aa aa,hYo _ aa];exact S.hs
   have hoC:e'.h[X.length]?=some (.cells [I x.node,.slice (x.prs.map Pr.c)]):=by
    rw[hR.old _ aa aa];exact hYc
   have hi:i<21:=af;have md:i=0\/i=1\/i=2\/i=3\/i=4\/i=5\/i=6\/i=7\/i=8\/i=9\/i=10\/i=11\/i=12\/i=13\/i=14\/i=15\/i=16\/i=17\/i=18\/i=19\/i=20:=aa;rcases md with rfl|rfl|rfl|rfl|rfl|rfl|rfl|rfl|rfl|rfl|rfl|rfl|rfl|rfl|rfl|rfl|rfl|rfl|rfl|rfl|rfl
   .simp at ho;subst ho;refine .inl ?_;simp-dsimp[go_sem,hN,s7,qy,u9,b9];refine⟨ia,ib,ic,?_⟩;rw[zw];exact hR.quiet (i:=0) aa rfl aa aa
   .simp at ho;subst ho;refine .inl ?_;simp-dsimp[go_sem,hN,s7,qy,u9,b9];refine⟨ia,ib,ic,?_⟩;rw[zw];exact hR.quiet (i:=1) aa rfl aa aa
   .simp at ho;subst ho;have x1:Xs 1=true:=rk ⟨1,.data⟩ ac rfl;have d1:ji e'.t 32=_:=hR.val 1 _ rfl x1;refine .inl ?_;simp-dsimp[go_sem,hN,s7,qy,u9,d1];refine⟨ia,ib,ic,?_⟩;rw[zw];exact hR.quiet (i:=2) aa rfl aa aa
   .simp at ho;subst ho;have x2:Xs 2=true:=rk ⟨2,.data⟩ ac rfl;have d2:ji e'.t 33=_:=hR.val 2 _ rfl x2;refine .inl ?_;simp-dsimp[go_sem,hN,s7,qy,u9,d2];refine⟨ia,ib,ic,?_⟩;rw[zw];exact hR.quiet (i:=3) aa rfl aa aa
   .simp at ho;subst ho;have x3:Xs 3=true:=rk ⟨3,.data⟩ ac rfl;have d3:ji e'.t 34=_:=hR.val 3 _ rfl x3;refine .inl ?_;simp-dsimp[go_sem,hN,s7,qy,u9,d3,hoO];refine⟨ia,ib,ic,?_⟩;rw[zw];exact hR.quiet (i:=4) aa rfl aa aa
   .simp at ho;subst ho;refine .inl ?_;simp-dsimp[go_sem,hN,s7,qy,u9,b11];refine⟨ia,ib,ic,?_⟩;rw[zw];exact hR.quiet (i:=5) aa rfl aa aa
   .simp at ho;subst ho;have x5:Xs 5=true:=rk ⟨5,.data⟩ ac rfl;have d5:ji e'.t 36=_:=hR.val 5 _ rfl x5;refine .inl ?_;simp-dsimp[go_sem,hN,s7,qy,u9,d5,hoC];refine⟨ia,ib,ic,?_⟩;rw[zw];exact hR.quiet (i:=6) aa rfl aa aa
   .simp at ho;subst ho;refine .inl ?_;simp-dsimp[go_sem,hN,s7,qy,u9,b11];refine⟨ia,ib,ic,?_⟩;rw[zw];exact hR.quiet (i:=7) aa rfl aa aa
   .simp at ho;subst ho;have x7:Xs 7=true:=rk ⟨7,.data⟩ ac rfl;have d7:ji e'.t 38=_:=hR.val 7 _ rfl x7;refine .inl ?_;simp-dsimp[go_sem,hN,s7,qy,u9,d7,hoC];refine⟨ia,ib,ic,?_⟩;rw[zw];exact hR.quiet (i:=8) aa rfl aa aa
   .simp at ho;subst ho;have x8:Xs 8=true:=rk ⟨8,.data⟩ ac rfl;have d8:ji e'.t 39=_:=hR.val 8 _ rfl x8;refine .inl ?_;simp-dsimp[go_sem,hN,s7,qy,u9,d8];refine(ki e'.h).mono ?_;rintro r h' ⟨rfl,rfl⟩;refine⟨ia,ib,ic,?_⟩;rw[zw];exact hR.quiet (i:=9) aa rfl aa aa
   .simp at ho;subst ho;have x6:Xs 6=true:=rk ⟨6,.data⟩ ac rfl;have d6:ji e'.t 37=_:=hR.val 6 _ rfl x6;have x9:Xs 9=true:=rk ⟨9,.data⟩ ac rfl;have d9:ji e'.t 40=_:=hR.val 9 _ rfl x9;refine .inl ?_;simp-dsimp[go_sem,hN,s7,qy,u9,d6,d9];refine⟨ia,ib,ic,?_⟩;rw[zw];exact hR.quiet (i:=10) aa rfl aa aa
   .simp at ho;subst ho;refine .inl ?_;simp-dsimp[go_sem,hN,s7,qy,u9,b3];refine⟨ia,ib,ic,?_⟩;rw[zw];exact hR.quiet (i:=11) aa rfl aa aa
   .simp at ho;subst ho;have x11:Xs 11=true:=rk ⟨11,.data⟩ ac rfl;have d11:ji e'.t 42=_:=hR.val 11 _ rfl x11;refine .inl ?_;simp-dsimp[go_sem,hN,s7,qy,u9,d11];refine⟨ia,ib,ic,?_⟩;rw[zw];exact hR.quiet (i:=12) aa rfl aa aa
   .simp at ho;subst ho;have x12:Xs 12=true:=rk ⟨12,.data⟩ ac rfl;have d12:ji e'.t 43=_:=hR.val 12 _ rfl x12;refine .inr ⟨44,102,4,.tmp 43,txns.length,1,qqk,⟨rfl,rfl,by simp[hN],rfl,ag,ag,ag,aa,ag,ag,by simp[go_sem,qqk,qnx],by simp[go_sem,d12],by simp[go_sem,d12],aa,?_⟩⟩;exact⟨e'.h.length,ib,ic,hR.mkA pn⟩
   .simp at ho;subst ho;refine .inl ?_;simp-dsimp[go_sem,hN,s7,qy,u9,b3];refine⟨ia,ib,ic,?_⟩;rw[zw];exact hR.quiet (i:=14) aa rfl aa aa
   .simp at ho;subst ho;have x14:Xs 14=true:=rk ⟨14,.data⟩ ac rfl;have d14:ji e'.t 45=_:=hR.val 14 _ rfl x14;refine .inl ?_;simp-dsimp[go_sem,hN,s7,qy,u9,d14];refine⟨ia,ib,ic,?_⟩;rw[zw];exact hR.quiet (i:=15) aa rfl aa aa
   .simp at ho;subst ho;have x15:Xs 15=true:=rk ⟨15,.data⟩ ac rfl;have d15:ji e'.t 46=_:=hR.val 15 _ rfl x15;refine .inr ⟨47,102,4,.tmp 46,txns.length,1,qqk,⟨rfl,rfl,by simp[hN],rfl,ag,ag,ag,aa,ag,ag,by simp[go_sem,qqk,qnx],by simp[go_sem,d15],by simp[go_sem,d15],aa,?_⟩⟩;exact⟨ia,e'.h.length,ic,hR.mkB pn⟩
   .simp at ho;subst ho;have x10:Xs 10=true:=rk ⟨10,.data⟩ ac rfl;have d10:ji e'.t 41=_:=hR.val 10 _ rfl x10;have x13:Xs 13=true:=rk ⟨13,.data⟩ ac rfl;have d13:ji e'.t 44=_:=hR.val 13 _ rfl x13;have x16:Xs 16=true:=rk ⟨16,.data⟩ ac rfl;have d16:ji e'.t 47=_:=hR.val 16 _ rfl x16;refine .inl ?_;simp-dsimp[go_sem,hN,s7,qy,u9,d10,d13,d16];refine⟨ia,ib,ic,?_⟩;rw[zw];exact hR.quiet (i:=17) aa rfl (λ_=>⟨x13,x16⟩) aa
   .simp at ho;subst ho;have x17:Xs 17=true:=rk ⟨17,.data⟩ ac rfl;have d17:ji e'.t 48=_:=hR.val 17 _ rfl x17;refine .inl ?_;simp-dsimp[go_sem,hN,s7,qy,u9,d17];refine⟨ia,ib,e'.h.length,?_⟩;rw[zw];exact hR.box pn x17
   .simp at ho;subst ho;have x18:Xs 18=true:=rk ⟨18,.data⟩ ac rfl;have d18:ji e'.t 49=_:=hR.val 18 _ rfl x18;refine .inl ?_;simp-dsimp[go_sem,hN,s7,qy,u9,d18];refine⟨ia,ib,ic,?_⟩;rw[zw];exact hR.quiet (i:=19) aa rfl aa (λ_=>x18)
   .simp at ho;subst ho;have x4:Xs 4=true:=rk ⟨4,.data⟩ ac rfl;have d4:ji e'.t 35=_:=hR.val 4 _ rfl x4;have x19:Xs 19=true:=rk ⟨19,.data⟩ ac rfl;have d19:ji e'.t 50=_:=hR.val 19 _ rfl x19;have hq0:=hR.q0 pn;refine .inl ?_;simp-dsimp[go_sem,hN,s7,qy,u9,d4,d19,hq0];refine⟨aa,ia,ib,ic,?_⟩;rw[zw];exact hR.app pn x19
  .rintro X1 e' iz ⟨ia,ib,ic,hR⟩;have d0:ji e'.t 31=_:=hR.val 0 _ rfl (iz 0 aa);have d20:ji e'.t 51=_:=hR.val 20 _ rfl (iz 20 aa);have b27:ji e'.t 27=I n:=(hR.base (27,I n) ac).2;have hoO:e'.h[H.length+2]?=some (.cells (syI procs p txns H.length (.own (H.length+5) 0) (.own (H.length+6) 0) (.own (H.length+7) 0) (.own (H.length+3) ks.length) (.own (H.length+4) 0))):=by
    rw[hR.old _ aa aa,hYo _ aa];exact S.hs
   obtain⟨X2,k,S2,hW2⟩:=jhb S (h:=e'.h) (x:=x) (λj hj hq=>by rw[hR.old _ aa hq];exact hYo j hj) (by have:=hR.len;omega) hR.und (hR.q1 (iz 20 aa)) (by have:=(hR.a (iz 13 aa)).1;omega) (hR.a (iz 13 aa)).2 (by have:=(hR.b (iz 16 aa)).1;omega) (hR.b (iz 16 aa)).2 (hR.ab (iz 13 aa) (iz 16 aa)) (by have:=(hR.cc (iz 18 aa)).1;omega) (hR.cc (iz 18 aa)).2;simp-dsimp[go_sem,hN,d0,d20,b27,hoO,hw];have b3:ji e'.t 3=.slice (txns.map Txn.c):=(hR.base (3,.slice (txns.map Txn.c)) ac).2;have b5:ji e'.t 5=.ptr H.length 0:=(hR.base (5,.ptr H.length 0) ac).2;have b9:ji e'.t 9=.ptr (H.length+2) 0:=(hR.base (9,.ptr (H.length+2) 0) ac).2;have b25:ji e'.t 25=.slice (l.map Shard.c):=(hR.base (25,.slice (l.map Shard.c)) ac).2;have b26:ji e'.t 26=I l.length:=(hR.base (26,I l.length) ac).2;have he2:(l.take (n+1)).map (qc p txns 0)=(l.take n).map (qc p txns 0)++[qc p txns 0 x]:=qe6;refine⟨hc,X2,?_,?_⟩
   .grind[gd]
   .have:=S2.big;exact(hW2 E _).trans (Wk.mk af (hwk.refl _) S2.und (by simp[go_sem,b3,b5,b9,b25,b26];omega))
 have hn2:n=l.length:=aa;subst hn2;rw[gw]at S;have qsp:=S.big;simp-dsimp[go_sem,hN];refine td (α:=g9) txns.length (λm X=>SysI H procs p txns X ks (l.map (qc p txns m)) ((txns.take m).map oe) ((txns.take m).map λt=>l9 p (oe t)) ((txns.take m).map λt=>ma p (oe t))) (λm X=>⟨[(5,.ptr H.length 0),(9,.ptr (H.length+2) 0),(55,.slice (txns.map Txn.c)),(56,I txns.length),(57,I m)],X⟩) X af (Wk.mk af (hwk.refl _) S.und qe3) ?_;clear S qsp X;rintro m X hm S;have hw:=jj hm aa;have qsp:=S.big;simp-dsimp[go_sem,hN];refine ii ?_ ?_<;>intro hc<;>simp at hc
 .obtain⟨t,ht⟩:∃t,txns[m]=t:=⟨_,rfl⟩
  have nk:=qzd t.ft;simp-dsimp[go_sem,hN,hc,ht,Txn.c];refine iv nk ?_;simp-dsimp[go_sem,hN];obtain⟨Y1,hY1⟩:∃Y1,X++[AObj.cells t.c,AObj.cells (oe t).c]=Y1:=⟨_,rfl⟩
  have yb:Y1.length=X.length+2:=af;have hu1:hUnder Y1.length Y1=true:=by
   rw[yb,<-hY1,tj S.und];simp[hUnder,AObj.under,AV.under,lj,Txn.c,Foot.c]
  have xx:∀j,j<X.length->Y1[j]?=X[j]?:=λj hj=>by rw[<-hY1];exact co hj
  have hc1:Y1[X.length+1]?=some (.cells (oe t).c):=af;have S1:SysI H procs p txns Y1 ks (l.map (qc p txns m)) ((txns.take m).map oe) ((txns.take m).map λt=>l9 p (oe t)) ((txns.take m).map λt=>ma p (oe t)) :=
   S.cols (by rw[xx _ aa];exact S.hs) (by rw[xx _ aa];exact S.hf) (by rw[xx _ aa];exact S.hpa) (by rw[xx _ aa];exact S.hx) (λj hj _ _ _ _=>xx j hj) aa hu1
  have hmin:min m txns.length=m:=fm hm;refine ii (λhg=>?A) (λhg=>?B)<;>simp at hg
  case' A =>
   have hft:oe t=ftZ:=by simp_all[oe,fOk]
   simp-dsimp[go_sem,hN];refine AWp.wk (e1:=⟨[(5,.ptr H.length 0),(9,.ptr (H.length+2) 0),(12,I m),(14,.ptr (X.length+1) 0),(55,.slice (txns.map Txn.c)),(56,I txns.length),(57,I m)],Y1⟩) ((jj4 E _ (p:=X.length+1) (xs:=[Bo false,.nils,.nils]) ac).trans (Wk.mk af (by rw[<-hY1,hft];simp[qj4,ko,AV.norm,Foot.c,ftZ,Txn.c,hwk.refl]) hu1 qe3)) ?_
  case' B =>
   have hft:oe t=t.ft:=by simp_all[oe,fOk]
   simp-dsimp[go_sem,hN];refine AWp.wk (e1:=⟨[(5,.ptr H.length 0),(9,.ptr (H.length+2) 0),(12,I m),(14,.ptr (X.length+1) 0),(55,.slice (txns.map Txn.c)),(56,I txns.length),(57,I m)],Y1⟩) ((Wk.mk af (by rw[<-hY1,hft];exact hwk.refl _) hu1 qe3)) ?_
  all_goals
   clear hft hg;obtain⟨f,hf⟩:∃f,oe t=f:=⟨_,rfl⟩
   rw[hf]at hc1;obtain⟨F0,hF0⟩:∃F0,((txns.take m).map oe)=F0:=⟨_,rfl⟩
   obtain⟨F1,s9⟩:∃F1,((txns.take (m+1)).map oe)=F1:=⟨_,rfl⟩
   have lF0:F0.length=m:=af;have eF1:F1=F0++[f]:=qe6;have lF1:F1.length=m+1:=af;obtain⟨P0,hP0⟩:∃P0,((txns.take m).map λt=>l9 p (oe t))=P0:=⟨_,rfl⟩
   obtain⟨P1,hP1⟩:∃P1,((txns.take (m+1)).map λt=>l9 p (oe t))=P1:=⟨_,rfl⟩
   have lP0:P0.length=m:=af;have eP1:P1=P0++[l9 p f]:=qe6;have lP1:P1.length=m+1:=af;obtain⟨E0,hE0⟩:∃E0,((txns.take m).map λt=>ma p (oe t))=E0:=⟨_,rfl⟩
   obtain⟨E1,hE1⟩:∃E1,((txns.take (m+1)).map λt=>ma p (oe t))=E1:=⟨_,rfl⟩
   have lE0:E0.length=m:=af;have eE1:E1=E0++[ma p f]:=qe6;have lE1:E1.length=m+1:=af;rw[hF0,hP0,hE0]at S1;have hY1s:=S1.hs;rw[lF0,lP0,lE0]at hY1s;have hY1f:=S1.hf;have kr:=S1.big;have sj:∀Z,(Y1.set (H.length+5) Z)[H.length+2]?=Y1[H.length+2]?:=λZ=>ct aa;refine qer 8 7 [0] mixed ae ?_;simp-dsimp[go_sem,hN,hY1s,hY1f,sj,hc1,lF0];refine⟨aa,?_⟩;obtain⟨Y2,hY2⟩:∃Y2,(Y1.set (H.length+5) (.arr 76 3 (F1.map Foot.c))).set (H.length+2) (.cells (syI procs p txns H.length (.own (H.length+5) (m+1)) (.own (H.length+6) (m)) (.own (H.length+7) (m)) (.own (H.length+3) ks.length) (.own (H.length+4) 0)))=Y2:=⟨_,rfl⟩
   have hl2:Y2.length=X.length+2:=af;have ho2:∀j,j≠H.length+2->j≠H.length+5->Y2[j]?=Y1[j]?:=λj h1 h2=>by rw[<-hY2,ct (Ne.symm h1),ct (Ne.symm h2)]
   have hu2:hUnder Y2.length Y2=true:=by
    rw[<-hY2];simp only[gz];refine Go.Abs.qh (Go.Abs.qh S1.und rfl) ?_;simp[AObj.under,lj,AV.under];omega
   have S2:SysI H procs p txns Y2 ks (l.map (qc p txns m)) F1 P0 E0:=S1.cols af
    af (by rw[ho2 _ aa aa];exact S1.hpa) (by rw[ho2 _ aa aa];exact S1.hx) (λj hj h1 h2 h3 h4=>ho2 j h1 aa) aa hu2
   have nh:Y2[X.length+1]?=some (.cells f.c):=af;obtain⟨Y3,hY3⟩:∃Y3,(Y2.set (H.length+6) (.arr 34 1 (P1.map iR))).set (H.length+2) (.cells (syI procs p txns H.length (.own (H.length+5) (m+1)) (.own (H.length+6) (m+1)) (.own (H.length+7) (m)) (.own (H.length+3) ks.length) (.own (H.length+4) 0)))=Y3:=⟨_,rfl⟩
   have hl3:Y3.length=X.length+2:=af;have ho3:∀j,j≠H.length+2->j≠H.length+6->Y3[j]?=Y2[j]?:=λj h1 h2=>by rw[<-hY3,ct (Ne.symm h1),ct (Ne.symm h2)]
   have hu3:hUnder Y3.length Y3=true:=by
    rw[<-hY3];simp only[gz];refine Go.Abs.qh (Go.Abs.qh S2.und rfl) ?_;simp[AObj.under,lj,AV.under];omega
   have S3:SysI H procs p txns Y3 ks (l.map (qc p txns m)) F1 P1 E0:=S2.cols af
    af af (by rw[ho3 _ aa aa];exact S2.hx) (λj hj h1 h2 h3 h4=>ho3 j h1 aa) aa hu3
   have hc3:Y3[X.length+1]?=some (.cells f.c):=by rw[ho3 _ aa aa];exact nh
   obtain⟨Y4,hY4⟩:∃Y4,(Y3.set (H.length+7) (.arr 34 1 (E1.map iR))).set (H.length+2) (.cells (syI procs p txns H.length (.own (H.length+5) (m+1)) (.own (H.length+6) (m+1)) (.own (H.length+7) (m+1)) (.own (H.length+3) ks.length) (.own (H.length+4) 0)))=Y4:=⟨_,rfl⟩
   have hl4:Y4.length=X.length+2:=af;have ho4:∀j,j≠H.length+2->j≠H.length+7->Y4[j]?=Y3[j]?:=λj h1 h2=>by rw[<-hY4,ct (Ne.symm h1),ct (Ne.symm h2)]
   have hu4:hUnder Y4.length Y4=true:=by
    rw[<-hY4];simp only[gz];refine Go.Abs.qh (Go.Abs.qh S3.und rfl) ?_;simp[AObj.under,lj,AV.under];omega
   have S4:SysI H procs p txns Y4 ks (l.map (qc p txns m)) F1 P1 E1:=S3.cols af
    af af af (λj hj h1 h2 h3 h4=>ho4 j h1 aa) aa hu4
   have hc4:Y4[X.length+1]?=some (.cells f.c):=by rw[ho4 _ aa aa];exact hc3
   refine AWp.wk (e1:=⟨[(5,.ptr H.length 0),(9,.ptr (H.length+2) 0),(12,I m),(14,.ptr (X.length+1) 0),(55,.slice (txns.map Txn.c)),(56,I txns.length),(57,I m)],Y2⟩) ((Wk.mk af (by rw[<-hY2,eF1];simp only[eg];exact hwk.refl _) hu2 qe3)) ?_;have hY2s:=S2.hs;have hY2f:=S2.hpa;have hY2p:=S2.hp;rw[lF1,lP0,lE0]at hY2s;have tk:∀Z,(Y2.set (H.length+6) Z)[H.length+2]?=Y2[H.length+2]?:=λZ=>ct aa;refine qer 10 9 [0] mixed ae ?_;simp-dsimp[go_sem,hN,hY2s,hY2f,hY2p,tk,nh,lP0];refine m6 (xf0 p f) ac ?_;simp-dsimp[go_sem,hN,hY2s,hY2f,hY2p,tk,nh,lP0];refine⟨aa,?_⟩;refine AWp.wk (e1:=⟨[(5,.ptr H.length 0),(9,.ptr (H.length+2) 0),(12,I m),(14,.ptr (X.length+1) 0),(55,.slice (txns.map Txn.c)),(56,I txns.length),(57,I m)],Y3⟩) ((Wk.mk af ca hu3 qe3)) ?_;have hY3s:=S3.hs;have hY3f:=S3.hx;have hY3p:=S3.hp;rw[lF1,lP1,lE0]at hY3s;have hs3:∀Z,(Y3.set (H.length+7) Z)[H.length+2]?=Y3[H.length+2]?:=λZ=>ct aa;refine qer 10 9 [0] mixed ae ?_;simp-dsimp[go_sem,hN,hY3s,hY3f,hY3p,hs3,hc3,lE0];refine m6 (xm5 p f) ac ?_;have hs4:∀Z W,((Y3.set (H.length+7) Z).set (H.length+2) W)[H.length+2]?=some W:=λZ W=>du az;have hq4:∀Z W,((Y3.set (H.length+7) Z).set (H.length+2) W)[H.length+3]?=some (.oarr 97 1 (ks.map λk=>[.ptr k.c 0])):=λZ W=>by
    rw[ct aa,ct aa];exact S3.hq
   have hkl:ks.length=l.length:=by rw[S.len];simp
   simp-dsimp[go_sem,hN,hY3s,hY3f,hY3p,hs3,hc3,lE0,hs4,hq4];refine⟨aa,?_⟩;refine td (α:=g9) ks.length (λn Z=>SysI H procs p txns Z ks ((l.take n).map (qc p txns (m+1))++(l.drop n).map (qc p txns m)) F1 P1 E1/\Z[X.length+1]?=some (.cells f.c)) (λn Z=>⟨[(5,.ptr H.length 0),(9,.ptr (H.length+2) 0),(12,I m),(14,.ptr (X.length+1) 0),(55,.slice (txns.map Txn.c)),(56,I txns.length),(57,I m),(105,.own (H.length+3) ks.length),(106,I ks.length),(107,I n)],Z⟩) Y4 ⟨by simpa using S4,hc4⟩ (Wk.mk af ca hu4 qe3) ?_;clear hY1s hY1f sj hY2s hY2f hY2p tk hY3s hY3f hY3p hs3 hs4 hq4 S1 S2 S3 S4;rintro n Z hn ⟨SZ,hZc⟩;have hwn:=jj hn aa;have hbZ:=SZ.big;have hZo:=SZ.hs;have hxl:=(cm.1 hZc).1;have hZq:=SZ.hq;have hZp:=SZ.hp;simp-dsimp[go_sem,hN];refine ii ?_ ?_<;>intro hd<;>simp at hd
   .have hdl:n<l.length:=aa;have vl:ks[n]?=some ks[n]:=cu hd;obtain⟨k,hk⟩:∃k,ks[n]=k:=⟨_,rfl⟩
    rw[hk]at vl;obtain⟨x,hx⟩:∃x,l[n]=x:=⟨_,rfl⟩
    have hxg:((l.take n).map (qc p txns (m+1))++(l.drop n).map (qc p txns m))[n]?=some (qc p txns m x):=ca;have kn:∀y,((l.take n).map (qc p txns (m+1))++(l.drop n).map (qc p txns m)).set n y=(l.take n).map (qc p txns (m+1))++y::(l.drop (n+1)).map (qc p txns m):=λy=>by simp_all[fk,fe,qi5]
    have hnx:(l.take (n+1)).map (qc p txns (m+1))++(l.drop (n+1)).map (qc p txns m)=(l.take n).map (qc p txns (m+1))++qc p txns (m+1) x::(l.drop (n+1)).map (qc p txns m):=by grind[ec,dn]
    have N:=SZ.nd n k _ vl hxg;have hZk:=N.hc;have rh:m<P1.length:=aa;have hpg:P1[m]=l9 p f:=af;have htk:=xs1 (H:=Z) (o:=H.length+2) (k:=k.c) (t:=m) (n:=x.node) (L:=P1) SZ.hs (.inr ⟨_,by rw[eo],SZ.hpa⟩) hZk rh;rw[hpg]at htk;simp-dsimp[go_sem,hN,hZq,hd,hk];refine iy htk ?_;rintro r h' ⟨rfl,hZh⟩;rw[hZh];clear hZh h';simp-dsimp[go_sem,hN];refine ii (λhg=>?_) (λhg=>?_)
    .have mw:p6 (l9 p (jn txns m)) x.node=true:=by rw[qt5 hc,ht,hf];exact hg
     have hpr:vy p txns x.node m=qrb p f x.node:=by simp_all[qt5,vy]
     have hreq:=jd4 (txns:=txns) hp x.node (m:=m) aa mw;rw[hpr]at hreq;have hZk':Z[k.c]?=some (.cells [I x.node,.slice (x.prs.map Pr.c),.slice ((rz p txns x.node m).glob.map LReq.c),.slice ((rz p txns x.node m).qs.map LQ.c),.own k.ib 0,.own k.sd txns.length,.own k.xd txns.length]):=by simp_all[ndC,qc,List.length_replicate,ed]
     have hkl:=N.lt;obtain⟨Z1,hZ1⟩:∃Z1,Z.set k.c (.cells [I x.node,.slice (x.prs.map Pr.c),.slice ((rz p txns x.node (m+1)).glob.map LReq.c),.slice ((rz p txns x.node (m+1)).qs.map LQ.c),.own k.ib 0,.own k.sd txns.length,.own k.xd txns.length])=Z1:=⟨_,rfl⟩
     have hlZ1:Z1.length=Z.length:=af;have huZ1:hUnder Z1.length Z1=true:=by
      rw[<-hZ1];simp only[gz];refine Go.Abs.qh SZ.und ?_;simp[AObj.under,lj,AV.under];omega
     have SZ1:SysI H procs p txns Z1 ks ((l.take (n+1)).map (qc p txns (m+1))++(l.drop (n+1)).map (qc p txns m)) F1 P1 E1:=by
      have:=SZ.upN (X':=Z1) (T:=rz p txns x.node (m+1)) vl hxg (λj _ h1=>by rw[<-hZ1];exact ct (Ne.symm h1)) af aa huZ1;rw[kn]at this;rw[hnx];exact this
     have hcZ1:Z1[X.length+1]?=some (.cells f.c):=by
      rw[<-hZ1,ct (λe=>by rw[e,hZc]at hZk';simp[Foot.c]at hZk')];exact hZc
     simp-dsimp[go_sem,hN];refine xeb 21 mixed ae ?_;simp-dsimp[go_sem,hN,hZk',hZp,hZc,Foot.c];refine m6 (jc8 p f x.node) ac ?_;simp-dsimp[go_sem,hN,LT.c];refine m6 hreq ac ?_;simp-dsimp[go_sem,hN,LT.c,hZk',hwn];refine⟨by simp[qq6,List.zipIdx];exact⟨ae,.inr ae,.inr ae,ae⟩,?_⟩;refine⟨hd,Z1,⟨by rw[<-gd,<-qjo];exact SZ1,hcZ1⟩,Wk.mk af ca huZ1 (by simp[go_sem,hwn];omega)⟩
    .have htm:rz p txns x.node (m+1)=rz p txns x.node m:=by
      rw[rz,if_neg (by grind[qt5])]
     have qsj:qc p txns (m+1) x=qc p txns m x:=by grind[qc]
     simp-dsimp[go_sem,hN,hwn];refine⟨hd,Z,⟨?_,hZc⟩,Wk.mk af (hwk.refl _) SZ.und (by simp[go_sem,hwn];omega)⟩;rw[<-gd,<-qjo,hnx,qsj,<-kn,qcf hxg];exact SZ
   .have hn3:n=ks.length:=aa;subst hn3;have hdr:l.drop ks.length=[]:=cq aa;have htk2:l.take ks.length=l:=fw aa;rw[hdr,htk2,fc,ej]at SZ;simp-dsimp[go_sem,hN,hw];refine⟨hc,Z,?_,Wk.mk af (hwk.refl _) SZ.und qe3⟩;rw[<-gd,<-gd,<-gd,s9,hP1,hE1];exact SZ
 .have xv:m=txns.length:=aa;subst xv;rw[gw]at S;simp-dsimp[go_sem,hN];refine⟨_,.refl _,X,by simp[AV.under,lj];omega,hwk.refl _,aa,S.und,rfl,ks,?_⟩;have e1:(txns.map λt=>l9 p (oe t))=zt p txns:=rfl;have e2:(txns.map λt=>ma p (oe t))=qk8 p txns:=rfl;rw[<-e1,<-e2];exact S
theorem xz5(hp:jy p=true)(hl:l.length<=16)(hT:txns.length<=1048576) :
  ACalls prog 30 [.slice (procs.map Proc.c),.agg p.c,.slice (l.map Shard.c),.slice (txns.map Txn.c)] H λr h'=>∃o q ef tr ks,r=.ret (.ptr o 0)/\SysH H.length procs p txns h' o q ef tr ks (vt p txns l)/\∀j,j<H.length->h'[j]?=H[j]?:=by
 refine jcw (xw4 hp hl hT) λr h1 hr=>?_;obtain⟨rfl,ks,S⟩:=hr;obtain⟨X',S',ho,hw⟩:=S.fin;exact⟨X',⟨_,_,_,_,ks,rfl,S',ho⟩,hw⟩
end
end Go.Proofs.YtolejdhnnchfpaaGreatDoor
