/- Part 42 of a proof. -/
import Derived.Shelf.Slices.Delete
import Derived.Test.YtolejdhnnchfpaaGreatDoorQ40
set_option linter.all false
set_option maxRecDepth 8000
set_option maxHeartbeats 4000000
namespace Go.Proofs.YtolejdhnnchfpaaGreatDoor
open Go Go.Abs Go.Cw Go.Proofs.Tryz
section
variable {B:Nat} {procs:List Proc} {p:Plc} {txns:List Txn} {H H':g9} {o q ef tr:Nat} {ks:List NK} {σ:Sy}
def qn3(o:Nat):Cw.Act->List AV
 | .send i t=>[.fn (.func 60) [P0 o] [],I i,I t]
 | .dlv i=>[.fn (.func 61) [P0 o] [],I i,I 0]
 | .exe i t=>[.fn (.func 64) [P0 o] [],I i,I t]
theorem jkp{o n:Nat}(h:o<n)(a:Cw.Act):lj n (qn3 o a)=true:=by
 cases a<;>simp[qn3,lj,AV.under,h]
structure ActX(H:g9)(o:Nat)(X:List Cw.Act->g9):Prop where
 len:∀al,(X al).length=H.length+1
 und:∀al,hUnder (H.length+1) (X al)=true
 row:∀al,(X al)[H.length]?=some (.oarr 89 3 (al.map (qn3 o)))
 set:∀al a,(X al).set H.length (.oarr 89 3 (al.map (qn3 o)++[qn3 o a]))=X (al++[a])
 old:∀al j,j<H.length->(X al)[j]?=H[j]?
 eq:∀al,H++[.oarr 89 3 (al.map (qn3 o))]=X al
theorem jbo(H:g9){o:Nat}(ho:o<H.length)(hu:hUnder H.length H=true):∃X,ActX H o X:=by
 refine⟨λal=>H++[.oarr 89 3 (al.map (qn3 o))],λal=>by simp,λal=>?_,λal=>by simp,λal a=>by simp,λal j hj=>co hj,λ_=>rfl⟩;rw[tj hu];simp only[hUnder,qi1,List.all_nil,fa,AObj.under,dr,cy];rintro r ⟨a,_,rfl⟩;exact jkp aa a
theorem jae(S:SysH B procs p txns H o q ef tr ks σ)(hn:σ.nds.length<=16)(hT:txns.length<=1073741824)(htr:σ.tr.length<=17179869184)(hnd:∀x∈σ.nds,x.sent.length=txns.length/\x.exd.length=txns.length/\x.tab.glob.length+qz x.tab.qs<68719476736) :
  ACalls prog 31 [P0 o] H λr h'=>r=.ret (.own H.length (wc p txns σ).length)/\h'=H++[.oarr 89 3 ((wc p txns σ).map (qn3 o))]:=by
 refine re func31 rfl ae ac ?_;intro E hN hh hu hb iq ju;rw[ntmps31]at hN;refine jo _ _ _ ?_;obtain⟨l1,l2,l3,l4⟩:=S.lt;obtain⟨X,hX⟩:=jbo H l1 hu;have qsp:2 * (σ.nds.length * txns.length)+σ.tr.length<68719476736:=by
  have:=qjh hn hT;omega
 have hSo:∀al,(X al)[o]?=some (.cells (syC procs p txns q ef tr σ.nds.length σ.tr.length σ.efs.length)):=λal=>by rw[hX.old _ _ l1];exact S.ho
 have hSq:∀al,(X al)[q]?=some (.oarr 97 1 (ks.map λk=>[.ptr k.c 0])):=λal=>by rw[hX.old _ _ l2];exact S.hq
 have hXl:=hX.len;have hSl:=S.len;have qu6:=S.ho;have hShq:=S.hq;simp-dsimp[go_sem,hN,qu6,hShq,hSl];refine jz σ.nds.length (λ_=>True) (λn=>⟨[(0,P0 o),(3,.own H.length (qqt p txns σ n).length),(14,.own q σ.nds.length),(15,I σ.nds.length),(16,I n)],X (qqt p txns σ n)⟩) trivial ((jh8 E _ 3 89 3 ag).trans ?_) ?_
 .rw[ji4];exact Wk.mk af (by rw[<-hX.eq];exact hwk.refl _) bp qey
 intro n hn1 _;have hw:=jj hn1 aa;have jm:=xkk (p:=p) (txns:=txns) (σ:=σ) hn1;have hXr:=hX.row;simp-dsimp[go_sem,hN];refine ii ?_ ?_<;>intro hc<;>simp at hc
 .obtain⟨k,hk,N⟩:=S.node hc;have hkl:n<ks.length:=aa;have vl:ks[n]=k:=af;obtain⟨x,hx⟩:∃x,σ.nds[n]=x:=⟨_,rfl⟩
  obtain⟨hxs,tc,hxt⟩:=hnd _ (dk hc);rw[hx]at N hxs tc hxt;obtain⟨lk1,lk2,lk3,lk4⟩:=N.lt;have hXc:∀al,(X al)[k.c]?=some (.cells (ndC x k)):=λal=>by rw[hX.old _ _ lk1];exact N.hc
  have hXd:∀al,(X al)[k.sd]?=some (.uarr 4 1 (x.sent.map qqf)):=λal=>by rw[hX.old _ _ lk3];exact N.hs
  simp-dsimp[go_sem,hN,hSo,hSq,hkl,vl,hSl,hc];refine jz txns.length (λ_=>True) (λm=>⟨[(0,P0 o),(3,.own H.length (qow p txns σ n x m).length),(4,I n),(5,P0 k.c),(14,.own q σ.nds.length),(15,I σ.nds.length),(16,I n),(25,I txns.length),(26,I m)],X (qow p txns σ n x m)⟩) trivial ?_ ?_
  .rw[jg7];exact Wk.mk af (hwk.refl _) bp qey
  intro m hm1 _;have hwm:=jj hm1 aa;have hlQ:=jdv (p:=p) (txns:=txns) (σ:=σ) hc x hm1;simp-dsimp[go_sem,hN];refine ii ?_ ?_<;>intro hd<;>simp at hd
  .have rh:m<(zt p txns).length:=by rw[xv0];exact hd
   have hpg:=xz0 (p:=p) hd rh;have htk:=λal=>xs1 (H:=X al) (o:=o) (k:=k.c) (t:=m) (n:=x.node) (L:=zt p txns) (hSo al) (.inl rfl) (hXc al) rh;simp only[hpg]at htk;have hgr:=xz3 x.tab m hxt;simp-dsimp[go_sem,hN];refine iy (htk _) ?_;rintro r h' ⟨rfl,rfl⟩;simp-dsimp[go_sem,hN,hXc,hXd,hxs,hd,LT.c,qqf];refine kq hgr ac ?_;have hcan:qll p txns x m=(p6 (l9 p (jn txns m)) x.node&&!x.sent[m]&&grS x.tab m):=by grind[cu,qll]
   have hsq:=xwo (p:=p) (txns:=txns) (σ:=σ) n x m;have hsn:(qow p txns σ n x (m+1)).length<=68719476736:=af;simp-dsimp[go_sem,hN];refine ii (λhg=>?_) (λhg=>?_)
   .have jp:qll p txns x m=true:=qgq;rw[if_pos jp]at hsq;rw[hsq]at hsn|-;simp only[c7,fx]at hsn;have hXs:=hX.set (qow p txns σ n x m) (.send n m);simp-dsimp[go_sem,hN,hXr];exact⟨aa,hd,Wk.mk af qhf bp qhj⟩
   .have jp:qll p txns x m=false:=qgq;rw[jp,if_neg ac,ej]at hsq;rw[hsq];simp-dsimp[go_sem,hN,hwm];exact⟨aa,Wk.mk af (hwk.refl _) bp qey⟩
  .have hm:m=txns.length:=aa;subst hm;simp-dsimp[go_sem,hN,hw];rw[jct hc,hx];exact⟨aa,Wk.mk af (hwk.refl _) bp qey⟩
 have hn:n=σ.nds.length:=aa;subst hn;have hSt:∀al,(X al)[tr]?=some (.uarr 162 5 (σ.tr.map Mail.c)):=λal=>by rw[hX.old _ _ l4];exact S.ht
 rw[jdm];simp-dsimp[go_sem,hN,hSo,hSt];refine jz σ.tr.length (λ_=>True) (λm=>⟨[(0,P0 o),(3,.own H.length (qpw p txns σ m).length),(65,I σ.tr.length),(66,I m)],X (qpw p txns σ m)⟩) trivial (Wk.mk af (hwk.refl _) bp qey) ?_;intro m hm1 _;have hwm:=jj hm1 aa;simp-dsimp[go_sem,hN];refine ii ?_ ?_<;>intro hd<;>simp at hd
 .have hsq:=jca (p:=p) (txns:=txns) (σ:=σ) m;have hsn:=jla (p:=p) (txns:=txns) (σ:=σ) (m:=m+1) hd;rw[hsq]at hsn;simp only[c7,fx]at hsn;have hXs:=hX.set (qpw p txns σ m) (.dlv m);simp-dsimp[go_sem,hN,hXr];rw[hsq];exact⟨aa,hd,Wk.mk af qhf bp qhj⟩
 have hm:m=σ.tr.length:=aa;subst hm;rw[jdt];simp-dsimp[go_sem,hN,hSo,hSq,hSl];refine jz σ.nds.length (λ_=>True) (λn=>⟨[(0,P0 o),(3,.own H.length (qrs p txns σ n).length),(80,.own q σ.nds.length),(81,I σ.nds.length),(82,I n)],X (qrs p txns σ n)⟩) trivial (Wk.mk af (hwk.refl _) bp qey) ?_;intro n hn1 _;have hw:=jj hn1 aa;simp-dsimp[go_sem,hN];refine ii ?_ ?_<;>intro hc<;>simp at hc
 .obtain⟨k,hk,N⟩:=S.node hc;have hkl:n<ks.length:=aa;have vl:ks[n]=k:=af;obtain⟨x,hx⟩:∃x,σ.nds[n]=x:=⟨_,rfl⟩
  obtain⟨hxs,tc,hxt⟩:=hnd _ (dk hc);rw[hx]at N hxs tc hxt;obtain⟨lk1,lk2,lk3,lk4⟩:=N.lt;have hXc:∀al,(X al)[k.c]?=some (.cells (ndC x k)):=λal=>by rw[hX.old _ _ lk1];exact N.hc
  have hXx:∀al,(X al)[k.xd]?=some (.uarr 4 1 (x.exd.map qqf)):=λal=>by rw[hX.old _ _ lk4];exact N.hx
  have pn:∀al,(X al)[k.ib]?=some (.arr 162 5 (x.inbox.map Mail.c)):=λal=>by rw[hX.old _ _ lk2];exact N.hi
  simp-dsimp[go_sem,hN,hSo,hSq,hkl,vl,hSl,hc];refine jz txns.length (λ_=>True) (λm=>⟨[(0,P0 o),(3,.own H.length (qo8 p txns σ n x m).length),(8,I n),(9,P0 k.c),(80,.own q σ.nds.length),(81,I σ.nds.length),(82,I n),(91,I txns.length),(92,I m)],X (qo8 p txns σ n x m)⟩) trivial ?_ ?_
  .rw[xu6];exact Wk.mk af (hwk.refl _) bp qey
  intro m hm1 _;have hwm:=jj hm1 aa;simp-dsimp[go_sem,hN];refine ii ?_ ?_<;>intro hd<;>simp at hd
  .have rh:m<(qk8 p txns).length:=by rw[xki];exact hd
   have hpg:=xf5 (p:=p) hd rh;have htk:=λal=>xoc (H:=X al) (o:=o) (k:=k.c) (t:=m) (n:=x.node) (L:=qk8 p txns) (hSo al) (.inl rfl) (hXc al) rh;simp only[hpg]at htk;have hft:=qt5 hd;have lw:=jcc p (jn txns m) m x.node x.inbox;have hcan:qmx p txns x m=(p6 (ma p (jn txns m)) x.node&&!x.exd[m]&&qr4 p (jn txns m) m x.node x.inbox):=by grind[cu,qmx]
   rw[hft]at lw hcan;rw[hft]at htk;have hsq:=jiz (p:=p) (txns:=txns) (σ:=σ) n x m;have hsn:(qo8 p txns σ n x (m+1)).length<=68719476736:=by grind[jfz]
   simp-dsimp[go_sem,hN];refine qw5 36 3 [] mixed ae ?_;simp-dsimp[go_sem,hN];refine qyx (htk _) ?_;simp-dsimp[go_sem,hN,hSo,hXc,hXx,pn,tc,hd,qqf];refine kq lw ac ?_;simp-dsimp[go_sem,hN];refine ii (λhg=>?_) (λhg=>?_)
   .have jp:qmx p txns x m=true:=qgq;rw[if_pos jp]at hsq;rw[hsq]at hsn|-;simp only[c7,fx]at hsn;have hXs:=hX.set (qo8 p txns σ n x m) (.exe n m);simp-dsimp[go_sem,hN,hXr];exact⟨aa,hd,Wk.mk af qhf bp qhj⟩
   .have jp:qmx p txns x m=false:=qgq;rw[jp,if_neg ac,ej]at hsq;rw[hsq];simp-dsimp[go_sem,hN,hwm];exact⟨aa,Wk.mk af (hwk.refl _) bp qey⟩
  .have hm:m=txns.length:=aa;subst hm;simp-dsimp[go_sem,hN,hw];rw[jc2 hc,hx];exact⟨aa,Wk.mk af (hwk.refl _) bp qey⟩
 have hn:n=σ.nds.length:=aa;subst hn;rw[jkr];simp-dsimp[go_sem,hN,hXr];exact⟨_,.refl _,X (wc p txns σ),by simp[AV.under,lj,hXl],hwk.refl _,by simp[hXl],bp,rfl,(hX.eq _).symm⟩
end
end Go.Proofs.YtolejdhnnchfpaaGreatDoor
set_option maxRecDepth 4000
set_option maxHeartbeats 2000000
namespace Go.Proofs.YtolejdhnnchfpaaGreatDoor
open Go Go.Abs Go.Cw
end Go.Proofs.YtolejdhnnchfpaaGreatDoor
namespace Go.Proofs.YtolejdhnnchfpaaGreatDoor
open Go Go.Abs Go.Cw Go.Proofs.Tryz
section
theorem xwp{tT:TypeId}{tx:Nat×Nat}{g:Nat}{f:FuncId}{args:List AV}{r:AV}{h:g9}(H:∀h,h[g]?=some (rn tT tx)->ACalls prog f args h λe h'=>e=.ret r/\h'=h)(hg:h[g]?=some (rn tT tx)):qxr prog f args r h:=λh' hs=>H h' (hs g _ rfl hg)
variable {tT:TypeId} {tx:Nat×Nat} {g:Nat}
end
end Go.Proofs.YtolejdhnnchfpaaGreatDoor
set_option maxRecDepth 8000
set_option maxHeartbeats 4000000
namespace Go.Proofs.YtolejdhnnchfpaaGreatDoor
open Go Go.Abs Go.Cw Go.Proofs.Tryz
section
variable {B:Nat} {procs:List Proc} {p:Plc} {txns:List Txn} {H H':g9} {o q ef tr:Nat} {ks:List NK} {σ:Sy}
variable {tT:TypeId} {tx:Nat×Nat} {g:Nat}
theorem jgm(S:SysH B procs p txns H o q ef tr ks σ)(hp:jy p=true)(hg:H[g]?=some (rn tT tx))(hgB:g<B){i t:Nat}(hi:i<σ.nds.length)(ht:t<txns.length)(ij:t<σ.nds[i].exd.length)(hee:t<σ.efs.length)
  (mw:σ.nds[i].node∈ma p (jn txns t)) {L:Nat} (hL:∀m∈uj t σ.nds[i].node σ.nds[i].inbox,m.prs.length<=L) (hM:((uj t σ.nds[i].node σ.nds[i].inbox).length+1) * L<68719476736)
  (hC:(u3 t σ.nds[i].node σ.nds[i].inbox).1.length<=60000000000) (hI:∀p',qo7 procs txns[t]=some p'->RunIn ku p' txns[t].args (u3 t σ.nds[i].node σ.nds[i].inbox).1)
  (hA:σ.nds[i].prs.length+(ru ku procs (u3 t σ.nds[i].node σ.nds[i].inbox).1 txns[t]).2.writes.length<68719476736)
  (hv:qlz σ.nds[i].tab=true) (hl:σ.nds[i].tab.glob.length<68719476736) (hq:σ.nds[i].tab.qs.length<68719476736) (hr:∀x∈σ.nds[i].tab.qs,x.reqs.length<68719476736) :
  ACalls prog 64 [P0 o,I i,I t] H λr h'=>r=.ret (.tuple [])/\SysH B procs p txns h' o q ef tr ks (p7 ku procs p txns σ (.exe i t))/\(∀j,j<B->h'[j]?=H[j]?):=by
 have qxc:=ji2 t σ.nds[i].node σ.nds[i].inbox L hL hM;have nj:=λX hX=>jcr (g:=g) (tT:=tT) (tx:=tx) procs (u3 t σ.nds[i].node σ.nds[i].inbox).1 txns[t] X hX hI hC;obtain⟨C,hCe⟩:∃C,u3 t σ.nds[i].node σ.nds[i].inbox=C:=⟨_,rfl⟩
 rw[hCe]at qxc hC hI nj hA;obtain⟨e,hE⟩:∃e,(ru ku procs C.1 txns[t]).2=e:=⟨_,rfl⟩
 have hd:p7 ku procs p txns σ (.exe i t)=⟨σ.nds.set i (qj ku procs p σ.nds[i] t e),σ.tr,if (ma p (jn txns t)).head?=some σ.nds[i].node then σ.efs.set t e else σ.efs⟩:=by
  simp only[p7,cu hi,cu ht,hCe,hE];rfl
 rw[hd];obtain⟨k,hk,N⟩:=S.node hi;have hx:σ.nds[i]?=some σ.nds[i]:=cu hi;obtain⟨x,tc⟩:∃x,σ.nds[i]=x:=⟨_,rfl⟩
 rw[tc]at hx N ij mw qxc hA hv hl hq hr|-;rw[hE]at hA;simp only[hE]at nj;have how:=xka p e.writes x.node hp;have ou:i<ks.length:=af;have vl:ks[i]=k:=af;have qu6:=S.ho;have hSq:=S.hq;have hSl:=S.len;obtain⟨nk1,nk2,nk3,nk4⟩:=S.nn hk hx hk hx;obtain⟨lk1,lk2,lk3,lk4⟩:=N.lt;obtain⟨x1,hx1⟩:∃x1:Nd,x1=⟨x.node,x.prs,x.tab,x.inbox,x.sent,x.exd.set t true⟩:=⟨_,rfl⟩
 obtain⟨H1,hH1⟩:∃H1,H1=H.set k.xd (.uarr 4 1 ((x.exd.map qqf).set t [.val (.bool true)])):=⟨_,rfl⟩
 have qpm:∀j,j≠k.xd->H1[j]?=H[j]?:=λj hj=>by rw[hH1,ct (Ne.symm hj)]
 have N1:NdH H1 k x1:=by
  rw[hx1];refine⟨?_,?_,?_,?_⟩
  .rw[qpm _ nk1.2.2,N.hc];simp
  .rw[qpm _ nk2.2.2,N.hi]
  .rw[qpm _ nk3.2.2,N.hs]
  .rw[hH1,du lk4,qiz];rfl
 have S1:=S.upN (H':=H1) hk hx (λj _ _ _ _ h4=>qpm j h4) N1;have yb:H1.length=H.length:=af;have hS1o:=S1.ho;have hS1e:=S1.he;have hte:t<(qk8 p txns).length:=by grind[xki]
 have hexg:=xf5 (p:=p) ht hte;have hxl:0<(ma p (jn txns t)).length:=qj2 mw;obtain⟨l1,l2,l3,l4⟩:=S1.lt;obtain⟨ne1,ne2,ne3,ne4,ne5,ne6⟩:=S1.ne;have zp:∀X:g9,(H1++X)[g]?=some (rn tT tx):=λX=>by
  have h2:=S.lk k (cv hk);have v7:g<H.length:=(cm.1 hg).1;rw[co aa,qpm _ aa];exact hg
 have hg0:H1[g]?=some (rn tT tx):=by simpa using zp []
 have hN1c:=N1.hc;have hN1i:=N1.hi;rw[hx1]at hN1c hN1i;refine re func64 rfl ae ac ?_;intro E hN hh hu hb iq ju;rw[ntmps64]at hN;refine jo _ _ _ ?_;have hu1:hUnder H.length H1=true:=by rw[hH1];exact Go.Abs.qh hu rfl
 simp-dsimp[go_sem,hN,qu6,hSq,N.hc,N.hx,hi,ou,vl,ij,hSl,qqf];rw[<-hH1];refine jt 15 mixed ae ae ?_;simp-dsimp[go_sem,hN,hN1c,hN1i];refine m6 qxc ac ?_;simp-dsimp[go_sem,hN,hS1o,ht];refine jt 18 mixed ae ae ?_;simp-dsimp[go_sem,hN,hS1o,ht,Txn.c];refine xjo (λ_=>xwp (λh hg=>nj h hg) hg0) ac ?_;simp-dsimp[go_sem,hN,Eff.c,yb];obtain⟨H4,hH4⟩:∃H4,H1++[AObj.cells e.c]=H4:=⟨_,rfl⟩
 have hl4:H4.length=H.length+1:=af;have S4:=S1.up0 (H':=H4) λj hj=>by rw[<-hH4];exact co hj
 have hc4:H4[H.length]?=some (.cells e.c):=af;have hu4:hUnder (H.length+1) H4=true:=by
  rw[<-hH4,<-yb,tj af];simp[hUnder,Eff.c,AObj.under,AV.under,lj]
 have hf4:∀j,j<B->H4[j]?=H[j]?:=λj hj=>by
  have h2:=S.lk k (cv hk);rw[<-hH4,co aa,qpm _ aa]
 have hS4o:=S4.ho;have hS4e:=S4.he;have hN4:=S4.nd i k x1 hk (du hi);have hN4c:=hN4.hc;rw[hx1]at hN4c;refine jt 14 mixed ae ae ?_;have hH4':H1++[AObj.cells [I e.status,I e.code,AV.slice (e.out.map V.c),AV.slice (e.reads.map ja),AV.slice (e.puts.map ja),AV.slice (e.writes.map Pr.c),Cw.S e.miss,I e.steps]]=H4:=hH4;simp only[hH4'];simp-dsimp[go_sem,hN,hS4o,hN4c,hte,hexg,hxl];have hefl:ef<H.length:=aa;have hc4':∀Y,(H4.set ef Y)[H.length]?=some (.cells e.c):=λY=>by rw[ct aa];exact hc4
 have hhd:(ma p (jn txns t)).head?=some (ma p (jn txns t))[0]:=by rw[List.head?_eq_getElem?,cu hxl]
 refine ii (λhgc=>?A) (λhgc=>?B)<;>simp at hgc
 case' A =>
  have hF:∃F,F=(if (ma p (jn txns t)).head?=some x.node then σ.efs.set t e else σ.efs)/\F.length=σ.efs.length/\F=σ.efs.set t e:=⟨_,rfl,by split<;>simp,by rw[if_pos af]⟩
  obtain⟨F,hF,uq,w6⟩:=hF;simp-dsimp[go_sem,hN];refine jt 6 mixed ae ae ?_;simp-dsimp[go_sem,hN,hS4o,hS4e,hc4,hc4',hee,Eff.c];obtain⟨H5,hH5⟩:∃H5,H4.set ef (.uarr 82 8 (F.map Eff.c))=H5:=⟨_,rfl⟩
  have hX:H4.set ef (AObj.uarr 82 8 ((σ.efs.map Eff.c).set t [I e.status,I e.code,AV.slice (e.out.map V.c),AV.slice (e.reads.map ja),AV.slice (e.puts.map ja),AV.slice (e.writes.map Pr.c),Cw.S e.miss,I e.steps]))=H5:=by grind[qiz]
  rw[hX];have hl5:H5.length=H.length+1:=af;have S5:SysH B procs p txns H5 o q ef tr ks ⟨σ.nds.set i x1,σ.tr,F⟩:=S4.upE uq af (λj _ h1=>by rw[<-hH5];exact ct (Ne.symm h1));have hc5:H5[H.length]?=some (.cells e.c):=af;have hu5:hUnder (H.length+1) H5=true:=by
   rw[<-hH5];exact Go.Abs.qh hu4 rfl
  have hf5:∀j,j<B->H5[j]?=H[j]?:=λj hj=>by
   rw[<-hH5,ct (by have:=S.lo;omega)];exact hf4 j hj
 case' B =>
  have hF:∃F,F=(if (ma p (jn txns t)).head?=some x.node then σ.efs.set t e else σ.efs)/\F.length=σ.efs.length/\F=σ.efs:=⟨_,rfl,by split<;>simp,by rw[if_neg af]⟩
  obtain⟨F,hF,uq,w6⟩:=hF;simp-dsimp[go_sem,hN,hc4,Eff.c];obtain⟨H5,hH5⟩:∃H5,H4=H5:=⟨_,rfl⟩
  rw[hH5]at hl4 S4 hc4 hu4 hf4;rw[hH5];have hl5:=hl4;have S5:SysH B procs p txns H5 o q ef tr ks ⟨σ.nds.set i x1,σ.tr,F⟩:=af;have hc5:=hc4;have hu5:=hu4;have hf5:=hf4
 all_goals
  have hN5:=S5.nd i k x1 hk (du hi);have hN5c:=hN5.hc;have hS5o:=S5.ho;have hkl5:k.c<H5.length:=aa;rw[<-hF];obtain⟨W,hW⟩:∃W,pq p e.writes x.node=W:=⟨_,rfl⟩
  rw[hW]at how;have hWl:W.length<=e.writes.length:=by rw[<-hW];exact qjv _ _
  have hlkB:=S.lk k (cv hk);have fin:∀P2,P2=(if e.status=1/\jl x.prs=true/\r9 W=true then rx x.prs W else x.prs) ->
    ∃H6,H5.set k.c (.cells [I x.node,.slice (P2.map Pr.c),.slice ((relS x.tab t).glob.map LReq.c),.slice ((relS x.tab t).qs.map LQ.c),.own k.ib x.inbox.length,.own k.sd x.sent.length,.own k.xd x.exd.length])=H6/\SysH B procs p txns H6 o q ef tr ks ⟨σ.nds.set i (qj ku procs p x t e),σ.tr,F⟩/\H6.length=H.length+1/\hUnder (H.length+1) H6=true/\∀j,j<B->H6[j]?=H[j]?:=λP2 hP2=>by
   refine⟨_,rfl,?_,by simp[hl5],?_,λj hj=>?_⟩
   .have:=S5.upN (H':=H5.set k.c (.cells [I x.node,.slice (P2.map Pr.c),.slice ((relS x.tab t).glob.map LReq.c),.slice ((relS x.tab t).qs.map LQ.c),.own k.ib x.inbox.length,.own k.sd x.sent.length,.own k.xd x.exd.length])) (x':=qj ku procs p x t e) hk (du hi) (λj _ h1 _ _ _=>by rw[ct (Ne.symm h1)]) ?_
    .simp_all
    .have he:qj ku procs p x t e=⟨x.node,P2,relS x.tab t,x.inbox,x.sent,x.exd.set t true⟩:=by rw[hP2,<-hW];rfl
     rw[he];have N2:=hN5;rw[hx1]at N2;refine⟨by rw[du hkl5];simp,?_,?_,?_⟩
     .grind
     .rw[ct nk1.2.1];exact N2.hs
     .rw[ct nk1.2.2];exact N2.hx
   .refine Go.Abs.qh hu5 ?_;simp[AObj.under,lj,AV.under];omega
   .grind[ct]
  rw[hx1]at hN5c;refine ii ?_ ?_<;>intro sj<;>simp at sj
  .simp-dsimp[go_sem,hN];refine jt 22 mixed ae ae ?_;simp-dsimp[go_sem,hN,hN5c,hS5o,hc5,Eff.c];refine m6 how ac ?_;simp-dsimp[go_sem,hN];refine m6 (xtn x.prs W aa) ac ?_;by_cases kp:(jl x.prs&&r9 W)=true
   .rw[if_pos kp];simp-dsimp[go_sem,hN,hN5c];refine iy (xd7 (o:=o) (t:=t) (du hkl5) hv hl hq hr) ?_;rintro r h' ⟨rfl,rfl⟩;rw[qi2];simp-dsimp[go_sem,hN];obtain⟨H6,hH6,S6,hl6,hu6,hf6⟩:=fin (rx x.prs W) (by
     rw[cw]at kp;rw[if_pos ⟨sj,kp⟩])
    rw[hH6];exact⟨_,.refl _,_,qez,hwk.refl _,aa,qir,rfl,S6,hf6⟩
   .rw[if_neg kp];simp-dsimp[go_sem,hN];refine iy (xd7 (o:=o) (t:=t) hN5c hv hl hq hr) ?_;rintro r h' ⟨rfl,rfl⟩;simp-dsimp[go_sem,hN];obtain⟨H6,hH6,S6,hl6,hu6,hf6⟩:=fin x.prs (by
     rw[cw]at kp;rw[if_neg (λh=>kp h.2)])
    rw[hH6];exact⟨_,.refl _,_,qez,hwk.refl _,aa,qir,rfl,S6,hf6⟩
  .simp-dsimp[go_sem,hN];refine iy (xd7 (o:=o) (t:=t) hN5c hv hl hq hr) ?_;rintro r h' ⟨rfl,rfl⟩;simp-dsimp[go_sem,hN];obtain⟨H6,hH6,S6,hl6,hu6,hf6⟩:=fin x.prs af;rw[hH6];exact⟨_,.refl _,_,qez,hwk.refl _,aa,qir,rfl,S6,hf6⟩
end
end Go.Proofs.YtolejdhnnchfpaaGreatDoor
set_option maxRecDepth 100000
namespace Go.Proofs.YtolejdhnnchfpaaGreatDoor
open Go Go.Abs Go.Proofs Go.Shelf Go.RowKit Go.Lib Go.Cw Go.Proofs.Tryz
theorem xi6{P:Program}(w:World)(g o:Nat)(t:TypeId)(vs:List Value)(cur:Array Value)(hg:w.heap[g]?=some (.cells cur t (0,0)))(hl:o+vs.length<=cur.size)(h1:∀v∈vs,v.oneCell'=true) :
  w.setCells g o vs=w.setRow g (cur.toList.take o++vs++cur.toList.drop (o+vs.length)).toArray:=by
 have e1:=run_storeCells_at P g o t vs 0 cur w hg aa h1;have e2:=run_storeCells_cells (P:=P) g o vs 0 w (λj hj=>by
  have:o+0+j<cur.size:=aa;have h2:o+j<cur.size:=aa;simp[World.cell?,hg,h2]) (λj hj=>by simp[World.frozen?,hg]) h1
 rw[e1]at e2;simp only[ea]at e2;exact((Result.ok.injEq ..).mp e2).2.symm
abbrev zM:Array Value:=#[.int .i64 0,.int .i64 0,.int .i64 0,.slice none 0 0,.slice none 0 0]
theorem xyo:∃i,prog.info? 162=some i/\i.zero=some (.agg zM)/\i.size=5/\i.bytes=72:=info_parts ae
theorem xrh(n:Nat):∀v∈(Builtin.zeroCells zM n).toList,v.oneCell'=true:=λv hv=>by
 unfold Builtin.zeroCells at hv;rw[Array.toList_map]at hv;obtain⟨q,_,rfl⟩:=cy.1 hv;have hq:q % 5<5:=Nat.mod_lt _ aa;show(zM[q % 5]!).oneCell'=true;generalize q % 5=r at hq
 match r,hq with
 | 0,_=>rfl
 | 1,_=>rfl
 | 2,_=>rfl
 | 3,_=>rfl
 | 4,_=>rfl
theorem jf6(w:World)(g cap n i j:Nat)(cur:Array Value)(hg:w.heap[g]?=some (.cells cur 162 (0,0)))(ng:n<=cap)(lw:cap<=maxLen)(md:cur.size=cap * 5)
  (nj:∀v∈cur.toList.take (n * 5),v.oneCell'=true) (il:i<j) (hj:j<=n) :
  Calls prog 98 #[.slice (some ⟨g,0,none⟩) n cap,.int .i64 i,.int .i64 j] w λe w'=>e=.returned (.slice (some ⟨g,0,none⟩) (n - (j - i)) cap) /\
   w'=(w.drew.setCells g (i * 5) ((cur.toList.drop (j * 5)).take ((n - j) * 5))).setCells g ((i+(n - j)) * 5) (Builtin.zeroCells zM (n - (i+(n - j)))).toList:=by
 have mixed:prog.follows .mixedOrders=true:=ae;obtain⟨i0,hi0,hz0,hz1,hzb⟩:=xyo;have jx:∀w,(Go.sizeOf 162).run prog w=.ok 5 w:=λw=>by simp[Go.sizeOf,typeInfo,hi0,hz1]
 have hm:cap<=9223372036854775807:=lw;obtain⟨news,qpy⟩:∃news,(cur.toList.drop (j * 5)).take ((n - j) * 5)=news:=⟨_,rfl⟩
 have ki:cur.toList.length=cap * 5:=aa;have jm:news.length=(n - j) * 5:=af;have mb:∀q u,cur.toList[q]?=some u->w.drew.cell? ⟨g,q,none⟩=some u:=λq u hu=>by
  have qe:w.drew.heap[g]?=some (.cells cur 162 (0,0)):=hg;rw[fb]at hu;simp[World.cell?,qe,hu]
 obtain⟨A,hA,qoh⟩:∃A:Addr,(if cap=j then some (⟨g,0,none⟩:Addr)else some ⟨g,j * 5,none⟩)=some A/\Hid (∀t u,news[t]?=some u->w.drew.cell? (A.add t)=some u):=by
  by_cases h:cap=j
  .refine⟨⟨g,0,none⟩,bx,λt u hu=>?_⟩;have h0:news.length=0:=aa;rw[qjp.1 h0]at hu;simp at hu
  .refine⟨⟨g,j * 5,none⟩,bx,λt u hu=>?_⟩;rw[Addr.add_lit];rw[<-qpy,dt]at hu;split at hu
   .grind
   .cases hu
 have s1:Hid (news.length=(n - j) * 5):=jm;have tz:∀u∈news,u∈cur.toList.take (n * 5):=λu hu=>by
  rw[<-qpy]at hu;obtain⟨q,hq⟩:=da hu;rw[dt]at hq;split at hq
  .rw[ew]at hq;refine cv (i:=j * 5+q) ?_;rw[dt,if_pos aa];exact hq
  .cases hq
 have s2:Hid (∀u∈news,u.oneCell'=true):=λu hu=>nj u (tz u hu);have s3:Hid (∀t,t<news.length->(w.drew.cell? ⟨g,0+i * 5+t,none⟩).isSome=true/\w.drew.frozen? ⟨g,0+i * 5+t,none⟩=false):=by
  intro t ht;rw[jm]at ht;have hq:0+i * 5+t<cur.toList.length:=aa;refine⟨by rw[mb _ _ (cu hq)];rfl,?_⟩;have qe:w.drew.heap[g]?=some (.cells cur 162 (0,0)):=hg;simp[World.frozen?,qe]
 obtain⟨W1,hW1⟩:∃W1,W1=w.drew.setCells g (0+i * 5) news:=⟨_,rfl⟩
 have zp:W1.heap[g]?=some (.cells (cur.toList.take (0+i * 5)++news++cur.toList.drop (0+i * 5+news.length)).toArray 162 (0,0)):=by
  rw[hW1,xi6 (P:=prog) w.drew g (0+i * 5) 162 news cur hg aa s2];exact setRow_heap w.drew g cur _ 162 (0,0) hg
 obtain⟨Z,hZ⟩:∃Z,(Builtin.zeroCells zM (n - (i+(n - j)))).toList=Z:=⟨_,rfl⟩
 have hZl:Z.length=(n - (i+(n - j))) * 5:=by rw[<-hZ];simp[Builtin.zeroCells]
 have hZ1:∀v∈Z,v.oneCell'=true:=λv hv=>by grind[xrh]
 have hcl2:∀ty,(Builtin.clear_ #[94] ty #[.slice (some ⟨g,(i+(n - j)) * 5,none⟩) (n - (i+(n - j))) (cap - (i+(n - j)))]).run prog W1=.ok (.tuple #[]) (W1.setCells g ((i+(n - j)) * 5) Z):=λty=>by
  have yt:(zeroValue 162).run prog W1=.ok (.agg zM) W1:=ac;have kn:=run_storeCells_cells (P:=prog) g ((i+(n - j)) * 5) Z 0 W1 (λq hq=>by
   have h3:(i+(n - j)) * 5+0+q<(cur.toList.take (0+i * 5)++news++cur.toList.drop (0+i * 5+news.length)).toArray.size:=af;simp only[World.cell?,zp,fi h3];rfl) (λq hq=>by simp[World.frozen?,zp]) hZ1
  simp only[ea]at kn;cases hq:n - (i+(n - j))with
  |zero=>omega
  |succ q =>
   rw[hq]at hZ;simp only[Builtin.clear_];have hZ':(Builtin.zeroCells (Value.agg zM).cells (q+1)).toList=Z:=hZ;simp[ox underlying94,yt,hZ',kn]
 have hW:Hid (W1=w.drew.setCells g (0+i * 5) news):=hW1;have hic:i<=cap:=aa;have hjc:j<=cap:=aa;have X:Aside (∀x:World,x=W1.setCells g ((i+(n - j)) * 5) Z->x=(w.drew.setCells g (i * 5) news).setCells g ((i+(n - j)) * 5) Z):=λx hx=>by grind
 rw[hZ,qpy];clear hW1 zp hg mb tz qpy jm nj hZ hZ1 hZl ki md
 go_enter func98,ntmps98
 go_wp2_with fail
 go_region_law_o (refine step_append_room rfl (.tmp 22) (.tmp 25) 94 rfl 162 i0 5 underlying94 hi0 hz1 g 0 i cap qfi A (n - j) (cap - j) news qfi s1.out qoh.out s2.out aa s3.out ?_;rw[<-hW.out])
 go_wp2
 go_ret
 exact⟨by rw[show n - (j - i)=i+(n - j)by omega];rfl,X.out _ rfl⟩
theorem jhz{h:g9}{i j:Nat}{rows:List (List AV)}(hi:h[i]?=some (.uarr 162 5 rows))(hj:j<rows.length) :
  ACalls prog 98 [.own i rows.length,I j,I (j+1:Nat)] h λr h'=>r=.ret (.own h.length (rows.length - 1))/\h'=h.set i .none++[.uarr 162 5 (rows.eraseIdx j)]:=by
 refine jf1 ⟨_,func98,rfl,ae⟩ hi hj λw g cap cur hh ng lw md nj=>?_;refine(jf6 w g cap rows.length j (j+1) cur hh ng lw md nj aa aa).mono ?_;rintro en w' ⟨rfl,rfl⟩;have ki:cur.toList.length=cap * 5:=aa;obtain⟨n,hn⟩:∃n,rows.length=n:=⟨_,rfl⟩
 rw[hn]at hj ng nj|-;obtain⟨news,qpy⟩:∃news,(cur.toList.drop ((j+1) * 5)).take ((n - (j+1)) * 5)=news:=⟨_,rfl⟩
 have jm:news.length=(n - (j+1)) * 5:=af;have hn1:∀u∈news,u.oneCell'=true:=λu hu=>by
  rw[<-qpy]at hu;obtain⟨q,hq⟩:=da hu;rw[dt]at hq;split at hq
  .rw[ew]at hq;refine nj u (cv (i:=(j+1) * 5+q) ?_);rw[dt,if_pos aa];exact hq
  .cases hq
 obtain⟨Z,hZ⟩:∃Z,(Builtin.zeroCells zM (n - (j+(n - (j+1))))).toList=Z:=⟨_,rfl⟩
 have hZl:Z.length=5:=by rw[<-hZ];simp[Builtin.zeroCells];omega
 have hZ1:∀v∈Z,v.oneCell'=true:=λv hv=>by grind[xrh]
 rw[qpy,hZ];have hd:w.drew.heap[g]?=some (.cells cur 162 (0,0)):=hh;have e1:=xi6 (P:=prog) w.drew g (j * 5) 162 news cur hd aa hn1;obtain⟨c1,hc1⟩:∃c1:Array Value,(cur.toList.take (j * 5)++news++cur.toList.drop (j * 5+news.length)).toArray=c1:=⟨_,rfl⟩
 rw[hc1]at e1;have hc1l:c1.toList=cur.toList.take (j * 5)++news++cur.toList.drop (j * 5+news.length):=af;have hc1s:c1.size=cap * 5:=af;have hh1:(w.drew.setRow g c1).heap[g]?=some (.cells c1 162 (0,0)):=setRow_heap w.drew g cur _ 162 (0,0) hd;have e2:=xi6 (P:=prog) (w.drew.setRow g c1) g ((j+(n - (j+1))) * 5) 162 Z c1 hh1 aa hZ1;obtain⟨c2,nh⟩:∃c2:Array Value,(c1.toList.take ((j+(n - (j+1))) * 5)++Z++c1.toList.drop ((j+(n - (j+1))) * 5+Z.length)).toArray=c2:=⟨_,rfl⟩
 rw[nh]at e2;have hc2l:c2.toList=c1.toList.take ((j+(n - (j+1))) * 5)++Z++c1.toList.drop ((j+(n - (j+1))) * 5+Z.length):=af;have hc1l2:c1.toList.length=cap * 5:=aa;rw[e1,e2];refine⟨by rw[show n - (j+1 - j)=n - 1 by omega],rfl,rfl,rfl,by simp only[World.setRow,Array.size_modify];exact cn _,λb hb _=>?_,c2,setRow_heap _ g c1 _ 162 (0,0) hh1,?_,?_⟩
 .rw[setRow_other _ g b _ hb,setRow_other _ g b _ hb];rfl
 .rw[<-qjy,hc2l];simp only[c7,ey,qi8,hc1l2,hZl];omega
 .have hm:(j+(n - (j+1))) * 5=(n - 1) * 5:=by congr 1;omega
  have hjl:(cur.toList.take (j * 5)).length=j * 5:=af;rw[hc2l,dn,hm,qkb af,List.take_take,Nat.min_self,hc1l,List.take_left' af,<-qpy];congr 2;omega
end Go.Proofs.YtolejdhnnchfpaaGreatDoor
set_option maxRecDepth 8000
namespace Go.Proofs.YtolejdhnnchfpaaGreatDoor
open Go Go.Abs Go.Cw Go.Proofs.Tryz
section
variable {B:Nat} {procs:List Proc} {p:Plc} {txns:List Txn} {H H':g9} {o q ef tr:Nat} {ks:List NK} {σ:Sy}
theorem xzc{α:Type}(f:α->α)(l:List α){n:Nat}(h:n<l.length):((l.take n).map f++l.drop n).set n (f l[n])=(l.take (n+1)).map f++l.drop (n+1):=by
 have hl:((l.take n).map f).length=n:=az;rw[fk _ _ aa,hl,fe,qi5 h,List.set_cons_zero,ec h,eg,dn];rfl
theorem jcf{α:Type}(f:α->α)(l:List α){n:Nat}(h:n<l.length):((l.take n).map f++l.drop n)[n]?=some l[n]:=af
theorem jbb{α β:Type}(f:α->β)(l:List α)(i:Nat):(l.map f).eraseIdx i=(l.eraseIdx i).map f:=by
 simp[List.eraseIdx_eq_take_drop_succ,gd,qjo]
abbrev xcd(m:Mail)(σ:Sy)(i n:Nat):Sy:=⟨(σ.nds.take n).map (r6 m)++σ.nds.drop n,σ.tr.eraseIdx i,σ.efs⟩
theorem jh0(S:SysH B procs p txns H o q ef tr ks σ){i j:Nat}(hi:i<σ.tr.length)(qm:σ.nds.length<=16)(htr:σ.tr.length<=68719476736)(hib:∀x∈σ.nds,x.inbox.length<68719476736) :
  ACalls prog 61 [P0 o,I i,I j] H λr h'=>r=.ret (.tuple [])/\(∃tr2,SysH B procs p txns h' o q ef tr2 ks (p7 ku procs p txns σ (.dlv i)))/\(∀j,j<B->h'[j]?=H[j]?):=by
 have hd:p7 ku procs p txns σ (.dlv i)=⟨σ.nds.map (r6 σ.tr[i]),σ.tr.eraseIdx i,σ.efs⟩:=by
  simp only[p7,cu hi];rfl
 rw[hd];obtain⟨m,hm⟩:∃m,σ.tr[i]=m:=⟨_,rfl⟩
 have qu6:=S.ho;have hSt:=S.ht;obtain⟨l1,l2,l3,l4⟩:=S.lt;obtain⟨ne1,ne2,ne3,ne4,ne5,ne6⟩:=S.ne;have hmc:(σ.tr.map Mail.c)[i]?=some m.c:=af;refine re func61 rfl ae ac ?_;intro E hN hh hu hb iq ju;rw[ntmps61]at hN;refine jo _ _ _ ?_;obtain⟨H1,hH1⟩:∃H1,H++[AObj.cells m.c]=H1:=⟨_,rfl⟩
 have yb:H1.length=H.length+1:=af;have hdel:ACalls prog 98 [.own tr σ.tr.length,I i,I ((i:Int)+1)] H1 λr h'=>r=.ret (.own (H.length+1) (σ.tr.eraseIdx i).length)/\h'=H1.set tr .none++[.uarr 162 5 ((σ.tr.eraseIdx i).map Mail.c)]:=by grind[co,eo,jbb,List.length_eraseIdx_of_lt,jhz]
 have wy:IntKind.i64.wrap ((i:Int)+1)=(i:Int)+1:=qed aa aa;have hSo1:∀l,(H++l)[o]?=some (.cells (syC procs p txns q ef tr σ.nds.length σ.tr.length σ.efs.length)):=λl=>by rw[co l1];exact qu6
 have hSt1:∀l,(H++l)[tr]?=some (.uarr 162 5 (σ.tr.map Mail.c)):=λl=>by rw[co l4];exact hSt
 obtain⟨H3,hH3⟩:∃H3,(H1.set tr AObj.none++[AObj.uarr 162 5 ((σ.tr.eraseIdx i).map Mail.c)]).set o (.cells (syC procs p txns q ef (H.length+1) σ.nds.length (σ.tr.eraseIdx i).length σ.efs.length))=H3:=⟨_,rfl⟩
 have hl3:H3.length=H.length+2:=af;have hot3:∀j,j<H.length->j≠o->j≠tr->H3[j]?=H[j]?:=λj hj h1 h2=>by grind
 have hc3:H3[H.length]?=some (.cells m.c):=af;have S3:SysH B procs p txns H3 o q ef (H.length+1) ks (xcd m σ i 0):=by
  refine S.upT (T:=σ.tr.eraseIdx i) ?_ ?_ (by have:=S.lo.1;omega) hot3
  .grind
  .rw[<-hH3,ct aa,cx (by simp[yb])];simp[yb]
 have hu1:hUnder (H.length+2) H1=true:=by
  rw[<-hH1,tj hu];simp[hUnder,Mail.c,AObj.under,AV.under,lj]
 have hu3:hUnder (H.length+2) H3=true:=by
  rw[<-hH3];refine Go.Abs.qh ?_ ?_
  .rw[qx,Go.Abs.qh hu1 rfl];simp[hUnder,AObj.under]
  .simp[AObj.under,lj,AV.under];omega
 have hf3:∀j,j<B->H3[j]?=H[j]?:=λj hj=>by
  have:=S.lo;exact hot3 j aa aa aa
 simp-dsimp[go_sem,hN,qu6,hSt,hSo1,hSt1,hmc,hm,wy];refine⟨aa,?_⟩;have hH1':H++[AObj.cells [I m.txn,I m.frm,I m.to,AV.slice (m.keys.map ja),AV.slice (m.prs.map Pr.c)]]=H1:=hH1;rw[hH1'];refine iy hdel ?_;obtain⟨H2,hH2⟩:∃H2,H1.set tr AObj.none++[AObj.uarr 162 5 ((σ.tr.eraseIdx i).map Mail.c)]=H2:=⟨_,rfl⟩
 rw[hH2]at hH3;rw[hH2];have hl2:H2.length=H.length+2:=af;have ho2:H2[o]?=some (.cells (syC procs p txns q ef tr σ.nds.length σ.tr.length σ.efs.length)):=af;have hso:∀X,(H2.set o X)[o]?=some X:=λX=>du aa;have hsq:∀X,(H2.set o X)[q]?=some (.oarr 97 1 (ks.map λk=>[.ptr k.c 0])):=λX=>by
  rw[ct (Ne.symm ne1),<-hH2,co af,ct ne5,<-hH1,co l2,S.hq]
 have hSl:=S.len;have hql:q<H.length+2:=aa;rintro r h' ⟨rfl,rfl⟩;simp-dsimp[go_sem,hN,ho2,hso,hsq,hSl];refine td (α:=g9) σ.nds.length (λn X=>SysH B procs p txns X o q ef (H.length+1) ks (xcd m σ i n)/\X[H.length]?=some (.cells m.c)/\(∀j,j<B->X[j]?=H[j]?)/\X.length=H.length+2/\hUnder (H.length+2) X=true) (λn X=>⟨[(6,.ptr H.length 0),(30,.own q σ.nds.length),(31,I σ.nds.length),(32,I n)],X⟩) H3 ⟨S3,hc3,hf3,hl3,hu3⟩ (Wk.mk af (by rw[<-hH3];exact hwk.refl _) af (by simp[go_sem,hl3];omega)) ?_;rintro n X hn ⟨SX,hXc,hXf,hXl,hXu⟩;have hw:=jj hn aa;have hXo:=SX.ho;have hXq:=SX.hq;simp-dsimp[go_sem,hN];refine ii ?_ ?_<;>intro hc<;>simp at hc
 .have hkl:n<ks.length:=by rw[S.len];exact hc
  have vl:ks[n]?=some ks[n]:=cu hkl;obtain⟨k,hk⟩:∃k,ks[n]=k:=⟨_,rfl⟩
  rw[hk]at vl;have hxg:=jcf (r6 m) σ.nds hc;obtain⟨x,hx⟩:∃x,σ.nds[n]=x:=⟨_,rfl⟩
  rw[hx]at hxg;have N:=SX.nd n k x vl hxg;have hXn:=N.hc;have pn:=N.hi;have kn:=xzc (r6 m) σ.nds hc;rw[hx]at kn;simp-dsimp[go_sem,hN,hXq,hkl,hk,hc,hSl];refine jt 7 mixed ae ae ?_;simp-dsimp[go_sem,hN,hXn,hXc,Mail.c];refine ii ?_ ?_<;>intro hg<;>simp at hg
  .have hxl:x.inbox.length<68719476736:=hib x (hx▸dk hc);obtain⟨nk1,nk2,nk3,nk4⟩:=SX.nn vl hxg vl hxg;obtain⟨lk1,lk2,lk3,lk4⟩:=N.lt;have hXn2:∀Y,(X.set k.ib Y)[k.c]?=some (.cells (ndC x k)):=λY=>by rw[ct (Ne.symm nk1.1)];exact hXn
   have hlk:=SX.lk k (cv vl);obtain⟨X1,hX1⟩:∃X1,(X.set k.ib (.arr 162 5 ((x.inbox++[m]).map Mail.c))).set k.c (.cells (ndC (r6 m x) k))=X1:=⟨_,rfl⟩
   have hdx:r6 m x=⟨x.node,x.prs,x.tab,x.inbox++[m],x.sent,x.exd⟩:=by grind[r6]
   have hX1l:X1.length=H.length+2:=af;have km:∀j,j≠k.c->j≠k.ib->X1[j]?=X[j]?:=λj h1 h2=>by rw[<-hX1,ct (Ne.symm h1),ct (Ne.symm h2)]
   have hX1u:hUnder (H.length+2) X1=true:=by
    rw[<-hX1];refine Go.Abs.qh (Go.Abs.qh hXu rfl) ?_;rw[hdx];simp[AObj.under,lj,AV.under];omega
   have hcx:H.length≠k.c/\H.length≠k.ib:=⟨λe=>by rw[<-e,hXc]at hXn;simp[Mail.c,ndC]at hXn,λe=>by rw[<-e,hXc]at pn;cases pn⟩
   have SX1:SysH B procs p txns X1 o q ef (H.length+1) ks (xcd m σ i (n+1)):=by
    have:=SX.upN (H':=X1) (x':=r6 m x) vl hxg (λj _ h1 h2 _ _=>km j h1 h2) ?_
    .grind
    .rw[<-hX1,hdx];refine⟨du af,?_,?_,?_⟩
     .grind
     .rw[ct nk1.2.1,ct nk2.2.1];exact N.hs
     .rw[ct nk1.2.2,ct nk2.2.2];exact N.hx
   refine qer 8 7 [0] mixed ae ?_;simp-dsimp[go_sem,hN,hXn,hXc,pn,hXn2,Mail.c];refine⟨aa,aa,X1,⟨SX1,by rw[km _ hcx.1 hcx.2];exact hXc,λj hj=>by rw[km _ aa aa];exact hXf j hj,hX1l,hX1u⟩,Wk.mk af ?_ af (by simp[go_sem,hX1l,hw];omega)⟩;rw[<-hX1,hdx];simp only[eg,ndC,c7,fx];exact hwk.refl _
  .simp-dsimp[go_sem,hN,hw];have hm:r6 m x=x:=by grind[r6]
   refine⟨aa,X,⟨?_,hXc,hXf,hXl,hXu⟩,?_⟩
   .simp_all[xcd,qcf]
   .exact Wk.mk af (hwk.refl _) af qey
 .simp-dsimp[go_sem,hN];have hn:n=σ.nds.length:=aa;subst hn;refine⟨_,.refl _,X,qez,hwk.refl _,?_,?_,rfl,⟨H.length+1,?_⟩,hXf⟩
  .omega
  .grind
  .grind
end
end Go.Proofs.YtolejdhnnchfpaaGreatDoor
