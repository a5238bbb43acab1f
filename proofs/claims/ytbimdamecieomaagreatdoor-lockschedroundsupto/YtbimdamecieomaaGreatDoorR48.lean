/- Part 48 of a proof. -/
import Derived.Test.YtbimdamecieomaaGreatDoorRows
import Derived.KernelRfl
import Derived.Test.YtbimdamecieomaaGreatDoorCards
import Derived.Test.YtbimdamecieomaaGreatDoorTie
import Derived.ProofKit
import Derived.OpenShut
import Derived.Carry
import Derived.Deep.DeepHandedRow
import Derived.Lib.LaidTab
import Derived.Stop.LaidErr
import Derived.Test.YtbimdamecieomaaGreatDoorR47
set_option linter.all false
set_option maxRecDepth 4000
set_option maxHeartbeats 2000000
namespace Go.Proofs.YtbimdamecieomaaGreatDoor
open Go Go.Abs Go.Cw Go.Proofs.Tryz
theorem jlf(procs:List Proc)(s:List Pr)(l:List Txn)(choices:List Int)(hB:BatchIn jh procs l)(hs:p9 s)(hL:s.length+192 * l.length≤60000000000)(hl:l.length≤1048576) :
  APure prog 9 [.slice (procs.map Proc.c),.slice (s.map Pr.c),.slice (l.map Txn.c),.slice (choices.map iw)] (.tuple [.slice ((nc jh procs s l).1.map Pr.c),.slice ((nc jh procs s l).2.map Eff.c),.slice ((qr6 l choices l.length).map iw)]):=by
 refine qbn func9 rfl ac (by simp[ntmps9]) rfl ?_;intro E h hN hh hu hb;rw[ntmps9]at hN;simp[go_sem]at hb;have hfl:=xcg l;have nk:(nc jh procs s l).2.length=l.length:=qzu l;refine ln (ub ?_);simp[go_sem,hN];refine ln (ub ?_);simp[go_sem,hN];refine zy (e1:=⟨[(0,.slice (procs.map Proc.c)),(1,.slice (s.map Pr.c)),(2,.slice (l.map Txn.c)),(3,.slice (choices.map iw)),(11,P0 h.length)],h++[.cells (ta (kz l) l.length).c]⟩) ?_ ?_
 ·simp-dsimp[go_sem,hN];refine jl l.length (fun n=>True) (fun n=>⟨[(0,.slice (procs.map Proc.c)),(1,.slice (s.map Pr.c)),(2,.slice (l.map Txn.c)),(3,.slice (choices.map iw)),(11,P0 h.length),(12,I n)],h++[.cells (ta (kz l) n).c]⟩) trivial ((xhm E _ (p:=h.length) (xs:=[.nils,.nils]) ae).trans ?_) ?_
  ·exact(Wk.mk bi (by simp[go_sem,ta,LT.c,kc,AV.norm]) (by simp[hu,vf hu,go_sem,ta,LT.c]) af)
  intro n hn _;have hw:=iv hn (show _≤68719476736 by omega);have hT:=xmu (kz l) n aa;obtain⟨qd,u9⟩:=xp0 (kz l) n;simp-dsimp[go_sem,hN,LT.c];refine gy ?_ ?_<;>intro hc<;>simp at hc
  ·have hfe:fE (kz l) n=nw l[n].ft:=by rw[xit aa];simp
   have hnx:ta (kz l) (n+1)=⟨(ta (kz l) n).glob++[⟨(n:Int),(nw l[n].ft).all⟩],qqj n (nw l[n].ft) (ta (kz l) n).qs⟩:=by
    simp only[ta];rw[hfe]
   rw[hnx];have hqe:=jbh hT.tab (n:=n) (xb2 _ _);rw[hfe]at hqe;obtain⟨T,hTe⟩:∃T,ta (kz l) n=T:=⟨_,rfl⟩
   rw[hTe]at hT qd u9 hqe;simp only[hTe];obtain⟨gl,qs⟩:=T;have h1:=hT.globLen;have h2:=hT.qsLen;have h3:=hT.reqsLen;rw[hfl]at h1 h2 h3;have hk:=xau (qy4 l[n].ft);have hreq:=jha gl qs n (nw l[n].ft) (128 * l.length) hT.valid (qy4 _) aa qd (fun m hm _=>u9 _ (c9 hm)) (by simp only at h1;omega) h2 h3 aa;rw[hqe]at hreq;simp-dsimp[go_sem,hN,hc,Txn.c];refine tk 14 mixed ac ?_;simp-dsimp[go_sem,hN,hc,Txn.c];refine ku (xkk l[n].ft) ae ?_;simp-dsimp[go_sem,hN];refine ku hreq ae ?_;simp-dsimp[go_sem,hN,hw,LT.c];exact⟨by simp[pm,List.zipIdx]<;>kernel_rfl,ic⟩
  ·have pq:n=l.length:=aa;subst pq;simp-dsimp[go_sem,hN];exact Wk.slots bb
 refine ln (yf [_,_] _ ?_);simp[go_sem,hN];intro c a w sm k;refine qy1 sm k (el:=63) (x:=.tmp 45) (d1:=46) (n:=l.length) (sz:=8) (zr:=[I 0,I 0,.slice [],.slice [],.slice [],.slice [],S em,I 0]) rfl rfl aa rfl af af af aa af af qg3 af af aa fun c' a' w' s' k'=>?_;refine xf _ [_,_,_] _ rfl ?_ c' a' w' s' k';simp[go_sem,hN];clear s' k' sm k;refine ln (ub ?_);simp[go_sem,hN];refine zy (e1:=⟨[(1,.slice ((nc jh procs s l).1.map Pr.c)),(15,.own (h.length+1) l.length),(16,.own (h.length+2) l.length)],h++[.none,.arr 63 8 ((nc jh procs s l).2.map Eff.c),.arr 3 1 ((qr6 l choices l.length).map iw)]⟩) ?_ ?_
 ·simp-dsimp[go_sem,hN];refine jl l.length (fun n=>True) (fun n=>⟨[(0,.slice (procs.map Proc.c)),(1,.slice ((lsX jh procs s l choices n).1.map Pr.c)),(2,.slice (l.map Txn.c)),(3,.slice (choices.map iw)),(11,P0 h.length),(15,.own (h.length+1) l.length),(16,.own (h.length+2) n),(17,I n)],
   h++[.cells (Cw.stepT (kz l) (p7 (kz l) choices n)).c,.uarr 63 8 ((lsX jh procs s l choices n).2.map Eff.c),.arr 3 1 ((qr6 l choices n).map iw)]⟩) trivial ((qm4 E _ 16 3 1 af).trans ?_) ?_
  ·rw[xpx];exact(Wk.mk bi (by simp[go_sem,qw9,Eff.c,em,qpg,p7,Cw.stepT,hfl,LT.c]) qja af)
  intro n hn _;have hw:=iv hn (show _≤68719476736 by omega);obtain⟨x1,x2,x3,x4⟩:=xht (choices:=choices) hB hs n hn;have hT:=xjo (kz l) (p7 (kz l) choices n);have wo:=xrw (kz l) (p7 (kz l) choices n);simp-dsimp[go_sem,hN,LT.c];refine gy ?_ ?_<;>intro hc<;>simp at hc
  ·obtain⟨j,q,hS⟩:=xp4 (fs:=kz l) (choices:=choices) (n:=n) aa;have se:j<l.length:=by have:=hS.lt;omega
   have hxs:=xrd (fmt:=jh) (procs:=procs) (s:=s) hS se;have hix:=(xmr hT.tab j).2 hS.left;obtain⟨z1,z2,z3,z4,z5,z6,z7⟩:=hS;rw[hxs,z7,xlv];have xd:=jbx hT.tab;have h1:=hT.globLen;have h2:=hT.qsLen;have h3:=hT.reqsLen;have h4:=hT.sz;rw[hfl]at h1 h2 h3 h4;have zm:=hT.valid;obtain⟨T,hTe⟩:∃T,Cw.stepT (kz l) (p7 (kz l) choices n)=T:=⟨_,rfl⟩
   rw[hTe]at h1 h2 h3 h4 zm hix wo xd;simp only[hTe];obtain⟨X,hX⟩:∃X,lsX jh procs s l choices n=X:=⟨_,rfl⟩
   rw[hX]at x1 x2 x3;simp only[hX];obtain⟨O,hO⟩:∃O,p7 (kz l) choices n=O:=⟨_,rfl⟩
   simp only[hO]at x4 z1 z2 z3 z4 z6 z7 wo⊢;obtain⟨c,hcd⟩:∃c,qoa (kz l) O=c:=⟨_,rfl⟩
   simp only[hcd]at z1 z2 z3 z4 wo;have hgc:c[q]=j:=(cq.1 z4).2;have xa9:=jhh T zm aa;rw[xd,wo]at xa9;have hch:=jdn choices n c.length z1;rw[z2]at hch;have m7:=xug procs X.1 l[j] (xfe hB x1 (c9 se)) aa;obtain⟨Y,hY⟩:∃Y,ov jh procs X.1 l[j]=Y:=⟨_,rfl⟩
   rw[hY]at m7⊢;have jz:=jbf T j zm hix aa aa (fun x hx=>by have:=h3 x hx;omega);simp-dsimp[go_sem,hN];refine ia xa9 ?_;simp-dsimp[go_sem,hN];refine gy ?_ ?_<;>intro hz<;>simp at hz
   ·rw[hz]at z1;simp at z1
   simp-dsimp[go_sem,hN];refine ia hch ?_;simp-dsimp[go_sem,hN,z3,hgc,iw,se,Txn.c];refine ia m7 ?_;simp-dsimp[go_sem,hN,x3,se,x4,Eff.c];refine⟨aa,ia jz ?_⟩;simp-dsimp[go_sem,hN,hw,LT.c];refine⟨hc,Wk.mk bi ?_ qja af⟩;simp[go_sem,LT.c,Eff.c,iw,z7]
  ·have pq:n=l.length:=aa;subst pq;rw[xqq hB hs];simp-dsimp[go_sem,hN];refine(zt E _ (i:=h.length+1) (t:=63) (sz:=8) (rows:=(nc jh procs s l).2.map Eff.c) ae).trans ?_;simp;exact ic
 apply na;have hol:(p7 (kz l) choices l.length).length=l.length:=by
  exact(xht (fmt:=jh) (procs:=procs) (s:=s) (choices:=choices) hB hs l.length (ct _)).2.2.2
 simp-dsimp[go_sem,hN,nk,hol]
theorem jnz(procs:List Proc)(s:List Pr)(l:List Txn)(order:List Int)(hl:l.length≤1048576)(iz:v7 (kz l) order=false) :
  APure prog 18 [.slice (procs.map Proc.c),.slice (s.map Pr.c),.slice (l.map Txn.c),.slice (order.map iw)] (.tuple [.slice [],.slice [],I 1]):=by
 refine ik func18 ntmps18 rfl ac rfl rfl fun E h hN hh hu hb=>?_;simp[go_sem]at hb;have qo5:=xkd (qpx l) order cj;rw[xez,iz]at qo5;obtain⟨F,hF0,w6,zu,xh⟩:∃F:Nat→List Foot,F 0=[]∧(∀n (h:n<l.length),F (n+1)=F n++[nw l[n].ft])∧(∀n,n≤l.length→(F n).length=n)∧F l.length=qpx l :=
  ⟨fun n=>(qpx l).take n,rfl,fun n h=>by simp only[];rw[eg bh];simp,fun n h=>by simp;omega,fo ae⟩
 rw[←xh]at qo5;simp-dsimp[go_sem,hN];refine jl l.length (fun n=>True) (fun n=>⟨[(0,.slice (procs.map Proc.c)),(1,.slice (s.map Pr.c)),(2,.slice (l.map Txn.c)),(3,.slice (order.map iw)),(11,.own h.length n),(12,I n)],h++[.arr 43 3 ((F n).map Foot.c)]⟩) trivial ((qm4 E _ 11 43 3 af).trans qfu) ?_;intro n hn _;have hw:=iv hn (show _≤68719476736 by omega);have wu:=zu n hn;simp-dsimp[go_sem,hN];refine gy ?_ ?_<;>intro hc<;>simp at hc
 ·have htk:=w6 n hc;simp-dsimp[go_sem,hN,hc,Txn.c];refine ia (xkk l[n].ft) ?_;simp-dsimp[go_sem,hN,hw,wu,Foot.c];rw[htk];exact⟨aa,hc,Wk.mk bi qhr bj af⟩
 ·have pq:n=l.length:=aa;subst pq;simp-dsimp[go_sem,hN,wu];refine ia qo5 ?_;simp-dsimp[go_sem,hN]
theorem xy6(procs:List Proc)(s:List Pr)(l:List Txn)(order:List Int)(hB:BatchIn jh procs l)(hs:p9 s)(hL:s.length+192 * l.length≤60000000000)(hl:l.length≤1048576)(ho:v7 (kz l) order=true) :
  APure prog 18 [.slice (procs.map Proc.c),.slice (s.map Pr.c),.slice (l.map Txn.c),.slice (order.map iw)] (.tuple [.slice ((nc jh procs s l).1.map Pr.c),.slice ((nc jh procs s l).2.map Eff.c),I 0]):=by
 refine qbn func18 rfl ac (by simp[ntmps18]) rfl ?_;intro E h hN hh hu hb;rw[ntmps18]at hN;simp[go_sem]at hb;have qo5:=xkd (qpx l) order cj;rw[xez,ho]at qo5;obtain⟨F,hF0,w6,zu,xh⟩:∃F:Nat→List Foot,F 0=[]∧(∀n (h:n<l.length),F (n+1)=F n++[nw l[n].ft])∧(∀n,n≤l.length→(F n).length=n)∧F l.length=qpx l :=
  ⟨fun n=>(qpx l).take n,rfl,fun n h=>by simp only[];rw[eg bh];simp,fun n h=>by simp;omega,fo ae⟩
 rw[←xh]at qo5;have nk:(nc jh procs s l).2.length=l.length:=qzu l;have hol:order.length=l.length:=qkr;refine ln (ub ?_);simp[go_sem,hN];refine ln (ub ?_);simp[go_sem,hN];refine zy (e1:=⟨[(0,.slice (procs.map Proc.c)),(1,.slice (s.map Pr.c)),(2,.slice (l.map Txn.c)),(3,.slice (order.map iw)),(11,.own h.length l.length)],h++[.arr 43 3 ((F l.length).map Foot.c)]⟩) ?_ ?_
 ·simp-dsimp[go_sem,hN];refine jl l.length (fun n=>True) (fun n=>⟨[(0,.slice (procs.map Proc.c)),(1,.slice (s.map Pr.c)),(2,.slice (l.map Txn.c)),(3,.slice (order.map iw)),(11,.own h.length n),(12,I n)],h++[.arr 43 3 ((F n).map Foot.c)]⟩) trivial ((qm4 E _ 11 43 3 af).trans qfu) ?_;intro n hn _;have hw:=iv hn (show _≤68719476736 by omega);have wu:=zu n hn;simp-dsimp[go_sem,hN];refine gy ?_ ?_<;>intro hc<;>simp at hc
  ·have htk:=w6 n hc;simp-dsimp[go_sem,hN,hc,Txn.c];refine ia (xkk l[n].ft) ?_;simp-dsimp[go_sem,hN,hw,wu,Foot.c];rw[htk];exact⟨aa,hc,Wk.mk bi qhr bj af⟩
  ·have pq:n=l.length:=aa;subst pq;simp-dsimp[go_sem,hN];exact Wk.slots bb
 have hfl:=zu l.length (ct _);refine ln (na _ _ _ ?_);simp-dsimp[go_sem,hN,hfl];refine ia qo5 ?_;simp-dsimp[go_sem,hN];refine ln (yf [_,_] _ ?_);simp[go_sem,hN];intro c a w sm k;refine qy1 sm k (el:=63) (x:=.tmp 38) (d1:=39) (n:=l.length) (sz:=8) (zr:=[I 0,I 0,.slice [],.slice [],.slice [],.slice [],S em,I 0]) rfl rfl aa rfl af af af aa af af qg3 af af aa fun c' a' w' s' k'=>?_;refine xf _ [_,_,_] _ rfl ?_ c' a' w' s' k';simp[go_sem,hN];clear s' k' sm k;refine zy (e1:=⟨[(1,.slice ((nc jh procs s l).1.map Pr.c)),(13,.own (h.length+1) l.length)],h++[.none,.arr 63 8 ((nc jh procs s l).2.map Eff.c)]⟩) ?_ ?_
 ·simp-dsimp[go_sem,hN];refine jl order.length (fun n=>True) (fun n=>⟨[(0,.slice (procs.map Proc.c)),(1,.slice ((rpX jh procs s l order n).1.map Pr.c)),(2,.slice (l.map Txn.c)),(3,.slice (order.map iw)),(13,.own (h.length+1) l.length),(14,I n)],h++[.none,.uarr 63 8 ((rpX jh procs s l order n).2.map Eff.c)]⟩) trivial ?_ ?_
  ·rw[xs3];exact(Wk.mk bi (by simp[go_sem,qw9,Eff.c,em,qpg]) bj af)
  intro n hn _;have hw:=iv hn (show _≤68719476736 by omega);obtain⟨x1,x2,x3⟩:=xqt hB hs ho n hn;simp-dsimp[go_sem,hN];refine gy ?_ ?_<;>intro hc<;>simp at hc
  ·obtain⟨q1,q2⟩:=xsc ho hc;rw[xcg]at q1;rw[xso hc q1];obtain⟨j,hj⟩:=qmu q2;have hjt:order[n].toNat=j:=by rw[hj];rfl
   simp only[hjt]at q1⊢;obtain⟨X,hX⟩:∃X,rpX jh procs s l order n=X:=⟨_,rfl⟩
   rw[hX]at x1 x2 x3;simp only[hX];have m7:=xug procs X.1 l[j] (xfe hB x1 (c9 q1)) aa;obtain⟨Y,hY⟩:∃Y,ov jh procs X.1 l[j]=Y:=⟨_,rfl⟩
   rw[hY]at m7⊢;simp-dsimp[go_sem,hN,hc,iw,hj,q1,Txn.c];refine ia m7 ?_;simp-dsimp[go_sem,hN,x3,q1,hw,Eff.c];exact⟨hc,Wk.mk bi (by simp[go_sem,Eff.c]) bj af⟩
  ·have pq:n=order.length:=aa;subst pq;rw[xsf hB hs ho];simp-dsimp[go_sem,hN];refine(zt E _ (i:=h.length+1) (t:=63) (sz:=8) (rows:=(nc jh procs s l).2.map Eff.c) ae).trans ?_;simp;exact ic
 apply na;simp-dsimp[go_sem,hN,nk]
end Go.Proofs.YtbimdamecieomaaGreatDoor
namespace Go.Proofs.YtbimdamecieomaaGreatDoor
open Go Go.Abs Go.Cw
section
variable {tT:TypeId} {tx:Nat×Nat} {g:Nat}
end
section
variable {tT:TypeId} {tx:Nat×Nat} {g:Nat}
end
end Go.Proofs.YtbimdamecieomaaGreatDoor
namespace Go.Proofs.YtbimdamecieomaaGreatDoor
open Go Go.Abs Go.Cw Go.Proofs.Tryz
theorem xrz(l:List Pr):APure prog 10 [.slice (l.map Pr.c),.slice (l.map Pr.c)] (Bo true):=by
 have:=xti l l
 rwa [xaf (f:=eqP) (fun x=>by simp[eqP,ug])]at this
theorem xnh(l:List Eff):APure prog 11 [.slice (l.map Eff.c),.slice (l.map Eff.c)] (Bo true):=by
 have:=jc9 l l
 rwa [xaf (f:=qpa) jen]at this
theorem jnt(l:List Int):APure prog 12 [.slice (l.map iw),.slice (l.map iw)] (Bo true):=by
 have:=xn4 l l
 rwa [decide_eq_true rfl]at this
section
variable {tT:TypeId} {tx:Nat×Nat} {g:Nat}
theorem jot(procs:List Proc)(s:List Pr)(l:List Txn)(choices:List Int)(h:gz)(hg:h[g]?=some (uu tT tx))(hB:BatchIn jh procs l)(hs:p9 s)(hL:s.length+192 * l.length≤60000000000)(hl:l.length≤1048576) :
  ACalls prog 3 [.agg [.slice (procs.map Proc.c),.slice (s.map Pr.c),.slice (l.map Txn.c)],.slice (choices.map iw)] h fun r h'=>r=.ret (Bo true)∧h'=h:=by
 refine lw func3 ntmps3 rfl ac rfl fun E hN hh hu hb il kr=>?_;have x8:g<h.length:=(cq.1 hg).1;have jf:∀l:gz,(h++l)[g]?=some (uu tT tx):=fun l=>by rw[cu x8];exact hg
 simp[go_sem]at hb;have r1:=fun H hH=>xc9 (g:=g) (tT:=tT) (tx:=tx) procs s l choices H hH hB hs hL hl;have r2:=jlf procs s l choices hB hs hL hl;obtain⟨A,hA⟩:∃A,nc jh procs s l=A:=⟨_,rfl⟩
 obtain⟨O,hO⟩:∃O,qr6 l choices l.length=O:=⟨_,rfl⟩
 simp only[hA,hO]at r1 r2;simp-dsimp[go_sem,hN];refine it (r1 _ (jf _)) ?_;rintro r h' ⟨rfl,he⟩;rw[he];simp-dsimp[go_sem,hN];refine ia r2 ?_;simp-dsimp[go_sem,hN];refine ia (xrz A.1) ?_;simp-dsimp[go_sem,hN];refine ka (xnh A.2) ae ?_;simp-dsimp[go_sem,hN];refine ka (jnt O) ae ?_;simp-dsimp[go_sem,hN];refine xop ae ((xw0 (tT:=tT) (tx:=tx) (g:=g) _ (jf _)).mono ?_);rintro r h' ⟨rfl,he⟩;rw[he];simp-dsimp[go_sem,hN];exact⟨_,.refl _,h,af,af,ae,aq,rfl,rfl⟩
theorem jgs(procs:List Proc)(s:List Pr)(l:List Txn)(order:List Int)(h:gz)(hg:h[g]?=some (uu tT tx))(hB:BatchIn jh procs l)(hs:p9 s)(hL:s.length+192 * l.length≤60000000000)(hl:l.length≤1048576) :
  ACalls prog 6 [.agg [.slice (procs.map Proc.c),.slice (s.map Pr.c),.slice (l.map Txn.c)],.slice (order.map iw)] h fun r h'=>r=.ret (Bo true)∧h'=h:=by
 refine lw func6 ntmps6 rfl ac rfl fun E hN hh hu hb il kr=>?_;have x8:g<h.length:=(cq.1 hg).1;have jf:∀l:gz,(h++l)[g]?=some (uu tT tx):=fun l=>by rw[cu x8];exact hg
 simp[go_sem]at hb;obtain⟨A,B,e,r1,r2⟩:∃(A:List Pr) (B:List Eff) (e:Int),(∀H:gz,H[g]?=some (uu tT tx)→ACalls prog 17 [.slice (procs.map Proc.c),.slice (s.map Pr.c),.slice (l.map Txn.c),.slice (order.map iw)] H fun r h'=>r=.ret (.tuple [.slice (A.map Pr.c),.slice (B.map Eff.c),I e])∧h'=H) ∧
   APure prog 18 [.slice (procs.map Proc.c),.slice (s.map Pr.c),.slice (l.map Txn.c),.slice (order.map iw)] (.tuple [.slice (A.map Pr.c),.slice (B.map Eff.c),I e]):=by
  rcases iz:v7 (kz l) order with _|_
  ·exact⟨[],[],1,fun H hH=>jkz procs s l order hl iz H,jnz procs s l order hl iz⟩
  ·exact⟨_,_,0,fun H hH=>jc4 (g:=g) (tT:=tT) (tx:=tx) procs s l order H hH hB hs hL hl iz,xy6 procs s l order hB hs hL hl iz⟩
 have k1:=xh5 (kz l) order cj;have k2:=xkd (kz l) order cj;obtain⟨b,hbb⟩:∃b,v7 (kz l) order=b:=⟨_,rfl⟩
 rw[hbb]at k1 k2;obtain⟨F,hF0,w6,zu,xh⟩:∃F:Nat→List Foot,F 0=[]∧(∀n (h:n<l.length),F (n+1)=F n++[l[n].ft])∧(∀n,n≤l.length→(F n).length=n)∧F l.length=kz l :=
  ⟨fun n=>(kz l).take n,rfl,fun n h=>by simp only[];rw[eg bh];simp,fun n h=>by simp;omega,fo ae⟩
 rw[←xh]at k1 k2;simp-dsimp[go_sem,hN];refine it (r1 _ (jf _)) ?_;rintro r h' ⟨rfl,he⟩;rw[he];simp-dsimp[go_sem,hN];refine ia r2 ?_;simp-dsimp[go_sem,hN];refine jl l.length (fun n=>True) (fun n=>⟨[(1,.slice (order.map iw)),(2,P0 h.length),(5,.slice (A.map Pr.c)),(6,.slice (B.map Eff.c)),(7,I e),(8,.slice (A.map Pr.c)),(9,.slice (B.map Eff.c)),(10,I e),(11,.own (h.length+1) n),(12,I n)],h++[.cells [.slice (procs.map Proc.c),.slice (s.map Pr.c),.slice (l.map Txn.c)],.arr 43 3 ((F n).map Foot.c)]⟩) trivial ((qm4 E _ 11 43 3 af).trans qfu) ?_;intro n hn _;have hw:=iv hn (show _≤68719476736 by omega);have wu:=zu n hn;simp-dsimp[go_sem,hN];refine gy ?_ ?_<;>intro hc<;>simp at hc
 ·have htk:=w6 n hc;simp-dsimp[go_sem,hN,hc,hw,wu,Txn.c,Foot.c];rw[htk];exact⟨aa,Wk.mk bi qhr bj af⟩
 ·have pq:n=l.length:=aa;subst pq;simp-dsimp[go_sem,hN];refine ia (xrz A) ?_;simp-dsimp[go_sem,hN];refine ka (xnh B) ae ?_;simp-dsimp[go_sem,hN,wu];refine ka k1 ae ?_;simp-dsimp[go_sem,hN,wu];refine ka k2 ae ?_;simp-dsimp[go_sem,hN];refine xop ae ((xw0 (tT:=tT) (tx:=tx) (g:=g) _ (jf _)).mono ?_);rintro r h' ⟨rfl,he⟩;rw[he];simp-dsimp[go_sem,hN];exact⟨_,.refl _,h,af,af,ae,aq,rfl,rfl⟩
end
end Go.Proofs.YtbimdamecieomaaGreatDoor
set_option maxRecDepth 8000
namespace Go.Proofs.YtbimdamecieomaaGreatDoor
open Go Go.Abs Go.Cw Go.Proofs.Tryz
section
variable {H:Type} {enc:TypeId×Value→H} {w:World}
theorem xna{d:DataW H}{l:List (DataW H)}(h:d∈l):Rows.uptoBulk d≤Rows.uptoBulkAll l:=by
 induction l with
 |nil=>cases h
 |cons x r ih =>
  simp only[Rows.uptoBulkAll];rcases cw.1 h with rfl|e
  ·omega
  ·have:=ih e;omega
theorem xz9(d:DataW H):1≤Rows.uptoBulk d:=by
 cases d with
 |lit l=>cases l<;>simp[Rows.uptoBulk]
 |nil=>simp[Rows.uptoBulk]
 |ptr d=>simp[Rows.uptoBulk]
 |slice elems spare=>simp[Rows.uptoBulk]
 |agg parts=>simp[Rows.uptoBulk]
 |iface t d=>simp[Rows.uptoBulk]
 |map entries=>simp[Rows.uptoBulk]
 |held h=>simp[Rows.uptoBulk]
theorem jjr(l:List (DataW H)):l.length≤Rows.uptoBulkAll l:=by
 induction l with
 |nil=>simp[Rows.uptoBulkAll]
 |cons x r ih=>have:=xz9 x;simp only[Rows.uptoBulkAll,d5];omega
theorem qsr:Bulk (H:=H) Rows.uptoBulk where
 str:=fun s=>by simp[Rows.uptoBulk]
 len:=fun e s=>by have:=jjr e;simp only[Rows.uptoBulk];omega
 sl:=fun e s x hx=>by have:=xna hx;simp only[Rows.uptoBulk];omega
 agg:=fun ps x hx=>by have:=xna hx;simp only[Rows.uptoBulk];omega
abbrev UB:Nat:=1048576
variable (enc w) in
abbrev RD(n:Nat)(t:TypeId)(Q:List AV→Prop):Prop:=Rd enc prog w Rows.uptoBulk UB n t Q
theorem xpt:UB≤68719476736:=bc
def rOf{α:Type}(c:α→List AV)(zd:α→Prop)(xs:List AV):Prop:=∃a,xs=c a∧zd a
def qph(s:g9):Prop:=s.size≤UB
def gSl{α:Type}(zd:α→Prop)(l:List α):Prop:=l.length≤UB∧∀a∈l,zd a
def vh{α:Type}(c:α→List AV)(zd:α→Prop)(xs:List AV):Prop:=rOf (fun l:List α=>[.slice (l.map c)]) (gSl zd) xs
theorem quj{n:Nat}{t e:TypeId}(ht:prog.underlying t=some (.slice e)){sz:Nat}(jq:prog.cellsOf e=sz)(h0:0<sz){α:Type}{c:α→List AV}{zd:α→Prop}(hl:∀a,(c a).length=sz)(he:RD enc w n e (rOf c zd)):RD enc w n t (vh c zd):=by
 refine(xyd qsr xpt ht jq h0 (by rintro _ ⟨a,rfl,_⟩;exact hl a) he).mono ?_;rintro _ ⟨rows,rfl,jr,hq⟩;obtain⟨l,rfl,hg⟩:=xr4 hq;exact⟨l,rfl,qhi,hg⟩
theorem qsz{α:Type}{c:α→List AV}{zd:α→Prop}:∀xs,vh c zd xs→xs.length=1:=by rintro _ ⟨l,rfl,_⟩;rfl
theorem qxe{n:Nat}:RD enc w n 3 (qqn .i64):=xwv bc underlying3
theorem xi5{n:Nat}:RD enc w n 2 (qqn .i64):=xwv bc underlying2
theorem qw1{n:Nat}:RD enc w n 9 (qt3 UB):=xx0 qsr xpt underlying9
theorem xzs{n:Nat}:RD enc w n 4 xfd:=xz3 underlying4
theorem xem{z:Int}(h:IntKind.i64.min≤z∧z≤IntKind.i64.max):i64 z:=⟨h.1,h.2⟩
theorem xrf:∀{n:Nat},RD enc w n 71 (rOf V.c kp)
 | 0=>Rd.zero
 |n+1=>by
  refine(qfb (Qs:=[qqn .i64,qqn .i64,qt3 UB]) qsr underlying71 ?_).mono ?_
  ·simp only[qsf];exact⟨ba,1,ac,qxe,qvo,ba,1,ac,xi5,qvo,ba,1,ac,qw1,qxu,qfk⟩
  ·rintro _ ⟨ps,y7,rfl⟩;obtain⟨_,_,rfl,⟨k,rfl,_⟩,qd⟩:=rt y7;obtain⟨_,_,rfl,⟨z,rfl,hz⟩,u9⟩:=rt qd;obtain⟨_,_,rfl,⟨s,rfl,hs⟩,hp3⟩:=rt u9;obtain rfl:=qfc hp3;exact⟨⟨k,z,s⟩,rfl,xem hz,by show s.size≤_;unfold UB at hs;omega⟩
def gP(p:Pr):Prop:=p.key.size≤UB∧kp p.v
theorem xzz:∀{n:Nat},RD enc w n 73 (rOf Pr.c gP)
 | 0=>Rd.zero
 |n+1=>by
  refine(qfb (Qs:=[qt3 UB,rOf V.c kp]) qsr underlying73 ?_).mono ?_
  ·simp only[qsf];exact⟨ba,1,ac,qw1,qxu,ba,3,ac,xrf,by rintro _ ⟨v,rfl,_⟩;rfl,qfk⟩
  ·rintro _ ⟨ps,y7,rfl⟩;obtain⟨_,_,rfl,⟨k,rfl,hk⟩,qd⟩:=rt y7;obtain⟨_,_,rfl,⟨v,rfl,hv⟩,u9⟩:=rt qd;obtain rfl:=qfc u9;exact⟨⟨k,v⟩,rfl,hk,hv⟩
theorem jid{n:Nat}:RD enc w n 48 (vh V.c kp):=quj underlying48 (sz:=3) ac bc (fun _=>rfl) xrf
theorem jf8{n:Nat}:RD enc w n 23 (vh Pr.c gP):=quj underlying23 (sz:=4) ac bc (fun _=>rfl) xzz
theorem xs1{n:Nat}:RD enc w n 41 (vh im qph):=quj underlying41 (sz:=1) ac bc (fun _=>rfl) (qw1.mono (by rintro _ ⟨s,rfl,hs⟩;exact⟨s,rfl,hs⟩))
theorem xhn:∀(n:Nat),RD enc w n 119 (rOf Ex.c su)
 | 0=>Rd.zero
 |n+1=>by
  have hs:RD enc w n 117 (vh Ex.c su):=quj underlying117 (sz:=4) ac bc (fun e=>by rw[Ex.c_eq];rfl) (xhn n);refine(qfb (Qs:=[qqn .i64,qqn .i64,qt3 UB,vh Ex.c su]) qsr underlying119 ?_).mono ?_
  ·simp only[qsf];exact⟨ba,1,ac,qxe,qvo,ba,1,ac,xi5,qvo,ba,1,ac,qw1,qxu,ba,1,ac,hs,qsz,qfk⟩
  ·rintro _ ⟨ps,y7,rfl⟩;obtain⟨_,_,rfl,⟨k,rfl,_⟩,qd⟩:=rt y7;obtain⟨_,_,rfl,⟨z,rfl,hz⟩,u9⟩:=rt qd;obtain⟨_,_,rfl,⟨s,rfl,hs⟩,hp3⟩:=rt u9;obtain⟨_,_,rfl,⟨l,rfl,hl⟩,hp4⟩:=rt hp3;obtain rfl:=qfc hp4;refine⟨.mk k z s l,by rw[Ex.c_eq];rfl,(qvc _).2 ⟨⟨xem hz,by show s.size≤_;unfold UB at hs;omega⟩,hl.2⟩⟩
theorem xsg:∀(n:Nat),RD enc w n 121 (rOf St.c qmv)
 | 0=>Rd.zero
 |n+1=>by
  have hs:RD enc w n 76 (vh St.c qmv):=quj underlying76 (sz:=13) ac bc (fun e=>by rw[St.c_eq];rfl) (xsg n);refine(qfb (Qs:=[qqn .i64,qt3 UB,qqn .i64,rOf Ex.c su,rOf Ex.c su,vh St.c qmv,vh St.c qmv]) qsr underlying121 ?_).mono ?_
  ·simp only[qsf];exact⟨ba,1,ac,qxe,qvo,ba,1,ac,qw1,qxu,ba,1,ac,qxe,qvo,ba,4,ac,xhn n,qk8,ba,4,ac,xhn n,qk8,ba,1,ac,hs,qsz,ba,1,ac,hs,qsz,qfk⟩
  ·rintro _ ⟨ps,y7,rfl⟩;obtain⟨_,_,rfl,⟨k,rfl,_⟩,qd⟩:=rt y7;obtain⟨_,_,rfl,⟨s,rfl,hs⟩,u9⟩:=rt qd;obtain⟨_,_,rfl,⟨m,rfl,_⟩,hp3⟩:=rt u9;obtain⟨_,_,rfl,⟨a,rfl,ha⟩,hp4⟩:=rt hp3;obtain⟨_,_,rfl,⟨b,rfl,hb⟩,hp5⟩:=rt hp4;obtain⟨_,_,rfl,⟨l,rfl,hl⟩,hp6⟩:=rt hp5;obtain⟨_,_,rfl,⟨l',rfl,pf⟩,hp7⟩:=rt hp6;obtain rfl:=qfc hp7;refine⟨.mk k s m a b l l',?_,(xmg _).2 ⟨ha,hb,hl.2,pf.2⟩⟩;simp[St.c,St.cl_map]
theorem jiy{n:Nat}:RD enc w n 76 (vh St.c qmv):=quj underlying76 (sz:=13) ac bc (fun e=>by rw[St.c_eq];rfl) (xsg n)
theorem jgv:∀{n:Nat},RD enc w n 116 (rOf Param.c fun p=>qph p.name)
 | 0=>Rd.zero
 |n+1=>by
  refine(qfb (Qs:=[qt3 UB,qqn .i64]) qsr underlying116 ?_).mono ?_
  ·simp only[qsf];exact⟨ba,1,ac,qw1,qxu,ba,1,ac,qxe,qvo,qfk⟩
  ·rintro _ ⟨ps,y7,rfl⟩;obtain⟨_,_,rfl,⟨s,rfl,hs⟩,qd⟩:=rt y7;obtain⟨_,_,rfl,⟨k,rfl,_⟩,u9⟩:=rt qd;obtain rfl:=qfc u9;exact⟨⟨s,k⟩,rfl,hs⟩
theorem jjg{n:Nat}:RD enc w n 75 (vh Param.c fun p=>qph p.name):=quj underlying75 (sz:=2) ac bc (fun _=>rfl) jgv
def xcl(p:Proc):Prop:=qph p.name∧gSl (fun x:Param=>qph x.name) p.params∧gSl qmv p.body
theorem jji:∀{n:Nat},RD enc w n 78 (rOf Proc.c xcl)
 | 0=>Rd.zero
 |n+1=>by
  refine(qfb (Qs:=[qt3 UB,vh Param.c fun p=>qph p.name,vh St.c qmv]) qsr underlying78 ?_).mono ?_
  ·simp only[qsf];exact⟨ba,1,ac,qw1,qxu,ba,1,ac,jjg,qsz,ba,1,ac,jiy,qsz,qfk⟩
  ·rintro _ ⟨ps,y7,rfl⟩;obtain⟨_,_,rfl,⟨s,rfl,hs⟩,qd⟩:=rt y7;obtain⟨_,_,rfl,⟨l,rfl,hl⟩,u9⟩:=rt qd;obtain⟨_,_,rfl,⟨b,rfl,hb⟩,hp3⟩:=rt u9;obtain rfl:=qfc hp3;exact⟨⟨s,l,b⟩,rfl,hs,hl,hb⟩
def xjc(f:Foot):Prop:=gSl qph f.reads∧gSl qph f.writes
theorem jbm:∀{n:Nat},RD enc w n 43 (rOf Foot.c xjc)
 | 0=>Rd.zero
 |n+1=>by
  refine(qfb (Qs:=[xfd,vh im qph,vh im qph]) qsr underlying43 ?_).mono ?_
  ·simp only[qsf];exact⟨ba,1,ac,xzs,jhc,ba,1,ac,xs1,qsz,ba,1,ac,xs1,qsz,qfk⟩
  ·rintro _ ⟨ps,y7,rfl⟩;obtain⟨_,_,rfl,⟨b,rfl⟩,qd⟩:=rt y7;obtain⟨_,_,rfl,⟨l,rfl,hl⟩,u9⟩:=rt qd;obtain⟨_,_,rfl,⟨l',rfl,pf⟩,hp3⟩:=rt u9;obtain rfl:=qfc hp3;exact⟨⟨b,l,l'⟩,rfl,hl,pf⟩
structure gEff(e:Eff):Prop where
 out:gSl kp e.out
 reads:gSl qph e.reads
 puts:gSl qph e.puts
 writes:gSl gP e.writes
 miss:qph e.miss
end
section
variable {H:Type} {enc:TypeId×Value→H} {w:World}
structure gTxn(t:Txn):Prop where
 id:i64 t.id
 proc:qph t.proc
 args:gSl kp t.args
 ft:xjc t.ft
 att:i64 t.att
theorem jnk:∀{n:Nat},RD enc w n 50 (rOf Txn.c gTxn)
 | 0=>Rd.zero
 |n+1=>by
  refine(qfb (Qs:=[qqn .i64,qt3 UB,vh V.c kp,rOf Foot.c xjc,qqn .i64]) qsr underlying50 ?_).mono ?_
  ·simp only[qsf];exact⟨ba,1,ac,xi5,qvo,ba,1,ac,qw1,qxu,ba,1,ac,jid,qsz,ba,3,ac,jbm,by rintro _ ⟨v,rfl,_⟩;rfl,ba,1,ac,qxe,qvo,qfk⟩
  ·rintro _ ⟨ps,y7,rfl⟩;obtain⟨_,_,rfl,⟨k,rfl,hk⟩,qd⟩:=rt y7;obtain⟨_,_,rfl,⟨s,rfl,hs⟩,u9⟩:=rt qd;obtain⟨_,_,rfl,⟨l,rfl,hl⟩,hp3⟩:=rt u9;obtain⟨_,_,rfl,⟨f,rfl,hf⟩,hp4⟩:=rt hp3;obtain⟨_,_,rfl,⟨z,rfl,hz⟩,hp5⟩:=rt hp4;obtain rfl:=qfc hp5;exact⟨⟨k,s,l,f,z⟩,rfl,xem hk,hs,hl,hf,xem hz⟩
theorem jac{n:Nat}:RD enc w n 24 (vh Txn.c gTxn):=quj underlying24 (sz:=7) ac bc (fun _=>rfl) jnk
theorem jmf{n:Nat}:RD enc w n 22 (vh Proc.c xcl):=quj underlying22 (sz:=3) ac bc (fun _=>rfl) jji
theorem jg2{procs:List Proc}{l:List Txn}(hp:gSl xcl procs)(hl:gSl gTxn l):BatchIn jh procs l:=⟨xur,fun p h=>(hp.2 p h).2.2.2,fun t h=>(hl.2 t h).args.2⟩
theorem jgc{s:List Pr}(h:gSl gP s):p9 s:=fun q hq=>(h.2 q hq).2
def jmy(b:List Proc×List Pr×List Txn):Prop:=gSl xcl b.1∧gSl gP b.2.1∧gSl gTxn b.2.2
end
end Go.Proofs.YtbimdamecieomaaGreatDoor
namespace Go.Proofs.YtbimdamecieomaaGreatDoor
open Go Go.Abs Go.Cw Go.ChangeShapes Go.WideShapes Go.ChangeAt Go.RowKit Go.Proofs.Tryz
theorem laidOut:laidOutB prog=true:=ac
theorem jfc:ownKnob prog.godebug=none:=ac
abbrev xen:List (String×DataW Unit):=[("math/bits.deBruijn32tab",Rows.laid_math_bits_deBruijn32tab),("math/bits.deBruijn64tab",Rows.laid_math_bits_deBruijn64tab),("internal/strconv.uint64pow10",Rows.laid_internal_strconv_uint64pow10)]
abbrev qyv:Nat:=1
theorem table{W:World}(h:laidMetH prog xen W):Lib.TabIs prog W "internal/strconv.uint64pow10" .u64 Lib.pow10Tab :=
 Lib.tabIs_of_head (rest:=[]) (g:=qyv) (n:=20) ac ac underlying340 underlying220 ac ac (laidMet.tail (laidMet.tail (show laidMet prog xen W from h)))
theorem jkq{W:World}(h:laidMetH prog xen W):∃T x,W.heap[qyv]?=some (.cells xft T x):=by
 have h1:=table h;unfold Lib.TabIs World.var? at h1
 rw[show prog.globalNamed "internal/strconv.uint64pow10" = some qyv by kernel_rfl]at h1
 simp only[Go.f5]at h1;split at h1
 ·rename_i cs T x hx;cases h1;exact⟨T,x,hx⟩
 ·cases h1
theorem jb4:∀(j:Nat) (v:Value),xft[j]?=some v→∃n,v=.int .u64 n:=by
 intro j v hv;unfold xft at hv;have:(Lib.pow10Tab.map fun z=>Value.int .u64 z)[j]?=some v:=bx;rw[dq,dn]at this;obtain⟨z,_,rfl⟩:=this;exact⟨z,rfl⟩
def xmp(zs:List Value):Obj→Obj
 | .cells _ t fr=>.cells zs.toArray t fr
 |o=>o
def xiq(d:DataW Unit):List Value:=match d with
 | .agg ps=>ps.map fun| .lit (.int k n)=>.int k n|_=>undef
 |_=>[]
noncomputable def xi6(os:Os):World :=
 { World.holding prog os ⟨#[],#[],[]⟩with heap:=(((World.holding prog os ⟨#[],#[],[]⟩).heap.modify qyv (xmp (xiq Rows.laid_internal_strconv_uint64pow10))).modify 2 (xmp (xiq Rows.laid_math_bits_deBruijn32tab))).modify 3 (xmp (xiq Rows.laid_math_bits_deBruijn64tab)) }
section
variable {H:Type} {enc:TypeId×Value→H} {W:World} {base:Nat}
theorem okWide_struct{t:TypeId}{fs:Array Field}(ht:prog.underlying t=some (.struct fs)){v:Value}(h:Value.okWide prog W .any base t v):∃cs,v=.agg cs:=by
 unfold Value.okWide at h;rw[ht]at h;obtain⟨cs,rfl,_⟩:=h;exact⟨cs,rfl⟩
theorem okWide_slice{t e:TypeId}(ht:prog.underlying t=some (.slice e)){v:Value}(h:Value.okWide prog W .any base t v):v.cells = #[v]:=by
 unfold Value.okWide at h;rw[ht]at h;simp only at h;unfold Cell.okWide at h;rw[ht]at h;cases v<;>first|rfl|skip
 unfold Cell.ok at h;rw[ht]at h;exact h.elim
theorem jdd{t:TypeId}{fs:Array Field}(ht:prog.underlying t=some (.struct fs)){v:Value}{d:DataW H}{ps:List MemPlace}(hv:Value.okWide prog W .any base t v)(h:DataW.Trod enc prog W 0 (fun _=>true) true t v d ps)
  {α:Type} {c:α→List AV} {zd:α→Prop} (hr:∀n,RD enc W n t (rOf c zd)) (hb:Rows.uptoBulk d≤UB):∃a,Rel (qte W qyv) (.agg (c a)) v∧zd a:=by
 obtain⟨cs,rfl⟩:=okWide_struct ht hv;obtain⟨lf,hf⟩:=h;obtain⟨_,hd,a,rfl,hg⟩:=hr lf lf _ _ _ (ct _) hf hb;exact⟨a,jeo hd,hg⟩
theorem je1{t e:TypeId}(ht:prog.underlying t=some (.slice e)){v:Value}{d:DataW H}{ps:List MemPlace}(hv:Value.okWide prog W .any base t v)(h:DataW.Trod enc prog W 0 (fun _=>true) true t v d ps)
  {α:Type} {c:α→List AV} {zd:α→Prop} (hr:∀n,RD enc W n t (vh c zd)) (hb:Rows.uptoBulk d≤UB):∃l:List α,Rel (qte W qyv) (.slice (l.map c)) v∧gSl zd l:=by
 obtain⟨lf,hf⟩:=h;rw[okWide_slice ht hv]at hf;obtain⟨_,hd,l,rfl,hg⟩:=hr lf lf _ _ _ (ct _) hf hb;exact⟨l,xz0 hd,hg⟩
end
theorem jcg:laidOutB Tryz.pinned.checked.prog=true:=ac
theorem jaf:mapsRowed Tryz.pinned.checked.prog=true:=ac
theorem jnf:Tryz.pinned.checked.prog.stopsHeard=true:=ac
theorem jbe:Tryz.pinned.checked.prog.mayEnter=true:=ac
end Go.Proofs.YtbimdamecieomaaGreatDoor
namespace Go.Proofs.YtbimdamecieomaaGreatDoor
open Go Go.Abs Go.Cw
section
variable {H:Type} {enc:TypeId×Value→H} {w:World} {base:Nat}
end
end Go.Proofs.YtbimdamecieomaaGreatDoor
namespace Go.Proofs.YtbimdamecieomaaGreatDoor
open Go Go.Abs Go.Cw Go.Proofs.Tryz
section
variable {H:Type} {enc:TypeId×Value→H} {w:World} {base:Nat}
def xto(b:List Proc×List Pr×List Txn):List AV:=[.slice (b.1.map Proc.c),.slice (b.2.1.map Pr.c),.slice (b.2.2.map Txn.c)]
theorem jfp{n:Nat}:RD enc w n 27 (vh iw i64):=quj underlying27 (sz:=1) ac bc (fun _=>rfl) (qxe.mono (by rintro _ ⟨z,rfl,h1,h2⟩;exact⟨z,rfl,h1,h2⟩))
theorem xx1:∀{n:Nat},RD enc w n 26 (rOf xto jmy)
 | 0=>Rd.zero
 |n+1=>by
  refine(qfb (Qs:=[vh Proc.c xcl,vh Pr.c gP,vh Txn.c gTxn]) qsr underlying26 ?_).mono ?_
  ·simp only[qsf];exact⟨ba,1,ac,jmf,qsz,ba,1,ac,jf8,qsz,ba,1,ac,jac,qsz,qfk⟩
  ·rintro _ ⟨ps,y7,rfl⟩;obtain⟨_,_,rfl,⟨p,rfl,hp⟩,qd⟩:=rt y7;obtain⟨_,_,rfl,⟨l,rfl,hl⟩,u9⟩:=rt qd;obtain⟨_,_,rfl,⟨t,rfl,ht⟩,hp3⟩:=rt u9;obtain rfl:=qfc hp3;exact⟨(p,l,t),rfl,hp,hl,ht⟩
end
end Go.Proofs.YtbimdamecieomaaGreatDoor
