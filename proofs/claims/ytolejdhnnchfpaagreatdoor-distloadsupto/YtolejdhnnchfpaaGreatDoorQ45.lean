/- Part 45 of a proof. -/
import Derived.Test.YtolejdhnnchfpaaGreatDoorRows
import Derived.KernelRfl
import Derived.Test.YtolejdhnnchfpaaGreatDoorCards
import Derived.Test.YtolejdhnnchfpaaGreatDoorTie
import Derived.ProofKit
import Derived.OpenShut
import Derived.Carry
import Derived.Deep.DeepHandedRow
import Derived.Lib.LaidTab
import Derived.Stop.LaidErr
import Derived.Test.YtolejdhnnchfpaaGreatDoorQ18
import Derived.Test.YtolejdhnnchfpaaGreatDoorQ44
set_option linter.all false
set_option maxRecDepth 4000
set_option maxHeartbeats 2000000
namespace Go.Proofs.YtolejdhnnchfpaaGreatDoor
open Go Go.Abs Go.Cw
end Go.Proofs.YtolejdhnnchfpaaGreatDoor
set_option maxRecDepth 8000
namespace Go.Proofs.YtolejdhnnchfpaaGreatDoor
open Go Go.Abs Go.Cw
def z0:ig:=⟨#[97]⟩
def xi9:ig:=⟨#[98]⟩
def jal:ig:=⟨#[109]⟩
def qm7:ig:=⟨#[122]⟩
def xro:ig:=⟨#[99,111,112,121]⟩
def qkp:Plc:=⟨0,[⟨1,em,1,0,em⟩,⟨2,jal,2,0,em⟩]⟩
def qqz:List Pr:=[⟨z0,vI 1⟩,⟨qm7,vI 2⟩]
def qyo:Proc:=⟨xro,[⟨z0,2⟩,⟨xi9,2⟩],[.mk 3 em 0 (.mk 3 0 xi9 []) (.mk 22 0 em [.mk 3 0 z0 []]) [] []]⟩
def qyt:Txn:=⟨1,xro,[⟨2,0,z0⟩,⟨2,0,qm7⟩],⟨false,[z0],[qm7]⟩,1⟩
def xge:Eff:=((qt ku [qyo] qqz [qyt]).2).headD Cw.effZ
theorem xe1:jy qkp=true:=ae
theorem xgs:jl qqz=true:=ae
theorem xmy:∀{l m:List Int},l.Pairwise (· < ·)->m.Pairwise (· < ·)->(∀x,x∈l↔x∈m)->l=m
 | [],[],_,_,_=>rfl
 | [],y::m,_,_,h=>by have:=(h y).2 ac;cases this
 |x::l,[],_,_,h=>by have:=(h x).1 ac;cases this
 |x::l,y::m,hl,hm,h=>by
  obtain⟨a1,a2⟩:=eh.1 hl;obtain⟨b1,b2⟩:=eh.1 hm;have e:x=y:=by
   rcases c0.1 ((h x).1 ac)with r|r
   .exact r
   .rcases c0.1 ((h y).2 ac)with r2|r2
    .omega
    .grind
  subst e;congr 1;refine xmy a2 b2 λz=>?_;have h2:=h z;simp only[c0]at h2;constructor
  .grind
  .grind
theorem xyc:nq qkp=[1,2]:=by
 unfold nq;rw[if_pos xe1];refine xmy (qzv _) ba λx=>?_;rw[qsf,show y5 qkp.parts=[1,2]from by kernel_rfl]
theorem xtf{s:List Pr}(h:jl s=true):m5 qkp s=[⟨1,pq qkp s 1⟩,⟨2,pq qkp s 2⟩]:=by
 unfold m5;rw[if_pos (by rw[xe1,h];rfl),xyc];rfl
theorem xzf:pq qkp qqz 1=[⟨z0,vI 1⟩]:=ae
theorem xx6:pq qkp qqz 2=[⟨qm7,vI 2⟩]:=ae
theorem jfr:pq qkp [⟨z0,vI 1⟩,⟨qm7,vI 1⟩] 1=[⟨z0,vI 1⟩]:=ae
theorem jgd:pq qkp [⟨z0,vI 1⟩,⟨qm7,vI 1⟩] 2=[⟨qm7,vI 1⟩]:=ae
theorem xby:m5 qkp qqz=[⟨1,[⟨z0,vI 1⟩]⟩,⟨2,[⟨qm7,vI 2⟩]⟩]:=by rw[xtf xgs,xzf,xx6]
theorem jgh:qt ku [qyo] qqz [qyt]=([⟨z0,vI 1⟩,⟨qm7,vI 1⟩],[xge]):=ae
theorem jjw:xge.status=1:=ae
theorem jgr:m5 qkp [⟨z0,vI 1⟩,⟨qm7,vI 1⟩]=[⟨1,[⟨z0,vI 1⟩]⟩,⟨2,[⟨qm7,vI 1⟩]⟩]:=by rw[xtf ae,jfr,jgd]
end Go.Proofs.YtolejdhnnchfpaaGreatDoor
namespace Go.Proofs.YtolejdhnnchfpaaGreatDoor
open Go Go.Abs Go.Cw Go.Proofs.Tryz
section
theorem xp3:BatchIn ku [qyo] [qyt]:=by
 refine⟨xk9,?_,?_⟩
 .intro p hp t ht;simp only[ep]at hp;subst hp;simp only[qyo,ep]at ht;subst ht;have hz:i64 0:=⟨ba,ba⟩
  have hk:vd (.mk 3 0 xi9 []):=(qw1 _).2 ⟨⟨hz,ba⟩,by simp[Ex.args]⟩;have ha:vd (.mk 3 0 z0 []):=(qw1 _).2 ⟨⟨hz,ba⟩,by simp[Ex.args]⟩;have hn:vd (.mk 22 0 em [.mk 3 0 z0 []]):=(qw1 _).2 ⟨⟨hz,ba⟩,by simpa[Ex.args]using ha⟩;exact(xhy _).2 ⟨hk,hn,by simp[St.body],by simp[St.els]⟩
 .intro t ht v hv;simp only[ep]at ht;subst ht;simp only[qyt,c0,qjc,or_false]at hv;rcases hv with rfl|rfl<;>exact⟨⟨ba,ba⟩,ba⟩
theorem xr7:l6 qqz:=by
 intro q hq;simp only[qqz,c0,qjc,or_false]at hq;rcases hq with rfl|rfl<;>exact⟨⟨ba,ba⟩,ba⟩
theorem xwa:qmr ku [qyo] qkp [⟨1,[⟨z0,vI 1⟩]⟩,⟨2,[⟨qm7,vI 2⟩]⟩] [qyt] []=([⟨1,[⟨z0,vI 1⟩]⟩,⟨2,[⟨qm7,vI 1⟩]⟩],[xge]):=by
 rw[<-xby,xae xp3 xr7 xe1 xgs,jgh,jgr]
variable {tT:TypeId} {tx:Nat×Nat} {g:Nat}
theorem qbo(h:g9)(hg:h[g]?=some (rn tT tx)):ACalls prog 12 [] h λr h'=>r=.ret (Bo true)/\h'=h:=by
 have hl:=qxs qkp qqz;have hv:=xk8 qkp (m5 qkp qqz);rw[qtn xe1 xgs,xby]at hv;rw[xby]at hl;have v7:g<h.length:=(cm.1 hg).1;have jp:∀l:g9,(h++l)[g]?=some (rn tT tx):=λl=>by rw[co v7];exact hg
 have r1:=λH hH=>qd8 (g:=g) (tT:=tT) (tx:=tx) (H:=H) (procs:=[qyo]) (p:=qkp) (l:=m5 qkp qqz) (txns:=[qyt]) (choices:=[]) hH xp3 (qwj xr7) ac (by rw[xby];simp);simp only[xby,xwa]at r1;refine re func12 rfl ae ac ?_;intro E hN hh hu hb iq ju;rw[ntmps12]at hN;refine jo _ _ _ ?_;simp-dsimp[go_sem,hN];refine iv hl ?_;simp-dsimp[go_sem,hN];refine kq hv ac ?_;simp-dsimp[go_sem,hN];refine iy (r1 _ (jp _)) ?_;rintro r h' ⟨rfl,he⟩;rw[he];simp-dsimp[go_sem,hN];refine jt 53 mixed ae ae ?_;simp-dsimp[go_sem,hN,z0,qm7,vI,jjw,Eff.c,em];exact⟨_,.refl _,h,ag,ag,ac,aq,rfl,rfl⟩
end
section
variable {tT:TypeId} {tx:Nat×Nat} {g:Nat}
theorem xuc(l:List Shard):mm qte l l=true:=(xam (by
 intro a b;obtain⟨n,x⟩:=a;obtain⟨m,y⟩:=b;unfold qte;simp only[cw,decide_eq_true_eq,xam xt7,Shard.mk.injEq])).2 rfl
theorem jl4(p:Plc)(l:List Shard)(h:g9)(hg:h[g]?=some (rn tT tx)) :
  ACalls prog 3 [.agg p.c,.slice (l.map Shard.c)] h λr h'=>r=.ret (Bo true)/\h'=h:=by
 have v7:g<h.length:=(cm.1 hg).1;have jp:∀l:g9,(h++l)[g]?=some (rn tT tx):=λl=>by rw[co v7];exact hg
 have a1:=xk8 p l;have a2:=xnw p l;refine re func3 rfl ae ac ?_;intro E hN hh hu hb iq ju;rw[ntmps3]at hN;refine jo _ _ _ ?_;simp-dsimp[go_sem,hN,Plc.c];refine jt 5 mixed ae ae ?_;simp-dsimp[go_sem,hN,Plc.c]
 first|refine m6 a1 ac ?_|refine iv a1 ?_|refine kq a1 ac ?_
 simp-dsimp[go_sem,hN]
 first|refine m6 a2 ac ?_|refine iv a2 ?_|refine kq a2 ac ?_
 simp-dsimp[go_sem,hN];refine qdz (λ_=>qbo _ (jp _)) ac ?_ (λh=>h);simp-dsimp[go_sem,hN];exact⟨_,.refl _,h,ag,ag,ac,aq,rfl,rfl⟩
theorem jni(p:Plc)(s:List Pr)(h:g9)(hg:h[g]?=some (rn tT tx)) :
  ACalls prog 4 [.agg p.c,.slice (s.map Pr.c)] h λr h'=>r=.ret (Bo true)/\h'=h:=by
 have v7:g<h.length:=(cm.1 hg).1;have jp:∀l:g9,(h++l)[g]?=some (rn tT tx):=λl=>by rw[co v7];exact hg
 have a1:=qxs p s;have a2:=jcy p s;have a3:=xqm (m5 p s) (m5 p s);rw[xuc]at a3;refine re func4 rfl ae ac ?_;intro E hN hh hu hb iq ju;rw[ntmps4]at hN;refine jo _ _ _ ?_;simp-dsimp[go_sem,hN,Plc.c];refine jt 5 mixed ae ae ?_;simp-dsimp[go_sem,hN,Plc.c]
 first|refine m6 a1 ac ?_|refine iv a1 ?_|refine kq a1 ac ?_
 simp-dsimp[go_sem,hN]
 first|refine m6 a2 ac ?_|refine iv a2 ?_|refine kq a2 ac ?_
 simp-dsimp[go_sem,hN]
 first|refine m6 a3 ac ?_|refine iv a3 ?_|refine kq a3 ac ?_
 simp-dsimp[go_sem,hN];refine qdz (λ_=>qbo _ (jp _)) ac ?_ (λh=>h);simp-dsimp[go_sem,hN];exact⟨_,.refl _,h,ag,ag,ac,aq,rfl,rfl⟩
end
section
variable {tT:TypeId} {tx:Nat×Nat} {g:Nat}
theorem xj0(l:List Pr):APure prog 21 [.slice (l.map Pr.c),.slice (l.map Pr.c)] (Bo true):=by
 have:=xkf l l
 rwa [qy0 (f:=yd) (λx=>by simp[yd,wn])]at this
theorem xmn(l:List Eff):APure prog 18 [.slice (l.map Eff.c),.slice (l.map Eff.c)] (Bo true):=by
 have:=jem l l
 rwa [qy0 (f:=qr1) jdq]at this
theorem jg1(l:List Shard):APure prog 13 [.slice (l.map Shard.c),.slice (l.map Shard.c)] (Bo true):=by grind[xuc,xqm]
theorem jov(l:List Shard)(h:g9)(hg:h[g]?=some (rn tT tx))(hN:qk0 l<68719476736) :
  ACalls prog 7 [.slice (l.map Shard.c)] h λr h'=>r=.ret (Bo true)/\h'=h:=by
 have v7:g<h.length:=(cm.1 hg).1;have jp:∀l:g9,(h++l)[g]?=some (rn tT tx):=λl=>by rw[co v7];exact hg
 have a1:=qeo l hN;have a2:=jck l hN;obtain⟨G,hG⟩:∃G,qlw l=G:=⟨_,rfl⟩
 rw[hG]at a1 a2;refine re func7 rfl ae ac ?_;intro E hN hh hu hb iq ju;rw[ntmps7]at hN;refine jo _ _ _ ?_;simp-dsimp[go_sem,hN];refine iv a1 ?_;simp-dsimp[go_sem,hN];refine iv a2 ?_;simp-dsimp[go_sem,hN];refine iv (xj0 G.1) ?_;simp-dsimp[go_sem,hN];refine qdz (λ_=>qbo _ hg) ac ?_ (λh=>h);simp-dsimp[go_sem,hN];exact⟨_,.refl _,h,ag,ag,ac,aq,rfl,rfl⟩
theorem jgn{p:Plc}{s:List Pr}(hp:jy p=true)(hs:jl s=true):(m5 p s).length≠0:=λh=>xj7.1 (fg h) ⟨hp,hs⟩
theorem jko(procs:List Proc)(p:Plc)(s:List Pr)(txns:List Txn)(choices:List Int)(h:g9)(hg:h[g]?=some (rn tT tx))(hB:BatchIn ku procs txns)(hs:l6 s)(hT:txns.length<=1048576)(hS:s.length<=1048576) :
  ACalls prog 8 [.slice (procs.map Proc.c),.agg p.c,.slice (s.map Pr.c),.slice (txns.map Txn.c),.slice (choices.map ka)] h λr h'=>r=.ret (Bo true)/\h'=h:=by
 have v7:g<h.length:=(cm.1 hg).1;have jp:∀l:g9,(h++l)[g]?=some (rn tT tx):=λl=>by rw[co v7];exact hg
 have a1:=qxs p s;refine re func8 rfl ae ac ?_;intro E hN hh hu hb iq ju;rw[ntmps8]at hN;refine jo _ _ _ ?_;rcases jdi p s with⟨hl,_⟩|⟨hp,kn⟩
 .rw[hl]at a1;simp-dsimp[go_sem,hN,Plc.c];refine iv a1 ?_;simp-dsimp[go_sem,hN];refine iy (qbo (tT:=tT) (tx:=tx) (g:=g) _ (jp _)) ?_;rintro r h' ⟨rfl,he⟩;rw[he];simp-dsimp[go_sem,hN];exact⟨_,.refl _,h,ag,ag,ac,aq,rfl,rfl⟩
 .have hRk:=xay hs txns hB;have r1:=λH hH=>qd8 (g:=g) (tT:=tT) (tx:=tx) (H:=H) (procs:=procs) (p:=p) (l:=m5 p s) (txns:=txns) (choices:=choices) hH hB (qwj hs) hT (λx hx=>by have:=qyq x hx;omega);simp only[xae hB hs hp kn]at r1;have hsum:=xek p s;have a2:=qeo (m5 p s) af;rw[qzu hp kn]at a2;have it:=jgn hp kn;obtain⟨R,hR⟩:∃R,qt ku procs s txns=R:=⟨_,rfl⟩
  rw[hR]at hRk;simp only[hR]at r1;have jm:=hRk.len;have hcnt:=hRk.cnt;have kp:=hRk.ok kn;have hsum2:=xek p R.1;have a3:=qeo (m5 p R.1) af;rw[qzu hp kp]at a3;have a4:=xnw p (m5 p R.1);rw[qtn hp kp]at a4;have a5:=qcb R.1;rw[kp]at a5;obtain⟨L,hL⟩:∃L,m5 p s=L:=⟨_,rfl⟩
  obtain⟨M,hM⟩:∃M,m5 p R.1=M:=⟨_,rfl⟩
  rw[hL]at a1 a2 it;simp only[hL,hM]at r1;rw[hM]at a3 a4;simp-dsimp[go_sem,hN,Plc.c];refine iv a1 ?_;simp-dsimp[go_sem,hN,it];refine iv a2 ?_;simp-dsimp[go_sem,hN,Plc.c];refine iy (r1 _ (jp _)) ?_;rintro r h' ⟨rfl,he⟩;rw[he];simp-dsimp[go_sem,hN];refine iv a3 ?_;simp-dsimp[go_sem,hN];refine kq (xj0 s) ac ?_;simp-dsimp[go_sem,hN,hcnt,Plc.c];refine kq a4 ac ?_;simp-dsimp[go_sem,hN];refine kq a5 ac ?_;simp-dsimp[go_sem,hN];refine qdz (λ_=>qbo _ (jp _)) ac ?_ (λh=>h);simp-dsimp[go_sem,hN];exact⟨_,.refl _,h,ag,ag,ac,aq,rfl,rfl⟩
theorem jaa{fmt:Int->ig}{procs:List Proc}{p:Plc}{s:List Pr}{txns:List Txn}(hB:BatchIn fmt procs txns)(hr:l6 s)(a b:List Int):qmr fmt procs p (m5 p s) txns a=qmr fmt procs p (m5 p s) txns b:=by
 by_cases h:jy p=true/\jl s=true
 .grind[xae]
 .grind[xk6]
theorem jo6(procs:List Proc)(p:Plc)(s:List Pr)(txns:List Txn)(one two:List Int)(h:g9)(hg:h[g]?=some (rn tT tx))(hB:BatchIn ku procs txns)(hs:l6 s)(hT:txns.length<=1048576)(hS:s.length<=1048576) :
  ACalls prog 6 [.slice (procs.map Proc.c),.agg p.c,.slice (s.map Pr.c),.slice (txns.map Txn.c),.slice (one.map ka),.slice (two.map ka)] h λr h'=>r=.ret (Bo true)/\h'=h:=by
 have v7:g<h.length:=(cm.1 hg).1;have jp:∀l:g9,(h++l)[g]?=some (rn tT tx):=λl=>by rw[co v7];exact hg
 have a1:=qxs p s;have r1:=λH hH=>qd8 (g:=g) (tT:=tT) (tx:=tx) (H:=H) (procs:=procs) (p:=p) (l:=m5 p s) (txns:=txns) (choices:=one) hH hB (qwj hs) hT (λx hx=>by have:=qyq x hx;omega);have r2:=λH hH=>qd8 (g:=g) (tT:=tT) (tx:=tx) (H:=H) (procs:=procs) (p:=p) (l:=m5 p s) (txns:=txns) (choices:=two) hH hB (qwj hs) hT (λx hx=>by have:=qyq x hx;omega);obtain⟨A,hA⟩:∃A,qmr ku procs p (m5 p s) txns one=A:=⟨_,rfl⟩
 simp only[jaa hB hs two one]at r2;simp only[hA]at r1 r2;obtain⟨L,hL⟩:∃L,m5 p s=L:=⟨_,rfl⟩
 rw[hL]at a1;simp only[hL]at r1 r2;refine re func6 rfl ae ac ?_;intro E hN hh hu hb iq ju;rw[ntmps6]at hN;refine jo _ _ _ ?_;simp-dsimp[go_sem,hN,Plc.c];refine iv a1 ?_;simp-dsimp[go_sem,hN,Plc.c];refine iy (r1 _ (jp _)) ?_;rintro r h' ⟨rfl,he⟩;rw[he];simp-dsimp[go_sem,hN,Plc.c];refine iy (r2 _ (jp _)) ?_;rintro r h' ⟨rfl,he⟩;rw[he];simp-dsimp[go_sem,hN];refine iv (jg1 A.1) ?_;simp-dsimp[go_sem,hN];refine kq (xmn A.2) ac ?_;simp-dsimp[go_sem,hN];refine qdz (λ_=>qbo _ (jp _)) ac ?_ (λh=>h);simp-dsimp[go_sem,hN];exact⟨_,.refl _,h,ag,ag,ac,aq,rfl,rfl⟩
end
section
variable {tT:TypeId} {tx:Nat×Nat} {g:Nat}
theorem jm0(procs:List Proc)(p q:Plc)(s:List Pr)(txns:List Txn)(choices:List Int)(h:g9)(hg:h[g]?=some (rn tT tx))(hB:BatchIn ku procs txns)(hs:l6 s)(hT:txns.length<=1048576)(hS:s.length<=1048576) :
  ACalls prog 9 [.slice (procs.map Proc.c),.agg p.c,.agg q.c,.slice (s.map Pr.c),.slice (txns.map Txn.c),.slice (choices.map ka)] h λr h'=>r=.ret (Bo true)/\h'=h:=by
 have v7:g<h.length:=(cm.1 hg).1;have jp:∀l:g9,(h++l)[g]?=some (rn tT tx):=λl=>by rw[co v7];exact hg
 have a0:=qcb s;have a1:=qxs p s;have a2:=qxs q s;have r1:=λH hH=>qd8 (g:=g) (tT:=tT) (tx:=tx) (H:=H) (procs:=procs) (p:=p) (l:=m5 p s) (txns:=txns) (choices:=choices) hH hB (qwj hs) hT (λx hx=>by have:=qyq x hx;omega);have r2:=λH hH=>qd8 (g:=g) (tT:=tT) (tx:=tx) (H:=H) (procs:=procs) (p:=q) (l:=m5 q s) (txns:=txns) (choices:=choices) hH hB (qwj hs) hT (λx hx=>by have:=qyq x hx;omega);refine re func9 rfl ae ac ?_;intro E hN hh hu hb iq ju;rw[ntmps9]at hN;refine jo _ _ _ ?_;rcases kn:jl s with _|_
 .rw[kn]at a0;simp-dsimp[go_sem,hN,Plc.c];refine iv a0 ?_;simp-dsimp[go_sem,hN];refine iy (qbo (tT:=tT) (tx:=tx) (g:=g) _ (jp _)) ?_;rintro r h' ⟨rfl,he⟩;rw[he];simp-dsimp[go_sem,hN];exact⟨_,.refl _,h,ag,ag,ac,aq,rfl,rfl⟩
 rw[kn]at a0;have hRk:=xay hs txns hB;have e1:∃M E,qmr ku procs p (m5 p s) txns choices=(M,E)/\(M.length≠0->E=(qt ku procs s txns).2/\qlw M=((qt ku procs s txns).1,0)/\qk0 M<68719476736):=by
  by_cases hp:jy p=true
  .refine⟨_,_,xae hB hs hp kn,λ_=>⟨rfl,qzu hp (hRk.ok kn),?_⟩⟩;have:=xek p (qt ku procs s txns).1;have:=hRk.len;unfold qk0;omega
  .exact⟨_,_,xk6 (λh=>hp h.1),λh=>(h rfl).elim⟩
 have e2:∃M E,qmr ku procs q (m5 q s) txns choices=(M,E)/\(M.length≠0->E=(qt ku procs s txns).2/\qlw M=((qt ku procs s txns).1,0)/\qk0 M<68719476736):=by
  by_cases hp:jy q=true
  .refine⟨_,_,xae hB hs hp kn,λ_=>⟨rfl,qzu hp (hRk.ok kn),?_⟩⟩;have:=xek q (qt ku procs s txns).1;have:=hRk.len;unfold qk0;omega
  .exact⟨_,_,xk6 (λh=>hp h.1),λh=>(h rfl).elim⟩
 obtain⟨M,E,e1,m1⟩:=e1;obtain⟨M',E',e2,m2⟩:=e2;simp only[e1]at r1;simp only[e2]at r2;obtain⟨L,hL⟩:∃L,m5 p s=L:=⟨_,rfl⟩
 obtain⟨L',hL'⟩:∃L',m5 q s=L':=⟨_,rfl⟩
 obtain⟨R,hR⟩:∃R,qt ku procs s txns=R:=⟨_,rfl⟩
 rw[hL]at a1;rw[hL']at a2;simp only[hL]at r1;simp only[hL']at r2;rw[hR]at m1 m2;simp-dsimp[go_sem,hN,Plc.c];refine iv a0 ?_;simp-dsimp[go_sem,hN,Plc.c];refine jt 12 mixed ae ae ?_;simp-dsimp[go_sem,hN,Plc.c];refine m6 a1 ac ?_;simp-dsimp[go_sem,hN,Plc.c];refine xjo (λ_=>xna r1 (jp _)) ac ?_;simp-dsimp[go_sem,hN,Plc.c];refine jt 12 mixed ae ae ?_;simp-dsimp[go_sem,hN,Plc.c];refine m6 a2 ac ?_;simp-dsimp[go_sem,hN,Plc.c];refine xjo (λ_=>xna r2 (jp _)) ac ?_;simp-dsimp[go_sem,hN];refine ii (λh0=>?_) (λh0=>?_)
 .simp-dsimp[go_sem,hN];refine iy (qbo (tT:=tT) (tx:=tx) (g:=g) _ (jp _)) ?_;rintro r h' ⟨rfl,he⟩;rw[he];simp-dsimp[go_sem,hN];exact⟨_,.refl _,h,ag,ag,ac,aq,rfl,rfl⟩
 .have hM:M.length≠0:=λe=>by
   rw[qjp]at e;simp[e]at h0
  have hM':M'.length≠0:=λe=>by grind
  obtain⟨rfl,g1,n1⟩:=m1 hM;obtain⟨rfl,g2,n2⟩:=m2 hM';have a3:=qeo M n1;have a4:=qeo M' n2;rw[g1]at a3;rw[g2]at a4;simp-dsimp[go_sem,hN];refine iv a3 ?_;simp-dsimp[go_sem,hN];refine iv a4 ?_;simp-dsimp[go_sem,hN];refine kq (xj0 R.1) ac ?_;simp-dsimp[go_sem,hN];refine kq (xmn R.2) ac ?_;simp-dsimp[go_sem,hN];refine qdz (λ_=>qbo _ (jp _)) ac ?_ (λh=>h);simp-dsimp[go_sem,hN];exact⟨_,.refl _,h,ag,ag,ac,aq,rfl,rfl⟩
end
section
variable {H:Type} {enc:TypeId×Value->H} {w:World}
theorem xmi{d:DataW H}{l:List (DataW H)}(h:d∈l):Rows.uptoBulk d<=Rows.uptoBulkAll l:=by
 induction l with
 |nil=>cases h
 |cons x r ih =>
  simp only[Rows.uptoBulkAll];rcases c0.1 h with rfl|e
  .omega
  .grind
theorem jib(d:DataW H):1<=Rows.uptoBulk d:=by
 cases d with
 |lit l=>cases l<;>simp[Rows.uptoBulk]
 |nil=>simp[Rows.uptoBulk]
 |ptr d=>simp[Rows.uptoBulk]
 |slice qqy spare=>simp[Rows.uptoBulk]
 |agg parts=>simp[Rows.uptoBulk]
 |iface t d=>simp[Rows.uptoBulk]
 |map entries=>simp[Rows.uptoBulk]
 |held h=>simp[Rows.uptoBulk]
theorem jh5(l:List (DataW H)):l.length<=Rows.uptoBulkAll l:=by
 induction l with
 |nil=>simp[Rows.uptoBulkAll]
 |cons x r ih=>have:=jib x;simp only[Rows.uptoBulkAll,dy];omega
theorem qmu:Bulk (H:=H) Rows.uptoBulk where
 str:=λs=>by simp[Rows.uptoBulk]
 len:=λe s=>by have:=jh5 e;simp only[Rows.uptoBulk];omega
 sl:=λe s x hx=>by have:=xmi hx;simp only[Rows.uptoBulk];omega
 agg:=λps x hx=>by have:=xmi hx;simp only[Rows.uptoBulk];omega
abbrev UB:Nat:=1048576
variable (enc w) in
abbrev RD(n:Nat)(t:TypeId)(Q:List AV->Prop):Prop:=Rd enc prog w Rows.uptoBulk UB n t Q
theorem xeh:UB<=68719476736:=ba
def vq{α:Type}(c:α->List AV)(zm:α->Prop)(xs:List AV):Prop:=∃a,xs=c a/\zm a
def qnj(s:ig):Prop:=s.size<=UB
def zx{α:Type}(zm:α->Prop)(l:List α):Prop:=l.length<=UB/\∀a∈l,zm a
def vi{α:Type}(c:α->List AV)(zm:α->Prop)(xs:List AV):Prop:=vq (λl:List α=>[.slice (l.map c)]) (zx zm) xs
theorem qri{n:Nat}{t e:TypeId}(ht:prog.underlying t=some (.slice e)){sz:Nat}(jx:prog.cellsOf e=sz)(h0:0<sz){α:Type}{c:α->List AV}{zm:α->Prop}(hl:∀a,(c a).length=sz)(he:RD enc w n e (vq c zm)):RD enc w n t (vi c zm):=by
 refine(xp6 qmu xeh ht jx h0 (by rintro _ ⟨a,rfl,_⟩;exact hl a) he).mono ?_;rintro _ ⟨rows,rfl,jm,hq⟩;obtain⟨l,rfl,hg⟩:=xgl hq;exact⟨l,rfl,by simpa using jm,hg⟩
theorem qtp{α:Type}{c:α->List AV}{zm:α->Prop}:∀xs,vi c zm xs->xs.length=1:=by rintro _ ⟨l,rfl,_⟩;rfl
theorem qrx{n:Nat}:RD enc w n 3 (qkv .i64):=xry ba underlying3
theorem xda{n:Nat}:RD enc w n 2 (qkv .i64):=xry ba underlying2
theorem qsz{n:Nat}:RD enc w n 9 (qpq UB):=xxh qmu xeh underlying9
theorem jig{n:Nat}:RD enc w n 4 xb9:=jgy underlying4
theorem xex{z:Int}(h:IntKind.i64.min<=z/\z<=IntKind.i64.max):i64 z:=⟨h.1,h.2⟩
theorem xpr:∀{n:Nat},RD enc w n 57 (vq V.c oj)
 | 0=>Rd.zero
 |n+1=>by
  refine(qdd (Qs:=[qkv .i64,qkv .i64,qpq UB]) qmu underlying57 ?_).mono ?_
  .simp only[qn4];exact⟨ac,1,ae,qrx,qek,ac,1,ae,xda,qek,ac,1,ae,qsz,qtw,qeu⟩
  .rintro _ ⟨ps,vu,rfl⟩;obtain⟨_,_,rfl,⟨k,rfl,_⟩,rt⟩:=pk vu;obtain⟨_,_,rfl,⟨z,rfl,hz⟩,we⟩:=pk rt;obtain⟨_,_,rfl,⟨s,rfl,hs⟩,hp3⟩:=pk we;obtain rfl:=qde hp3;exact⟨⟨k,z,s⟩,rfl,xex hz,by show s.size<=_;unfold UB at hs;omega⟩
def gP(p:Pr):Prop:=p.key.size<=UB/\oj p.v
theorem xnk:∀{n:Nat},RD enc w n 59 (vq Pr.c gP)
 | 0=>Rd.zero
 |n+1=>by
  refine(qdd (Qs:=[qpq UB,vq V.c oj]) qmu underlying59 ?_).mono ?_
  .simp only[qn4];exact⟨ac,1,ae,qsz,qtw,ac,3,ae,xpr,by rintro _ ⟨v,rfl,_⟩;rfl,qeu⟩
  .rintro _ ⟨ps,vu,rfl⟩;obtain⟨_,_,rfl,⟨k,rfl,hk⟩,rt⟩:=pk vu;obtain⟨_,_,rfl,⟨v,rfl,hv⟩,we⟩:=pk rt;obtain rfl:=qde we;exact⟨⟨k,v⟩,rfl,hk,hv⟩
theorem xu1{n:Nat}:RD enc w n 73 (vi V.c oj):=qri underlying73 (sz:=3) ae ba (λ_=>rfl) xpr
theorem jgo{n:Nat}:RD enc w n 28 (vi Pr.c gP):=qri underlying28 (sz:=4) ae ba (λ_=>rfl) xnk
theorem xlk{n:Nat}:RD enc w n 74 (vi ja qnj):=qri underlying74 (sz:=1) ae ba (λ_=>rfl) (qsz.mono (by rintro _ ⟨s,rfl,hs⟩;exact⟨s,rfl,hs⟩))
theorem xjn:∀(n:Nat),RD enc w n 64 (vq Ex.c vd)
 | 0=>Rd.zero
 |n+1=>by
  have hs:RD enc w n 62 (vi Ex.c vd):=qri underlying62 (sz:=4) ae ba (λe=>by rw[Ex.c_eq];rfl) (xjn n);refine(qdd (Qs:=[qkv .i64,qkv .i64,qpq UB,vi Ex.c vd]) qmu underlying64 ?_).mono ?_
  .simp only[qn4];exact⟨ac,1,ae,qrx,qek,ac,1,ae,xda,qek,ac,1,ae,qsz,qtw,ac,1,ae,hs,qtp,qeu⟩
  .rintro _ ⟨ps,vu,rfl⟩;obtain⟨_,_,rfl,⟨k,rfl,_⟩,rt⟩:=pk vu;obtain⟨_,_,rfl,⟨z,rfl,hz⟩,we⟩:=pk rt;obtain⟨_,_,rfl,⟨s,rfl,hs⟩,hp3⟩:=pk we;obtain⟨_,_,rfl,⟨l,rfl,hl⟩,hp4⟩:=pk hp3;obtain rfl:=qde hp4;refine⟨.mk k z s l,by rw[Ex.c_eq];rfl,(qw1 _).2 ⟨⟨xex hz,by show s.size<=_;unfold UB at hs;omega⟩,hl.2⟩⟩
theorem xm6:∀(n:Nat),RD enc w n 70 (vq St.c qky)
 | 0=>Rd.zero
 |n+1=>by
  have hs:RD enc w n 68 (vi St.c qky):=qri underlying68 (sz:=13) ae ba (λe=>by rw[St.c_eq];rfl) (xm6 n);refine(qdd (Qs:=[qkv .i64,qpq UB,qkv .i64,vq Ex.c vd,vq Ex.c vd,vi St.c qky,vi St.c qky]) qmu underlying70 ?_).mono ?_
  .simp only[qn4];exact⟨ac,1,ae,qrx,qek,ac,1,ae,qsz,qtw,ac,1,ae,qrx,qek,ac,4,ae,xjn n,qiv,ac,4,ae,xjn n,qiv,ac,1,ae,hs,qtp,ac,1,ae,hs,qtp,qeu⟩
  .rintro _ ⟨ps,vu,rfl⟩;obtain⟨_,_,rfl,⟨k,rfl,_⟩,rt⟩:=pk vu;obtain⟨_,_,rfl,⟨s,rfl,hs⟩,we⟩:=pk rt;obtain⟨_,_,rfl,⟨m,rfl,_⟩,hp3⟩:=pk we;obtain⟨_,_,rfl,⟨a,rfl,ha⟩,hp4⟩:=pk hp3;obtain⟨_,_,rfl,⟨b,rfl,hb⟩,hp5⟩:=pk hp4;obtain⟨_,_,rfl,⟨l,rfl,hl⟩,hp6⟩:=pk hp5;obtain⟨_,_,rfl,⟨l',rfl,po⟩,hp7⟩:=pk hp6;obtain rfl:=qde hp7;refine⟨.mk k s m a b l l',?_,(xhy _).2 ⟨ha,hb,hl.2,po.2⟩⟩;simp[St.c,St.cl_map]
theorem jfx{n:Nat}:RD enc w n 68 (vi St.c qky):=qri underlying68 (sz:=13) ae ba (λe=>by rw[St.c_eq];rfl) (xm6 n)
theorem jku:∀{n:Nat},RD enc w n 66 (vq Param.c λp=>qnj p.name)
 | 0=>Rd.zero
 |n+1=>by
  refine(qdd (Qs:=[qpq UB,qkv .i64]) qmu underlying66 ?_).mono ?_
  .simp only[qn4];exact⟨ac,1,ae,qsz,qtw,ac,1,ae,qrx,qek,qeu⟩
  .rintro _ ⟨ps,vu,rfl⟩;obtain⟨_,_,rfl,⟨s,rfl,hs⟩,rt⟩:=pk vu;obtain⟨_,_,rfl,⟨k,rfl,_⟩,we⟩:=pk rt;obtain rfl:=qde we;exact⟨⟨s,k⟩,rfl,hs⟩
theorem jce{n:Nat}:RD enc w n 67 (vi Param.c λp=>qnj p.name):=qri underlying67 (sz:=2) ae ba (λ_=>rfl) jku
def xii(p:Proc):Prop:=qnj p.name/\zx (λx:Param=>qnj x.name) p.params/\zx qky p.body
theorem xwl:∀{n:Nat},RD enc w n 72 (vq Proc.c xii)
 | 0=>Rd.zero
 |n+1=>by
  refine(qdd (Qs:=[qpq UB,vi Param.c λp=>qnj p.name,vi St.c qky]) qmu underlying72 ?_).mono ?_
  .simp only[qn4];exact⟨ac,1,ae,qsz,qtw,ac,1,ae,jce,qtp,ac,1,ae,jfx,qtp,qeu⟩
  .rintro _ ⟨ps,vu,rfl⟩;obtain⟨_,_,rfl,⟨s,rfl,hs⟩,rt⟩:=pk vu;obtain⟨_,_,rfl,⟨l,rfl,hl⟩,we⟩:=pk rt;obtain⟨_,_,rfl,⟨b,rfl,hb⟩,hp3⟩:=pk we;obtain rfl:=qde hp3;exact⟨⟨s,l,b⟩,rfl,hs,hl,hb⟩
def xkj(f:Foot):Prop:=zx qnj f.reads/\zx qnj f.writes
theorem jcm:∀{n:Nat},RD enc w n 76 (vq Foot.c xkj)
 | 0=>Rd.zero
 |n+1=>by
  refine(qdd (Qs:=[xb9,vi ja qnj,vi ja qnj]) qmu underlying76 ?_).mono ?_
  .simp only[qn4];exact⟨ac,1,ae,jig,jbj,ac,1,ae,xlk,qtp,ac,1,ae,xlk,qtp,qeu⟩
  .rintro _ ⟨ps,vu,rfl⟩;obtain⟨_,_,rfl,⟨b,rfl⟩,rt⟩:=pk vu;obtain⟨_,_,rfl,⟨l,rfl,hl⟩,we⟩:=pk rt;obtain⟨_,_,rfl,⟨l',rfl,po⟩,hp3⟩:=pk we;obtain rfl:=qde hp3;exact⟨⟨b,l,l'⟩,rfl,hl,po⟩
structure gEff(e:Eff):Prop where
 out:zx oj e.out
 reads:zx qnj e.reads
 puts:zx qnj e.puts
 writes:zx gP e.writes
 miss:qnj e.miss
end
section
variable {H:Type} {enc:TypeId×Value->H} {w:World}
structure gTxn(t:Txn):Prop where
 id:i64 t.id
 proc:qnj t.proc
 args:zx oj t.args
 ft:xkj t.ft
 att:i64 t.att
theorem xvj:∀{n:Nat},RD enc w n 78 (vq Txn.c gTxn)
 | 0=>Rd.zero
 |n+1=>by
  refine(qdd (Qs:=[qkv .i64,qpq UB,vi V.c oj,vq Foot.c xkj,qkv .i64]) qmu underlying78 ?_).mono ?_
  .simp only[qn4];exact⟨ac,1,ae,xda,qek,ac,1,ae,qsz,qtw,ac,1,ae,xu1,qtp,ac,3,ae,jcm,by rintro _ ⟨v,rfl,_⟩;rfl,ac,1,ae,qrx,qek,qeu⟩
  .rintro _ ⟨ps,vu,rfl⟩;obtain⟨_,_,rfl,⟨k,rfl,hk⟩,rt⟩:=pk vu;obtain⟨_,_,rfl,⟨s,rfl,hs⟩,we⟩:=pk rt;obtain⟨_,_,rfl,⟨l,rfl,hl⟩,hp3⟩:=pk we;obtain⟨_,_,rfl,⟨f,rfl,hf⟩,hp4⟩:=pk hp3;obtain⟨_,_,rfl,⟨z,rfl,hz⟩,hp5⟩:=pk hp4;obtain rfl:=qde hp5;exact⟨⟨k,s,l,f,z⟩,rfl,xex hk,hs,hl,hf,xex hz⟩
theorem jka{n:Nat}:RD enc w n 33 (vi Txn.c gTxn):=qri underlying33 (sz:=7) ae ba (λ_=>rfl) xvj
theorem xww{n:Nat}:RD enc w n 32 (vi Proc.c xii):=qri underlying32 (sz:=3) ae ba (λ_=>rfl) xwl
theorem jg2{procs:List Proc}{l:List Txn}(hp:zx xii procs)(hl:zx gTxn l):BatchIn ku procs l:=⟨xk9,λp h=>(hp.2 p h).2.2.2,λt h=>(hl.2 t h).args.2⟩
theorem jcv{s:List Pr}(h:zx gP s):l6 s:=λq hq=>(h.2 q hq).2
end
end Go.Proofs.YtolejdhnnchfpaaGreatDoor
namespace Go.Proofs.YtolejdhnnchfpaaGreatDoor
open Go Go.Abs Go.Cw Go.ChangeShapes Go.WideShapes Go.ChangeAt Go.RowKit Go.Proofs.Tryz
theorem laidOut:laidOutB prog=true:=ae
theorem jh1:ownKnob prog.godebug=none:=ae
abbrev xc5:List (String×DataW Unit):=[("math/bits.deBruijn32tab",Rows.laid_math_bits_deBruijn32tab),("math/bits.deBruijn64tab",Rows.laid_math_bits_deBruijn64tab),("internal/strconv.uint64pow10",Rows.laid_internal_strconv_uint64pow10)]
abbrev qu4:Nat:=1
theorem table{W:World}(h:laidMetH prog xc5 W):Lib.TabIs prog W "internal/strconv.uint64pow10" .u64 Lib.pow10Tab :=
 Lib.tabIs_of_head (rest:=[]) (g:=qu4) (n:=20) ae ae underlying380 underlying185 ae ae (laidMet.tail (laidMet.tail (show laidMet prog xc5 W from h)))
theorem xx9{W:World}(h:laidMetH prog xc5 W):∃T x,W.heap[qu4]?=some (.cells xdv T x):=by
 have h1:=table h;unfold Lib.TabIs World.var? at h1
 rw[show prog.globalNamed "internal/strconv.uint64pow10" = some qu4 by kernel_rfl]at h1
 simp only[fp]at h1;split at h1
 .rename_i cs T x hx;cases h1;exact⟨T,x,hx⟩
 .cases h1
theorem xyy:∀(j:Nat) (v:Value),xdv[j]?=some v->∃n,v=.int .u64 n:=by
 intro j v hv;unfold xdv at hv;have:(Lib.pow10Tab.map λz=>Value.int .u64 z)[j]?=some v:=qh2;rw[di,db]at this;obtain⟨z,_,rfl⟩:=this;exact⟨z,rfl⟩
def xke(zs:List Value):Obj->Obj
 | .cells _ t fr=>.cells zs.toArray t fr
 |o=>o
def xkg(d:DataW Unit):List Value:=match d with
 | .agg ps=>ps.map λ| .lit (.int k n)=>.int k n|_=>undef
 |_=>[]
noncomputable def xkr(os:Os):World :=
 { World.holding prog os ⟨#[],#[],[]⟩with heap:=(((World.holding prog os ⟨#[],#[],[]⟩).heap.modify qu4 (xke (xkg Rows.laid_internal_strconv_uint64pow10))).modify 2 (xke (xkg Rows.laid_math_bits_deBruijn32tab))).modify 3 (xke (xkg Rows.laid_math_bits_deBruijn64tab)) }
section
variable {H:Type} {enc:TypeId×Value->H} {W:World} {base:Nat}
theorem okWide_struct{t:TypeId}{fs:Array Field}(ht:prog.underlying t=some (.struct fs)){v:Value}(h:Value.okWide prog W .any base t v):∃cs,v=.agg cs:=by
 unfold Value.okWide at h;rw[ht]at h;obtain⟨cs,rfl,_⟩:=h;exact⟨cs,rfl⟩
theorem okWide_slice{t e:TypeId}(ht:prog.underlying t=some (.slice e)){v:Value}(h:Value.okWide prog W .any base t v):v.cells = #[v]:=by
 unfold Value.okWide at h;rw[ht]at h;simp only at h;unfold Cell.okWide at h;rw[ht]at h;cases v<;>first|rfl|skip
 unfold Cell.ok at h;rw[ht]at h;exact h.elim
theorem xys{t:TypeId}{fs:Array Field}(ht:prog.underlying t=some (.struct fs)){v:Value}{d:DataW H}{ps:List MemPlace}(hv:Value.okWide prog W .any base t v)(h:DataW.Trod enc prog W 0 (λ_=>true) true t v d ps)
  {α:Type} {c:α->List AV} {zm:α->Prop} (hr:∀n,RD enc W n t (vq c zm)) (hb:Rows.uptoBulk d<=UB):∃a,Rel (qqo W qu4) (.agg (c a)) v/\zm a:=by
 obtain⟨cs,rfl⟩:=okWide_struct ht hv;obtain⟨kh,hf⟩:=h;obtain⟨_,hd,a,rfl,hg⟩:=hr kh kh _ _ _ (cn _) hf hb;exact⟨a,xxq hd,hg⟩
theorem xco{t e:TypeId}(ht:prog.underlying t=some (.slice e)){v:Value}{d:DataW H}{ps:List MemPlace}(hv:Value.okWide prog W .any base t v)(h:DataW.Trod enc prog W 0 (λ_=>true) true t v d ps)
  {α:Type} {c:α->List AV} {zm:α->Prop} (hr:∀n,RD enc W n t (vi c zm)) (hb:Rows.uptoBulk d<=UB):∃l:List α,Rel (qqo W qu4) (.slice (l.map c)) v/\zx zm l:=by
 obtain⟨kh,hf⟩:=h;rw[okWide_slice ht hv]at hf;obtain⟨_,hd,l,rfl,hg⟩:=hr kh kh _ _ _ (cn _) hf hb;exact⟨l,xni hd,hg⟩
end
theorem jbq:laidOutB Tryz.pinned.checked.prog=true:=ae
theorem jac:mapsRowed Tryz.pinned.checked.prog=true:=ae
theorem xza:Tryz.pinned.checked.prog.stopsHeard=true:=ae
theorem xwc:Tryz.pinned.checked.prog.mayEnter=true:=ae
end Go.Proofs.YtolejdhnnchfpaaGreatDoor
namespace Go.Proofs.YtolejdhnnchfpaaGreatDoor
open Go Go.Abs Go.Cw Go.Proofs.Tryz
section
variable {H:Type} {enc:TypeId×Value->H} {w:World}
theorem jj0{n:Nat}:RD enc w n 34 (vi ka i64):=qri underlying34 (sz:=1) ae ba (λ_=>rfl) (qrx.mono (by rintro _ ⟨z,rfl,h1,h2⟩;exact⟨z,rfl,h1,h2⟩))
theorem xm8:∀l:List (DataW H),(l.map Rows.uptoBulk).sum=Rows.uptoBulkAll l
 | []=>rfl
 |x::r=>by rw[dj,qjw,xm8 r,Rows.uptoBulkAll]
theorem xvb(e s:List (DataW H)):(e.map Rows.uptoBulk).sum<=Rows.uptoBulk (.slice e s):=by
 rw[xm8];simp only[Rows.uptoBulk];omega
theorem jiu:∀{n:Nat},RD enc w n 61 (vq Part.c λ_=>True)
 | 0=>Rd.zero
 |n+1=>by
  refine(qdd (Qs:=[qkv .i64,qpq UB,qkv .i64,qkv .i64,qpq UB]) qmu underlying61 ?_).mono ?_
  .simp only[qn4];exact⟨ac,1,ae,qrx,qek,ac,1,ae,qsz,qtw,ac,1,ae,qrx,qek,ac,1,ae,qrx,qek,ac,1,ae,qsz,qtw,qeu⟩
  .rintro _ ⟨ps,vu,rfl⟩;obtain⟨_,_,rfl,⟨a,rfl,_⟩,rt⟩:=pk vu;obtain⟨_,_,rfl,⟨b,rfl,_⟩,we⟩:=pk rt;obtain⟨_,_,rfl,⟨c,rfl,_⟩,hp3⟩:=pk we;obtain⟨_,_,rfl,⟨d,rfl,_⟩,hp4⟩:=pk hp3;obtain⟨_,_,rfl,⟨e,rfl,_⟩,hp5⟩:=pk hp4;obtain rfl:=qde hp5;exact⟨⟨a,b,c,d,e⟩,rfl,trivial⟩
theorem jdn{n:Nat}:RD enc w n 22 (vi Part.c λ_=>True):=qri underlying22 (sz:=5) ae ba (λ_=>rfl) jiu
theorem jkc:∀{n:Nat},RD enc w n 24 (vq Plc.c λ_=>True)
 | 0=>Rd.zero
 |n+1=>by
  refine(qdd (Qs:=[qkv .i64,vi Part.c λ_=>True]) qmu underlying24 ?_).mono ?_
  .simp only[qn4];exact⟨ac,1,ae,xda,qek,ac,1,ae,jdn,qtp,qeu⟩
  .rintro _ ⟨ps,vu,rfl⟩;obtain⟨_,_,rfl,⟨a,rfl,_⟩,rt⟩:=pk vu;obtain⟨_,_,rfl,⟨l,rfl,_⟩,we⟩:=pk rt;obtain rfl:=qde we;exact⟨⟨a,l⟩,rfl,trivial⟩
def gSh(k:Nat)(x:Shard):Prop:=zx gP x.prs/\x.prs.length<=k
theorem jic{k:Nat}(hk:k<=UB):∀{n:Nat},Rd enc prog w Rows.uptoBulk k n 53 (vq Shard.c (gSh k))
 | 0=>Rd.zero
 |n+1=>by
  have hP:Rd enc prog w Rows.uptoBulk k n 28 (vq (λl:List Pr=>[.slice (l.map Pr.c)]) λl=>zx gP l/\l.length<=k):=by
   refine(xp6 qmu (dv hk xeh) underlying28 (sz:=4) ae ba (by rintro _ ⟨a,rfl,_⟩;rfl) (λkh cs d ps hf ht hb=>xnk (n:=n) kh cs d ps hf ht (dv hb hk))).mono ?_;rintro _ ⟨rows,rfl,jm,hq⟩;obtain⟨l,rfl,hg⟩:=xgl hq;rw[eo]at jm;exact⟨l,rfl,⟨dv jm hk,hg⟩,jm⟩
  refine(qdd (Qs:=[qkv .i64,vq (λl:List Pr=>[.slice (l.map Pr.c)]) λl=>zx gP l/\l.length<=k]) qmu underlying53 ?_).mono ?_
  .simp only[qn4];exact⟨ac,1,ae,(λkh cs d ps hf ht hb=>qrx (n:=n) kh cs d ps hf ht (dv hb hk)),qek,ac,1,ae,hP,(by rintro _ ⟨a,rfl,_⟩;rfl),qeu⟩
  .rintro _ ⟨ps,vu,rfl⟩;obtain⟨_,_,rfl,⟨a,rfl,_⟩,rt⟩:=pk vu;obtain⟨_,_,rfl,⟨l,rfl,hl⟩,we⟩:=pk rt;obtain rfl:=qde we;exact⟨⟨a,l⟩,rfl,hl⟩
theorem xm4:∀(rows:List (List AV)) (W:List Nat),W.length=rows.length->(∀(i:Nat) (r:List AV) (k:Nat),rows[i]?=some r->W[i]?=some k->vq Shard.c (gSh k) r)->∃l:List Shard,rows=l.map Shard.c/\(∀x∈l,zx gP x.prs)/\qk0 l<=W.sum
 | [],W,_,_=>⟨[],rfl,ac,dq _⟩
 |r::rows,[],h,_=>by simp at h
 |r::rows,k::W,h,hq=>by
  obtain⟨x,rfl,hx⟩:=hq 0 r k rfl rfl;obtain⟨l,rfl,h1,h2⟩:=xm4 rows W af λi r k hr hk=>hq (i+1) r k af af;refine⟨x::l,rfl,λy hy=>?_,?_⟩
  .rcases c0.1 hy with rfl|hy
   .exact hx.1
   .grind
  .have:=hx.2;unfold qk0 at h2|-;simp only[dj,qjw];omega
structure gShs(l:List Shard):Prop where
 len:l.length<=UB
 prs:∀x∈l,zx gP x.prs
 sum:qk0 l<=UB
theorem jgt{n:Nat}:RD enc w n 25 (vq (λl:List Shard=>[.slice (l.map Shard.c)]) gShs):=by
 refine(jbc qmu xvb xeh underlying25 (sz:=2) ae ba (Q:=λk=>vq Shard.c (gSh k)) (by rintro k _ ⟨a,rfl,_⟩;rfl) (λk hk=>jic hk)).mono ?_;rintro _ ⟨rows,W,rfl,h1,h2,h3,h4⟩;obtain⟨l,rfl,h5,h6⟩:=xm4 rows W h1 h4;exact⟨l,rfl,by simpa using h2,h5,dv h6 h3⟩
theorem jmk{base:Nat}{v:Value}{d:DataW H}{ps:List MemPlace}(hv:Value.okWide prog w .any base 25 v)(h:DataW.Trod enc prog w 0 (λ_=>true) true 25 v d ps)(hb:Rows.uptoBulk d<=UB):∃l:List Shard,Rel (qqo w qu4) (.slice (l.map Shard.c)) v/\gShs l:=by
 obtain⟨kh,hf⟩:=h;rw[okWide_slice underlying25 hv]at hf;obtain⟨_,hd,l,rfl,hg⟩:=jgt (n:=kh) kh _ _ _ (cn _) hf hb;exact⟨l,xni hd,hg⟩
end
end Go.Proofs.YtolejdhnnchfpaaGreatDoor
