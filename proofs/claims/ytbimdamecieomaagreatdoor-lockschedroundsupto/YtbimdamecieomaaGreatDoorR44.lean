/- Part 44 of a proof. -/
import Derived.Shelf.Small.Strs
import Derived.Shelf.Strconv.Itoa4
import Derived.Lib.ItoaLen
import Derived.Test.YtbimdamecieomaaGreatDoorR30
import Derived.Test.YtbimdamecieomaaGreatDoorR43
set_option linter.all false
set_option maxRecDepth 4000
set_option maxHeartbeats 2000000
namespace Go.Proofs.YtbimdamecieomaaGreatDoor
open Go Go.Abs Go.Cw Tryz
theorem xn4(l l':List Int):APure prog 12 [.slice (l.map iw),.slice (l'.map iw)] (Bo (decide (l=l'))):=by
 refine ik func12 ntmps12 rfl ac rfl rfl fun E h hN hh hu hb=>?_;simp[go_sem]at hb;simp-dsimp[go_sem,hN];refine gy ?_ ?_<;>intro h0<;>simp at h0
 ·simp-dsimp[go_sem,hN];intro e;subst e;omega
 have h0:l.length=l'.length:=aa;simp-dsimp[go_sem,hN];refine jl l.length (fun n=>decide (l.drop n=l'.drop n)=decide (l=l')) (fun n=>⟨[(0,.slice (l.map iw)),(1,.slice (l'.map iw)),(5,I n)],h⟩) ae ic ?_;intro n hn hI;have hw:=iv hn hb.1.1;simp-dsimp[go_sem,hN];refine gy ?_ ?_<;>intro hc<;>simp at hc
 ·have qh:n<l'.length:=aa;rw[ji hc,ji qh]at hI;simp-dsimp[go_sem,hN,hc,qh];refine kf 8 mixed ac ac ?_;simp-dsimp[go_sem,hN,hc,qh,iw];refine gy ?_ ?_<;>intro hg<;>simp at hg
  ·simp-dsimp[go_sem,hN];intro e;subst e;exact hg rfl
  ·have e:l[n]=l'[n]:=aa;simp-dsimp[go_sem,hN,hw];simp only[e,List.cons.injEq,true_and]at hI;exact⟨hc,qiv,ic⟩
 ·rw[cv aa,cv aa]at hI;simp-dsimp[go_sem,hN,←hI]
theorem xtx{α:Type}{f:α→α→Bool}:∀(a b:List α),pw f a b=true→a.length=b.length
 | [],[],_=>rfl
 |x::a,y::b,h=>by
  rw[pw,c0]at h;simp[xtx a b h.2]
 | [],_::_,h=>by simp[pw]at h
 |_::_,[],h=>by simp[pw]at h
theorem jc9(a b:List Eff):APure prog 11 [.slice (a.map Eff.c),.slice (b.map Eff.c)] (Bo (pw qpa a b)):=by
 refine ik func11 ntmps11 rfl ac rfl rfl fun E h hN hh hu hb=>?_;simp[go_sem]at hb;simp-dsimp[go_sem,hN];refine gy ?_ ?_<;>intro h0<;>simp at h0
 ·have h1:pw qpa a b=false:=by
   rcases gn (pw qpa a b)with g|g
   ·exact(h0 (by exact_mod_cast xtx a b g)).elim
   ·exact g
  simp-dsimp[go_sem,hN,h1]
 have h0:a.length=b.length:=aa;simp-dsimp[go_sem,hN];refine jl a.length (fun n=>pw qpa (a.drop n) (b.drop n)=pw qpa a b) (fun n=>⟨[(0,.slice (a.map Eff.c)),(1,.slice (b.map Eff.c)),(5,I n)],h⟩) ae ic ?_;intro n hn hI;have hw:=iv hn (show _≤68719476736 by omega);simp-dsimp[go_sem,hN];refine gy ?_ ?_<;>intro hc<;>simp at hc
 ·have ox:n<b.length:=aa;rw[ji hc,ji ox,pw]at hI;simp-dsimp[go_sem,hN,hc,ox];refine kf 8 mixed ac ac ?_;simp-dsimp[go_sem,hN,hc,ox,Eff.c];refine ia (xyx a[n] b[n]) ?_;simp-dsimp[go_sem,hN];refine gy ?_ ?_<;>intro h1<;>simp at h1
  ·rw[h1]at hI;simp-dsimp[go_sem,hN,←hI]
  ·rw[h1]at hI;simp-dsimp[go_sem,hN,hw];exact⟨hc,qiv,ic⟩
 ·rw[cv (show a.length≤n by omega),cv (show b.length≤n by omega),pw]at hI;simp-dsimp[go_sem,hN,←hI]
end Go.Proofs.YtbimdamecieomaaGreatDoor
namespace Go.Proofs.YtbimdamecieomaaGreatDoor
open Go Go.Abs Go.Cw
end Go.Proofs.YtbimdamecieomaaGreatDoor
namespace Go.Proofs.YtbimdamecieomaaGreatDoor
open Go Go.Abs Go.Cw Tryz
def xii:g9:=⟨#[107]⟩
def xol:g9:=⟨#[116,111,117,99,104]⟩
def qwx:Proc:=⟨xol,[⟨xii,2⟩],[.mk 3 em 0 (.mk 3 0 xii []) (.mk 1 1 em []) [] []]⟩
def call24(id:Int)(k:g9):Txn:=⟨id,xol,[⟨2,0,k⟩],⟨false,[],[k]⟩,1⟩
theorem jdv:APure prog 35 [] (.agg qwx.c):=by
 refine ik func35 ntmps35 rfl ac rfl rfl fun E h hN hh hu hb=>?_;simp-dsimp[go_sem,hN];exact⟨rfl,rfl,rfl⟩
theorem qe1(id:Int)(k:g9):APure prog 36 [I id,S k] (.agg (call24 id k).c):=by
 refine ik func36 ntmps36 rfl ac rfl rfl fun E h hN hh hu hb=>?_;simp-dsimp[go_sem,hN];rfl
end Go.Proofs.YtbimdamecieomaaGreatDoor
set_option maxRecDepth 8000
namespace Go.Proofs.YtbimdamecieomaaGreatDoor
open Go Go.Abs Go.Cw
def bk:g9:=⟨#[107]⟩
def bn:g9:=⟨#[110]⟩
def qp1:Proc:=⟨⟨#[97,100,100]⟩,[⟨bk,2⟩,⟨bn,1⟩],[.mk 3 em 0 (.mk 3 0 bk []) (.mk 4 0 em [.mk 22 0 em [.mk 3 0 bk []],.mk 3 0 bn []]) [] []]⟩
theorem xm7(k:Nat)(h:k<10):okB (UInt8.ofNat (48+k))=true:=by
 have:∀k:Fin 10,okB (UInt8.ofNat (48+k.val))=true:=bc;exact this ⟨k,h⟩
theorem xrb:∀(u:Nat),∀b∈Lib.decDigits u,okB b=true:=by
 intro u
 induction u using Nat.strongRecOn with
 |ind u ih =>
  intro b hb;rw[Lib.decDigits]at hb;split at hb
  ·rename_i h;simp only[ei]at hb;subst hb;exact xm7 _ h
  ·rename_i h;rw[dt]at hb;rcases hb with hb|hb
   ·exact ih (u / 10) aa b hb
   ·simp only[ei]at hb;subst hb;exact xm7 _ (Nat.mod_lt _ bc)
theorem xur(n:Int)(hn:i64 n):ml (jh n)=true:=by
 have hl:=Lib.itoa_length_le n hn.1 hn.2;unfold ml;rw[c0,decide_eq_true_eq,xge];refine⟨fun b hb=>?_,?_⟩
 ·have hb:b∈Lib.itoa n:=by simpa[bl,jh]using hb
  unfold Lib.itoa at hb;split at hb
  ·rcases cw.1 hb with rfl|hb
   ·decide
   ·exact xrb _ b hb
  ·exact xrb _ b hb
 ·show(((Lib.itoa n).toArray.size:Nat):Int)≤64;rw[qlj];omega
section
variable {tT:TypeId} {tx:Nat×Nat} {g:Nat}
end
end Go.Proofs.YtbimdamecieomaaGreatDoor
namespace Go.Proofs.YtbimdamecieomaaGreatDoor
open Go Go.Abs Go.Cw Tryz
def qvf:g9:=⟨#[97]⟩
def qvz:g9:=⟨#[98]⟩
def l24(b:g9):List Txn:=[call24 1 qvf,call24 2 b]
theorem jjo:qr6 (l24 qvz) [1] 2=[1,0]:=ac
theorem jic:qr6 (l24 qvz) [0] 2=[0,1]:=ac
theorem xzf:qr6 (l24 qvf) [1] 2=[0,1]:=ac
theorem xvz:kp ⟨2,0,qvf⟩:=⟨⟨bc,bc⟩,bc⟩
theorem xub:kp ⟨2,0,qvz⟩:=⟨⟨bc,bc⟩,bc⟩
theorem xjt{b:g9}(hb:kp ⟨2,0,b⟩):BatchIn jh [qwx] (l24 b):=by
 refine⟨xur,?_,?_⟩
 ·intro p hp t ht;simp only[ei]at hp;subst hp;simp only[qwx,ei]at ht;subst ht;have hz:i64 0:=⟨bc,bc⟩
  have h1:i64 1:=⟨bc,bc⟩
  have hk:su (.mk 3 0 xii []):=(qvc _).2 ⟨⟨hz,bc⟩,by simp[Ex.args]⟩;have hn:su (.mk 1 1 em []):=(qvc _).2 ⟨⟨h1,bc⟩,by simp[Ex.args]⟩;exact(xmg _).2 ⟨hk,hn,by simp[St.body],by simp[St.els]⟩
 ·intro t ht v hv;simp only[l24,cw,ql5,or_false]at ht;rcases ht with rfl|rfl<;>simp only[call24,cw,ql5,or_false]at hv<;>subst hv
  ·exact xvz
  ·exact hb
section
variable {tT:TypeId} {tx:Nat×Nat} {g:Nat}
theorem xw0(h:gz)(hg:h[g]?=some (uu tT tx)):ACalls prog 13 [] h fun r h'=>r=.ret (Bo true)∧h'=h:=by
 refine qda func13 rfl ac (by simp[ntmps13]) ?_;intro E hN hh hu hb il kr;rw[ntmps13]at hN;have x8:g<h.length:=(cq.1 hg).1;have jf:∀l:gz,(h++l)[g]?=some (uu tT tx):=fun l=>by rw[cu x8];exact hg
 have r1:=fun H hH=>xc9 (g:=g) (tT:=tT) (tx:=tx) [qwx] [] (l24 qvz) [1] H hH (xjt xub) qk4 qi5 qi5;have r2:=fun H hH=>xc9 (g:=g) (tT:=tT) (tx:=tx) [qwx] [] (l24 qvz) [0] H hH (xjt xub) qk4 qi5 qi5;have r3:=fun H hH=>xc9 (g:=g) (tT:=tT) (tx:=tx) [qwx] [] (l24 qvf) [1] H hH (xjt xvz) qk4 qi5 qi5;simp only[show ∀b,(l24 b).length=2 from fun _=>rfl,jjo,jic,xzf]at r1 r2 r3;obtain⟨A,hA⟩:∃A,nc jh [qwx] [] (l24 qvz)=A:=⟨_,rfl⟩
 obtain⟨B,hB⟩:∃B,nc jh [qwx] [] (l24 qvf)=B:=⟨_,rfl⟩
 simp only[hA,hB]at r1 r2 r3;have si:=fun l=>xn4 l l;simp only[decide_true]at si;refine ln (ub ?_);simp[go_sem,hN];refine ln (na _ _ _ ?_);simp-dsimp[go_sem,hN];refine ia jdv ?_;simp-dsimp[go_sem,hN];refine ln (na _ _ _ ?_);simp-dsimp[go_sem,hN];refine ia (qe1 1 qvf) ?_;simp-dsimp[go_sem,hN];refine ia (qe1 2 qvz) ?_;simp-dsimp[go_sem,hN,Txn.c,call24];refine it (r1 _ hg) ?_;rintro r h' ⟨rfl,he⟩;rw[he];simp-dsimp[go_sem,hN,iw];refine ln (na _ _ _ ?_);simp-dsimp[go_sem,hN];refine ia (qe1 1 qvf) ?_;simp-dsimp[go_sem,hN];refine ia (qe1 2 qvz) ?_;simp-dsimp[go_sem,hN,Txn.c,call24];refine it (r2 _ hg) ?_;rintro r h' ⟨rfl,he⟩;rw[he];simp-dsimp[go_sem,hN,iw];refine ln (na _ _ _ ?_);simp-dsimp[go_sem,hN];refine ia (qe1 1 qvf) ?_;simp-dsimp[go_sem,hN];refine ia (qe1 2 qvf) ?_;simp-dsimp[go_sem,hN,Txn.c,call24];refine it (r3 _ hg) ?_;rintro r h' ⟨rfl,he⟩;rw[he];simp-dsimp[go_sem,hN,iw];refine ln (yf [_,_,_,_,_] _ ?_);simp[go_sem,hN];refine xnt (si [1,0]) ?_;simp[go_sem,hN];refine xs9 (done:=[_,_,_,_,_]) rfl ?_ ?_ ?_
 ·simp[go_sem,hN]
 ·simp[go_sem,hN]
 simp[go_sem,hN];refine xif (l2:=[_,_,_,_]) [_,_,_,_] [_,_,_,_,_,_] _ rfl ?_;simp[go_sem,hN];refine .inl ⟨_,fun _=>⟨trivial,si [0,1]⟩,?_⟩;simp[go_sem,hN];refine xs9 (done:=[_,_,_,_,_,_,_,_,_,_]) rfl ?_ ?_ ?_
 ·simp[go_sem,hN]
 ·simp[go_sem,hN]
 simp[go_sem,hN];refine qds _ [_,_,_,_,_,_,_,_,_,_,_] _ rfl ?_;simp-dsimp[go_sem,hN];refine ka (si [0,1]) ae ?_;simp-dsimp[go_sem,hN];refine na _ _ _ ?_;simp-dsimp[go_sem,hN];exact⟨_,.refl _,h,af,af,ae,aq,rfl,rfl⟩
end
end Go.Proofs.YtbimdamecieomaaGreatDoor
set_option maxRecDepth 4000
namespace Go.Proofs.YtbimdamecieomaaGreatDoor
open Go Go.Abs Go.Cw Tryz
section
variable {tT:TypeId} {tx:Nat×Nat} {g:Nat}
abbrev qpx(l:List Txn):List Foot:=l.map fun x=>nw x.ft
theorem jhu(l:List Txn):qpx l=(kz l).map nw:=ae
theorem xez(l:List Txn)(order:List Int):v7 (qpx l) order=v7 (kz l) order:=by rw[jhu,joe]
def zF:Foot:=⟨false,[],[]⟩
theorem jkz(procs:List Proc)(s:List Pr)(l:List Txn)(order:List Int)(hl:l.length≤1048576)(iz:v7 (kz l) order=false) :
  APure prog 17 [.slice (procs.map Proc.c),.slice (s.map Pr.c),.slice (l.map Txn.c),.slice (order.map iw)] (.tuple [.slice [],.slice [],I 1]):=by
 refine qbn func17 rfl ac (by simp[ntmps17]) rfl ?_;intro E h hN hh hu hb;rw[ntmps17]at hN;simp[go_sem]at hb;have qo5:=xh5 (qpx l) order cj;rw[xez,iz]at qo5;simp only[qlt]at qo5;refine ln (ub ?_);simp[go_sem,hN];refine ln (yf [_,_] _ ?_);simp[go_sem,hN];intro c a w sm k;refine qy1 sm k (el:=43) (x:=.tmp 19) (d1:=20) (n:=l.length) (sz:=3) (zr:=zF.c) rfl rfl aa rfl af af af aa qgd qgd (by simp[go_sem,qpg,zF,Foot.c]) qgd af aa fun c' a' w' s' k'=>?_;refine xf _ [_,_,_] _ rfl ?_ c' a' w' s' k';simp[go_sem,hN];clear s' k' sm k;refine zy (e1:=⟨[(0,.slice (procs.map Proc.c)),(1,.slice (s.map Pr.c)),(2,.slice (l.map Txn.c)),(3,.slice (order.map iw)),(11,.own h.length l.length)],h++[.arr 43 3 ((qpx l).map Foot.c)]⟩) ?_ ?_
 ·simp-dsimp[go_sem,hN];refine jl l.length (fun n=>True) (fun n=>⟨[(0,.slice (procs.map Proc.c)),(1,.slice (s.map Pr.c)),(2,.slice (l.map Txn.c)),(3,.slice (order.map iw)),(11,.own h.length l.length),(21,.slice (l.map Txn.c)),(22,I l.length),(23,I n)],h++[.uarr 43 3 ((qso zF (fun x:Txn=>nw x.ft) l n).map Foot.c)]⟩) trivial ?_ ?_
  ·rw[xo1,List.map_replicate];exact ic
  intro n hn _;have hw:=iv hn (show _≤68719476736 by omega);have wu:=xss (z:=zF) (f:=fun x:Txn=>nw x.ft) hn;simp-dsimp[go_sem,hN];refine gy ?_ ?_<;>intro hc<;>simp at hc
  ·have ss:=congrArg (List.map Foot.c) (xwx (z:=zF) (f:=fun x:Txn=>nw x.ft) hc);rw[List.map_set]at ss;simp-dsimp[go_sem,hN,hc,Txn.c,Foot.c];refine ia (xgz l[n].ft) ?_;simp-dsimp[go_sem,hN,hc,wu,hw,Foot.c];rw[←ss];exact(ic qhr)
  have pq:n=l.length:=aa;subst pq;rw[xxb];simp-dsimp[go_sem,hN];refine(zt E _ (i:=h.length) (t:=43) (sz:=3) (rows:=(qpx l).map Foot.c) ae).trans ?_;simp;exact Wk.slots bb
 apply na;simp-dsimp[go_sem,hN];refine ia qo5 ?_;simp-dsimp[go_sem,hN]
theorem jbr(procs:List Proc)(s:List Pr)(l:List Txn)(order:List Int)(h:gz)(hg:h[g]?=some (uu tT tx))(hB:BatchIn jh procs l)(hs:p9 s)(hL:s.length+192 * l.length≤60000000000)(hl:l.length≤1048576)(ho:v7 (kz l) order=true) :
  ACalls prog 17 [.slice (procs.map Proc.c),.slice (s.map Pr.c),.slice (l.map Txn.c),.slice (order.map iw)] h fun r h'=>r=.ret (.tuple [.slice ((nc jh procs s l).1.map Pr.c),.own (h.length+2) l.length,I 0])∧h'=h++[.none,.none,.uarr 63 8 ((nc jh procs s l).2.map Eff.c)]:=by
 refine qda func17 rfl ac (by simp[ntmps17]) ?_;intro E hN hh hu hb il kr;rw[ntmps17]at hN;simp[go_sem]at hb;have qo5:=xh5 (qpx l) order cj;rw[xez,ho]at qo5;simp only[qlt]at qo5;have x8:g<h.length:=(cq.1 hg).1;have jf:∀l:gz,(h++l)[g]?=some (uu tT tx):=fun l=>by rw[cu x8];exact hg
 have hol:order.length=l.length:=qkr;refine ln (ub ?_);simp[go_sem,hN];refine ln (yf [_,_] _ ?_);simp[go_sem,hN];intro c a w sm k;refine qy1 sm k (el:=43) (x:=.tmp 19) (d1:=20) (n:=l.length) (sz:=3) (zr:=zF.c) rfl rfl aa rfl af af af aa qgd qgd (by simp[go_sem,qpg,zF,Foot.c]) qgd af aa fun c' a' w' s' k'=>?_;refine xf _ [_,_,_] _ rfl ?_ c' a' w' s' k';simp[go_sem,hN];clear s' k' sm k;refine zy (e1:=⟨[(0,.slice (procs.map Proc.c)),(1,.slice (s.map Pr.c)),(2,.slice (l.map Txn.c)),(3,.slice (order.map iw)),(11,.own h.length l.length)],h++[.arr 43 3 ((qpx l).map Foot.c)]⟩) ?_ ?_
 ·simp-dsimp[go_sem,hN];refine jl l.length (fun n=>True) (fun n=>⟨[(0,.slice (procs.map Proc.c)),(1,.slice (s.map Pr.c)),(2,.slice (l.map Txn.c)),(3,.slice (order.map iw)),(11,.own h.length l.length),(21,.slice (l.map Txn.c)),(22,I l.length),(23,I n)],h++[.uarr 43 3 ((qso zF (fun x:Txn=>nw x.ft) l n).map Foot.c)]⟩) trivial ?_ ?_
  ·rw[xo1,List.map_replicate];exact ic
  intro n hn _;have hw:=iv hn (show _≤68719476736 by omega);have wu:=xss (z:=zF) (f:=fun x:Txn=>nw x.ft) hn;simp-dsimp[go_sem,hN];refine gy ?_ ?_<;>intro hc<;>simp at hc
  ·have ss:=congrArg (List.map Foot.c) (xwx (z:=zF) (f:=fun x:Txn=>nw x.ft) hc);rw[List.map_set]at ss;simp-dsimp[go_sem,hN,hc,Txn.c,Foot.c];refine ia (xgz l[n].ft) ?_;simp-dsimp[go_sem,hN,hc,wu,hw,Foot.c];rw[←ss];exact(ic qhr)
  have pq:n=l.length:=aa;subst pq;rw[xxb];simp-dsimp[go_sem,hN];refine(zt E _ (i:=h.length) (t:=43) (sz:=3) (rows:=(qpx l).map Foot.c) ae).trans ?_;simp;exact Wk.slots bb
 refine ln (na _ _ _ ?_);simp-dsimp[go_sem,hN];refine ia qo5 ?_;simp-dsimp[go_sem,hN];refine ln (na _ _ _ ?_);simp-dsimp[go_sem,hN];refine⟨aa,?_⟩;refine ln (yf [_,_] _ ?_);simp[go_sem,hN];intro c a w sm k;refine qy1 sm k (el:=63) (x:=.tmp 42) (d1:=43) (n:=l.length) (sz:=8) (zr:=[I 0,I 0,.slice [],.slice [],.slice [],.slice [],S em,I 0]) rfl rfl aa rfl af af af aa af af qg3 af af aa fun c' a' w' s' k'=>?_;refine xf _ [_,_,_] _ rfl ?_ c' a' w' s' k';simp[go_sem,hN];clear s' k' sm k;apply na;simp-dsimp[go_sem,hN];refine jl order.length (fun n=>True) (fun n=>⟨[(0,.slice (procs.map Proc.c)),(2,.slice (l.map Txn.c)),(14,.slice ((rpX jh procs s l order n).1.map Pr.c)),(15,.own (h.length+2) l.length),(44,.slice (order.map iw)),(45,I order.length),(46,I n)],h++[.none,.none,.uarr 63 8 ((rpX jh procs s l order n).2.map Eff.c)]⟩) trivial ((xzq E _ 14).trans ?_) ?_
 ·rw[xs3];exact(Wk.mk bi (by simp[go_sem,qw9,Eff.c,em,qpg]) bj (by simp[go_sem,AV.norm]))
 intro n hn _;have hw:=iv hn (show _≤68719476736 by omega);obtain⟨x1,x2,x3⟩:=xqt hB hs ho n hn;simp-dsimp[go_sem,hN];refine gy ?_ ?_<;>intro hc<;>simp at hc
 ·obtain⟨q1,q2⟩:=xsc ho hc;rw[xcg]at q1;rw[xso hc q1];obtain⟨j,hj⟩:=qmu q2;have hjt:order[n].toNat=j:=by rw[hj];rfl
  simp only[hjt]at q1⊢;obtain⟨X,hX⟩:∃X,rpX jh procs s l order n=X:=⟨_,rfl⟩
  rw[hX]at x1 x2 x3;simp only[hX];have m7:=fun H hH=>xr5 (g:=g) (tT:=tT) (tx:=tx) procs X.1 l[j] H hH (xfe hB x1 (c9 q1)) aa;obtain⟨Y,hY⟩:∃Y,ov jh procs X.1 l[j]=Y:=⟨_,rfl⟩
  simp only[hY]at m7⊢;simp-dsimp[go_sem,hN,hc,iw,hj,q1,Txn.c];refine it (m7 _ (jf _)) ?_;rintro r h' ⟨rfl,he⟩;rw[he];simp-dsimp[go_sem,hN,x3,q1,hw,Eff.c];exact⟨hc,Wk.mk bi (by simp[go_sem,Eff.c]) bj af⟩
 ·have pq:n=order.length:=aa;subst pq;rw[xsf hB hs ho]at x3⊢;simp-dsimp[go_sem,hN,x3];exact⟨_,.refl _,h++[.none,.none,.uarr 63 8 ((nc jh procs s l).2.map Eff.c)],af,af,ae,by simp[vf hu,go_sem],rfl,rfl⟩
theorem jc4(procs:List Proc)(s:List Pr)(l:List Txn)(order:List Int)(h:gz)(hg:h[g]?=some (uu tT tx))(hB:BatchIn jh procs l)(hs:p9 s)(hL:s.length+192 * l.length≤60000000000)(hl:l.length≤1048576)(ho:v7 (kz l) order=true) :
  ACalls prog 17 [.slice (procs.map Proc.c),.slice (s.map Pr.c),.slice (l.map Txn.c),.slice (order.map iw)] h fun r h'=>r=.ret (.tuple [.slice ((nc jh procs s l).1.map Pr.c),.slice ((nc jh procs s l).2.map Eff.c),I 0])∧h'=h:=by
 have jr:(nc jh procs s l).2.length=l.length:=qzu l;have core:=jbr (g:=g) (tT:=tT) (tx:=tx) procs s l order h hg hB hs hL hl ho;refine⟨core.1,fun cx wx vx hsx hax=>?_⟩;have hu:=hsx.hUnder;refine(xhx (fun E hE=>?_) core).2 cx wx vx hsx hax;refine(zt E _ (i:=h.length+2) (t:=63) (sz:=8) (rows:=(nc jh procs s l).2.map Eff.c) ae).trans ?_;simp;refine(qzr E _).trans ?_;exact Wk.mk (by simp[hE]) qix qj5 (by simp[go_sem,AV.norm,kc,wkT,jr])
end
end Go.Proofs.YtbimdamecieomaaGreatDoor
set_option maxHeartbeats 1000000
namespace Go.Proofs.YtbimdamecieomaaGreatDoor
open Go Go.Abs Go.Cw Tryz
def kwL:List g9:=[⟨#[112,114,111,99]⟩,⟨#[108,101,116]⟩,⟨#[112,117,116]⟩,⟨#[100,101,108,101,116,101]⟩,⟨#[105,102]⟩,⟨#[101,108,115,101]⟩,⟨#[102,111,114]⟩,⟨#[116,111]⟩,⟨#[109,97,120]⟩,⟨#[101,109,105,116]⟩,⟨#[97,98,111,114,116]⟩,⟨#[110,111,116]⟩,⟨#[97,110,100]⟩,⟨#[111,114]⟩,⟨#[105,110,116]⟩,⟨#[115,116,114]⟩,⟨#[98,111,111,108]⟩,⟨#[116,101,120,116]⟩,⟨#[108,101,110]⟩,⟨#[103,101,116,105,110,116]⟩,⟨#[103,101,116,115,116,114]⟩,⟨#[104,97,115]⟩,⟨#[110,111,119]⟩,⟨#[114,97,110,100,111,109]⟩,⟨#[110,111,100,101]⟩]
theorem jcn(s:g9):jk kwL s=kw s:=by
 have e:∀a:g9,decide (a=s)=decide (s=a):=fun a=>decide_eq_decide.2 ⟨Eq.symm,Eq.symm⟩;simp only[jk,kwL,mv,kw,Bool.or_false,e,Bool.or_assoc]
theorem jdf(l:List g9)(k:g9):APure prog 272 [.slice (l.map im),S k] (Bo (jk l k)):=by
 refine ik func272 ntmps272 rfl ac rfl rfl fun E h hN hh hu hb=>?_;simp[go_sem]at hb;simp-dsimp[go_sem,hN];refine jl l.length (fun n=>jk (l.drop n) k=jk l k) (fun n=>⟨[(0,.slice (l.map im)),(1,S k),(5,I n)],h⟩) ae ic ?_;intro n hn hI;have hw:=iv hn hb.1.1;simp-dsimp[go_sem,hN];refine gy ?_ ?_<;>intro hc<;>simp at hc
 ·rw[ji hc,jk,mv]at hI;simp-dsimp[go_sem,hN,hc];refine gy ?_ ?_<;>intro hg<;>simp at hg
  ·simp-dsimp[go_sem,hN];simp[←hI,hg]
  ·simp-dsimp[go_sem,hN,hw];exact⟨hc,qh9,ic⟩
 ·rw[cv aa,jk,mv]at hI;simp-dsimp[go_sem,hN,←hI]
theorem jgq:APure prog 273 [] (.slice (kwL.map im)):=by
 refine ik func273 ntmps273 rfl ac rfl rfl fun E h hN hh hu hb=>?_;simp-dsimp[go_sem,hN];simp[kwL,im]
theorem xy7(s:g9):APure prog 226 [S s] (Bo (kw s)):=by
 refine ik func226 ntmps226 rfl ac rfl rfl fun E h hN hh hu hb=>?_;simp-dsimp[go_sem,hN];refine ia jgq ?_;simp-dsimp[go_sem,hN];refine ia (jdf kwL s) ?_;simp-dsimp[go_sem,hN,jcn]
theorem xwd(c:UInt8):APure prog 224 [U8 c.toNat] (Bo (ltr c.toNat)):=by
 refine ik func224 ntmps224 rfl ac rfl rfl fun E h hN hh hu hb=>?_;simp-dsimp[go_sem,hN,ltr]
theorem xzl(c:UInt8):APure prog 301 [U8 c.toNat] (Bo (decide ((48:Int)≤c.toNat)&&decide ((c.toNat:Int)≤57))):=by
 refine ik func301 ntmps301 rfl ac rfl rfl fun E h hN hh hu hb=>?_;simp-dsimp[go_sem,hN]
theorem jig(c:UInt8):APure prog 271 [U8 c.toNat] (Bo (qvl c.toNat)):=by
 refine ik func271 ntmps271 rfl ac rfl rfl fun E h hN hh hu hb=>?_;simp-dsimp[go_sem,hN];refine ia (xwd c) ?_;simp-dsimp[go_sem,hN];refine ka (xzl c) ae ?_;simp-dsimp[go_sem,hN,qvl];grind
theorem xy1(s:g9):APure prog 225 [S s,I 0] (I (qqw (bl s))):=by
 refine ik func225 ntmps225 rfl ac rfl rfl fun E h hN hh hu hb=>?_;simp[go_sem]at hb;simp-dsimp[go_sem,hN];refine jl s.size (fun n=>n+qqw ((bl s).drop n)=qqw (bl s)) (fun n=>⟨[(0,S s),(1,I n)],h⟩) ae ic ?_;intro n hn hI;have hw:=iv hn hb;simp-dsimp[go_sem,hN];by_cases hc:n<s.size
 ·rw[qvm hc,qqw]at hI;simp-dsimp[go_sem,hN,hc];refine ka (jig (zn s n)) (by simp[hc]) ?_;simp-dsimp[go_sem,hN,hc];refine gy ?_ ?_<;>intro hg<;>try simp at hg
  ·simp-dsimp[go_sem,hN,hw];exact⟨hc,by rw[if_pos hg]at hI;omega,ic⟩
  ·simp-dsimp[go_sem,hN];rw[if_neg qkk]at hI;omega
 ·rw[qu3 hc,qqw]at hI;simp-dsimp[go_sem,hN,hc];refine qy5 .top ae ae ?_;simp-dsimp[go_sem,hN];omega
theorem xe8(s:g9):APure prog 186 [S s] (Bo (qnu s)):=by
 refine ik func186 ntmps186 rfl ac rfl rfl fun E h hN hh hu hb=>?_;rcases xhu s with rfl|h1
 ·simp-dsimp[go_sem,hN,qnu];refine qy5 .top ae ae ?_;simp-dsimp[go_sem,hN];refine qy5 .top ae ae ?_;simp-dsimp[go_sem,hN];refine qy5 .top ae ae ?_;simp-dsimp[go_sem,hN,qnu]
 ·have ll:0<s.size:=aa;have he:¬s=em:=by rintro rfl;simp at h1
  simp-dsimp[go_sem,hN,ll,he];refine ka (xwd _) ae ?_;simp-dsimp[go_sem,hN];refine ka (xy1 s) ae ?_;simp-dsimp[go_sem,hN];refine ka (xy7 s) ae ?_;simp-dsimp[go_sem,hN,qnu,he,h1]
theorem xl8(op:Int):APure prog 303 [I op] (I (me op)):=by
 refine ik func303 ntmps303 rfl ac rfl rfl fun E h hN hh hu hb=>?_;by_cases h1:op=1
 ·subst h1;simp-dsimp[go_sem,hN,me]
 by_cases h2:op=2
 ·subst h2;simp-dsimp[go_sem,hN,me]
 by_cases h3:op=3
 ·subst h3;simp-dsimp[go_sem,hN,me]
 by_cases h25:op=25
 ·subst h25;simp-dsimp[go_sem,hN,me]
 by_cases h26:op=26
 ·subst h26;simp-dsimp[go_sem,hN,me]
 by_cases h27:op=27
 ·subst h27;simp-dsimp[go_sem,hN,me]
 by_cases h9:op=9
 ·subst h9;simp-dsimp[go_sem,hN,me]
 by_cases h18:op=18
 ·subst h18;simp-dsimp[go_sem,hN,me]
 by_cases h20:op=20
 ·subst h20;simp-dsimp[go_sem,hN,me]
 by_cases h21:op=21
 ·subst h21;simp-dsimp[go_sem,hN,me]
 by_cases h22:op=22
 ·subst h22;simp-dsimp[go_sem,hN,me]
 by_cases h23:op=23
 ·subst h23;simp-dsimp[go_sem,hN,me]
 by_cases yx:op=24
 ·subst yx;simp-dsimp[go_sem,hN,me]
 simp-dsimp[go_sem,hN,h1,h2,h3,h25,h26,h27,h9,h18,h20,h21,h22,h23,yx];refine gy ?_ ?_<;>intro hg<;>simp at hg
 ·simp-dsimp[go_sem,hN];unfold me;rw[if_neg aa,if_neg aa,if_neg aa]
 ·simp-dsimp[go_sem,hN];unfold me;rw[if_pos aa]
theorem qem(e:Ex):APure prog 229 [.agg e.x] (Bo (zp e)):=by
 refine ik func229 ntmps229 rfl ac rfl rfl fun E h hN hh hu hb=>?_;simp-dsimp[go_sem,hN,zp]
theorem xoi(s:g9):APure prog 152 [S s] (Bo (ml s)):=by
 refine ik func152 ntmps152 rfl ac rfl rfl fun E h hN hh hu hb=>?_;simp[go_sem]at hb;simp-dsimp[go_sem,hN];refine gy ?_ ?_<;>intro h0<;>simp at h0
 ·simp-dsimp[go_sem,hN];simp[ml,Int.not_le.2 h0]
 simp-dsimp[go_sem,hN];refine jl s.size (fun n=>o5 okB ((bl s).drop n)=o5 okB (bl s)) (fun n=>⟨[(0,S s),(3,I n)],h⟩) ae ic ?_;intro n hn hI;have hw:=iv hn hb;simp-dsimp[go_sem,hN];refine gy ?_ ?_<;>intro hc<;>simp at hc
 ·rw[qvm hc,o5]at hI;simp-dsimp[go_sem,hN,hc];refine gy (fun hg=>?_) (fun hg=>?_)
  ·simp-dsimp[go_sem,hN];simp[ml,←hI,okB,hg]
  ·simp-dsimp[go_sem,hN,hw];exact⟨hc,qg4,ic⟩
 ·rw[qu3 aa,o5]at hI;simp-dsimp[go_sem,hN,ml,←hI,h0]
theorem jfv(op n:Int)(s:g9)(args:List Ex)(d:Nat):APure prog 302 [.agg [I op,I n,S s,.slice (args.map Ex.c)],I d] (I (vk op n s args.length d)):=by
 refine ik func302 ntmps302 rfl ac rfl rfl fun E h hN hh hu hb=>?_;simp-dsimp[go_sem,hN];refine ia (xl8 _) ?_;simp-dsimp[go_sem,hN]
 repeat refine⟨ax,?_⟩
 refine gy (fun h0=>?_) (fun h0=>?_)
 ·simp-dsimp[go_sem,hN];simp at h0;rw[vk,if_pos ax]
 have qc:¬(me op<0∨(op≠1∧n≠0)∨(op≠2∧op≠3∧s≠em)):=qij;simp-dsimp[go_sem,hN];refine ka (xe8 s) ae ?_;simp-dsimp[go_sem,hN];refine gy (fun h1=>?_) (fun h1=>?_)
 ·simp-dsimp[go_sem,hN];simp at h1;rw[vk,if_neg qc,if_pos ax]
 have ll:¬(op=3∧qnu s=false):=b9;simp-dsimp[go_sem,hN];refine kf 21 mixed ac ac ?_;simp-dsimp[go_sem,hN];refine ku (xoi s) ae ?_;simp-dsimp[go_sem,hN];refine⟨ax,?_⟩;refine ku (xl8 op) ae ?_;simp-dsimp[go_sem,hN]
 repeat refine⟨ax,?_⟩
 refine gy (fun h2=>?_) (fun h2=>?_)
 ·simp-dsimp[go_sem,hN];simp at h2;rw[vk,if_neg qc,if_neg ll,if_pos ax]
 have vo:¬((op=1∧n<0)∨(op=2∧ml s=false)∨(args.length:Int)≠me op):=qii;simp-dsimp[go_sem,hN];refine gy ?_ ?_<;>intro h3<;>simp at h3
 ·simp-dsimp[go_sem,hN];rw[vk,if_neg qc,if_neg ll,if_neg vo,if_pos aa]
 ·simp-dsimp[go_sem,hN];rw[vk,if_neg qc,if_neg ll,if_neg vo,if_neg aa]
theorem xpq(e:Ex)(d:Nat):APure prog 275 [.agg e.x,I d] (I (mg e d)):=by
 refine ik func275 ntmps275 rfl ac rfl rfl fun E h hN hh hu hb=>?_;simp[go_sem]at hb;simp-dsimp[go_sem,hN];refine ia (jfv _ _ _ _ _) ?_;simp-dsimp[go_sem,hN];refine gy ?_ ?_<;>intro h0<;>simp at h0
 ·simp-dsimp[go_sem,hN];rw[qva,if_neg h0]
 have hd:d≤12:=by
  unfold vk at h0;grind
 simp-dsimp[go_sem,hN];refine jl e.args.length (fun n=>vq (e.args.drop n) (d+1)=vq e.args (d+1)) (fun n=>⟨[(1,I d),(2,.ptr h.length 0),(6,I n)],h++[.cells e.x]⟩) ae ic ?_;intro n hn hI;have hw:=iv hn hb.2.1;have oi:IntKind.i64.wrap ((d:Int)+1)=((d+1:Nat):Int):=by rw[qe6 aa aa];rfl
 simp-dsimp[go_sem,hN];refine gy ?_ ?_<;>intro hc<;>simp at hc
 ·rw[ji hc,vq]at hI;simp-dsimp[go_sem,hN,hc,oi];have ib:SizeOf.sizeOf e.args[n]<SizeOf.sizeOf e:=Ex.arg_lt (c9 hc);refine ia (xpq e.args[n] (d+1)) ?_;simp-dsimp[go_sem,hN];refine gy ?_ ?_<;>intro hg<;>simp at hg
  ·simp-dsimp[go_sem,hN];rw[qva e,if_pos h0,←hI,if_neg hg]
  ·simp-dsimp[go_sem,hN,hw];exact⟨hc,br,ic⟩
 ·rw[cv aa,vq]at hI;simp-dsimp[go_sem,hN];rw[qva e,if_pos h0,←hI]
termination_by SizeOf.sizeOf e
theorem qea(e:Ex):APure prog 230 [.agg e.x] (I (mg e 1)):=by
 refine ik func230 ntmps230 rfl ac rfl rfl fun E h hN hh hu hb=>?_;simp-dsimp[go_sem,hN];refine ia (xpq e 1) ?_;simp-dsimp[go_sem,hN]
def xw(op:Int):Uses :=
 if op=1∨op=2 then⟨true,true,false,false,false,false⟩
 else if op=3 then⟨false,true,true,false,false,false⟩
 else if op=4∨op=7 then⟨false,true,false,false,false,false⟩
 else if op=5 then⟨false,true,false,false,true,true⟩
 else if op=6 then⟨true,true,true,true,true,false⟩
 else⟨false,false,false,true,false,false⟩
theorem jfz(op:Int):APure prog 228 [I op] (.tuple [Bo (xw op).name,Bo (xw op).max,Bo (xw op).a,Bo (xw op).b,Bo (xw op).body,Bo (xw op).other]):=by
 refine ik func228 ntmps228 rfl ac rfl rfl fun E h hN hh hu hb=>?_;by_cases h1:op=1
 ·subst h1;simp-dsimp[go_sem,hN,xw]
 by_cases h2:op=2
 ·subst h2;simp-dsimp[go_sem,hN,xw]
 by_cases h3:op=3
 ·subst h3;simp-dsimp[go_sem,hN,xw]
 by_cases h4:op=4
 ·subst h4;simp-dsimp[go_sem,hN,xw]
 by_cases h7:op=7
 ·subst h7;simp-dsimp[go_sem,hN,xw]
 by_cases h5:op=5
 ·subst h5;simp-dsimp[go_sem,hN,xw]
 by_cases h6:op=6
 ·subst h6;simp-dsimp[go_sem,hN,xw]
 simp-dsimp[go_sem,hN,xw,h1,h2,h3,h4,h5,h6,h7]
end Go.Proofs.YtbimdamecieomaaGreatDoor
set_option maxHeartbeats 2000000
namespace Go.Proofs.YtbimdamecieomaaGreatDoor
open Go Go.Abs Go.Cw Tryz
theorem jj6(a b:Int)(ha:i64 a)(li:i64 b):APure prog 324 [I a,I b] (.tuple [I (qry a b).1,I (qry a b).2]):=by
 have hr:=jle ha li;refine ik func324 ntmps324 rfl ac rfl rfl fun E h hN hh hu hb=>?_;simp-dsimp[go_sem,hN]
 repeat refine⟨ax,?_⟩
 refine gy (fun h0=>?_) (fun h0=>?_)
 ·have h1:(0<b∧jt (a+b)<a)∨(b<0∧a<jt (a+b)):=hr.1 qij;simp-dsimp[go_sem,hN,qry,h1]
 ·have h1:¬((0<b∧jt (a+b)<a)∨(b<0∧a<jt (a+b))):=fun g=>by have:=hr.2 g;simp at h0;grind
  simp-dsimp[go_sem,hN,qry,h1]
theorem xmo(a b:Int)(ha:i64 a)(li:i64 b):APure prog 247 [I a,I b] (.tuple [I (Cw.t0 a b).1,I (Cw.t0 a b).2]):=by
 have hr:=jh4 ha li;refine ik func247 ntmps247 rfl ac rfl rfl fun E h hN hh hu hb=>?_;simp-dsimp[go_sem,hN]
 repeat refine⟨ax,?_⟩
 refine gy (fun h0=>?_) (fun h0=>?_)
 ·have h1:(0<b∧a<jt (a - b))∨(b<0∧jt (a - b)<a):=hr.1 qij;simp-dsimp[go_sem,hN,Cw.t0,h1]
 ·have h1:¬((0<b∧a<jt (a - b))∨(b<0∧jt (a - b)<a)):=fun g=>by have:=hr.2 g;simp at h0;grind
  simp-dsimp[go_sem,hN,Cw.t0,h1]
theorem xuo(a:Int)(ha:i64 a):APure prog 311 [I a] (.tuple [I (wj a).1,I (wj a).2]):=by
 rw[←jk3 ha];refine ik func311 ntmps311 rfl ac rfl rfl fun E h hN hh hu hb=>?_;simp-dsimp[go_sem,hN];refine ia (xmo 0 a ⟨bc,bc⟩ ha) ?_;simp-dsimp[go_sem,hN]
theorem xcc(a:Int)(ha:i64 a):APure prog 328 [I a] (.val (.int .u64 (yu a))):=by
 refine ik func328 ntmps328 rfl ac rfl rfl fun E h hN hh hu hb=>?_;simp-dsimp[go_sem,hN];refine gy ?_ ?_<;>intro h0<;>simp at h0
 ·simp-dsimp[go_sem,hN];have hz:=jj7 ha;rw[Int.zero_sub]at hz;rw[hz,if_pos h0];simp[yu,h0]
 ·simp-dsimp[go_sem,hN];rw[xbc h0 qgu];simp[yu,Int.not_lt.2 h0]
theorem xpg{L m:Int}(hL:0≤L)(hm:0<m):0≤L.tdiv m∧L.tdiv m≤L:=by
 rw[Int.tdiv_eq_ediv_of_nonneg hL];exact⟨Int.ediv_nonneg hL (Int.le_of_lt hm),Int.ediv_le_self m hL⟩
theorem jeh(a b:Int)(ha:i64 a)(li:i64 b):APure prog 325 [I a,I b] (.tuple [I (qnw a b).1,I (qnw a b).2]):=by
 refine ik func325 ntmps325 rfl ac rfl rfl fun E h hN hh hu hb=>?_;simp-dsimp[go_sem,hN]
 repeat refine⟨ax,?_⟩
 refine gy (fun h0=>?_) (fun h0=>?_)
 ·have h1:a=0∨b=0:=ck;simp-dsimp[go_sem,hN,qnw,h1]
 have h1:a≠0∧b≠0:=ck;obtain⟨s1,s2⟩:=jas ha li h1.1 h1.2;have hbp:yu b≠0:=qf8;simp-dsimp[go_sem,hN];have hbp':0<yu b:=qf8;refine gy (fun hs=>?_) (fun hs=>?_)
 ·have jd:decide (a<0)≠decide (b<0):=by simpa using hs
  have hm:=xuc ha li h1.1 h1.2 9223372036854775808 (by rw[if_pos jd]);have ht:=xpg (L:=9223372036854775808) bc hbp';simp-dsimp[go_sem,hN];refine ia (xcc a ha) ?_;simp-dsimp[go_sem,hN];refine ia (xcc b li) ?_;simp-dsimp[go_sem,hN,hbp];rw[xbc ht.1 aa];refine gy ?_ ?_<;>intro h2<;>simp at h2
  ·have e:=s2 (hm.1 h2);simp-dsimp[go_sem,hN,e]
  ·have hi:i64 (a * b):=by
    by_cases hi:i64 (a * b)
    ·exact hi
    ·exact absurd (hm.2 hi) aa
   have e:=s1 hi;have hwr:IntKind.i64.wrap (a * b)=a * b:=qe6 hi.1 (by have:=hi.2;omega);simp-dsimp[go_sem,hN,e,hwr]
 ·have jd:¬(decide (a<0)≠decide (b<0)):=by simpa using hs
  have hm:=xuc ha li h1.1 h1.2 9223372036854775807 (by rw[if_neg jd]);have ht:=xpg (L:=9223372036854775807) bc hbp';simp-dsimp[go_sem,hN];refine ia (xcc a ha) ?_;simp-dsimp[go_sem,hN];refine ia (xcc b li) ?_;simp-dsimp[go_sem,hN,hbp];rw[xbc ht.1 aa];refine gy ?_ ?_<;>intro h2<;>simp at h2
  ·have e:=s2 (hm.1 h2);simp-dsimp[go_sem,hN,e]
  ·have hi:i64 (a * b):=by
    by_cases hi:i64 (a * b)
    ·exact hi
    ·exact absurd (hm.2 hi) aa
   have e:=s1 hi;have hwr:IntKind.i64.wrap (a * b)=a * b:=qe6 hi.1 (by have:=hi.2;omega);simp-dsimp[go_sem,hN,e,hwr]
theorem jne(a b:Int)(ha:i64 a)(li:i64 b):APure prog 326 [I a,I b] (.tuple [I (qow a b).1,I (qow a b).2]):=by
 refine ik func326 ntmps326 rfl ac rfl rfl fun E h hN hh hu hb=>?_;simp-dsimp[go_sem,hN];refine gy ?_ ?_<;>intro h0<;>simp at h0<;>simp-dsimp[go_sem,hN]
 ·grind[qow]
 refine gy ?_ ?_<;>intro h1<;>simp at h1<;>simp-dsimp[go_sem,hN]
 ·refine ia (xuo a ha) ?_;simp-dsimp[go_sem,hN];grind[qow]
 repeat refine⟨ax,?_⟩
 refine gy ?_ ?_<;>intro h3<;>simp at h3<;>simp-dsimp[go_sem,hN]<;>grind[qow]
theorem xzb(a b:Int):APure prog 327 [I a,I b] (.tuple [I (qoj a b).1,I (qoj a b).2]):=by
 refine ik func327 ntmps327 rfl ac rfl rfl fun E h hN hh hu hb=>?_;simp-dsimp[go_sem,hN];refine gy ?_ ?_<;>intro h0<;>simp at h0<;>simp-dsimp[go_sem,hN]
 ·grind[qoj]
 refine gy ?_ ?_<;>intro h1<;>simp at h1<;>simp-dsimp[go_sem,hN]
 ·grind[qoj]
 repeat refine⟨ax,?_⟩
 refine gy ?_ ?_<;>intro h3<;>simp at h3<;>simp-dsimp[go_sem,hN]<;>grind[qoj]
theorem xj1(n:Int):Lib.itoa n=if n<0 then 45::Lib.decDigits (yu n).toNat else Lib.decDigits (yu n).toNat:=by
 unfold Lib.itoa yu;split
 ·congr 2;omega
 ·rfl
theorem xyp(n:Int)(hn:i64 n):APure prog 312 [I n] (S (jh n)):=by
 refine ik func312 ntmps312 rfl ac rfl rfl fun E h hN hh hu hb=>?_;simp-dsimp[go_sem,hN];refine ia (xcc n hn) ?_;simp-dsimp[go_sem,hN];obtain⟨U,hU⟩:∃U:Nat,yu n=U:=⟨(yu n).toNat,qf8⟩
 have hUl:(Lib.decDigits U).length≤21:=by
  have h1:=Lib.itoa_length_le n hn.1 hn.2;rw[xj1,hU]at h1;split at h1
  ·simp at h1;omega
  ·simpa using h1
 have hU64:U≤18446744073709551615:=by
  have:=hn.1;have:=hn.2;have:yu n≤9223372036854775808:=qf8;omega
 refine xb3 (α:=Nat×g9) (fun x=>qst x.1 x.2=Lib.decDigits U∧x.1≤18446744073709551615) (fun x=>⟨[(0,I n),(3,.val (.int .u64 x.1)),(4,S x.2)],h⟩) (fun x=>x.1+if x.2=em then 1 else 0) (U,em) ⟨by simp[qst,bl],hU64⟩ (ic (by simp[go_sem,hU])) ?_;rintro⟨u,s⟩ ⟨hI,ig⟩;dsimp only at hI ig;have pn:=jbb u s;rw[hI]at pn;simp-dsimp[go_sem,hN];have htm:((u:Int).tmod 10)=((u % 10:Nat):Int):=rfl;have hd:IntKind.u8.wrap (IntKind.u64.wrap (48+(u:Int).tmod 10))=((48+u % 10:Nat):Int):=by
  rw[htm,xbc aa aa];simp only[IntKind.wrap,IntKind.bits,IntKind.signed];simp;omega
 have hq:IntKind.u64.wrap ((u:Int) / 10)=((u / 10:Nat):Int):=by
  rw[xbc aa aa];simp
 refine gy (fun hc=>?_) (fun hc=>?_)
 ·have qh:0<u∨s=em:=by simpa[em]using hc
  have ii:dig u++s≠em:=fun e=>by
   have:=congrArg ByteArray.size e;rw[qmj]at this;have h1:(dig u).size=1:=rfl;have h2:ByteArray.size em=0:=rfl;omega
  have hdg:({ data:=#[UInt8.ofNat (48+u % 10)] }:ByteArray)=dig u:=rfl;simp-dsimp[go_sem,hN,hd,hq];refine⟨?_,aa,u / 10,dig u++s,⟨by rw[jnv qh];exact hI,aa⟩,?_,?_⟩
  ·simp[xl3,go_sem]
  ·rw[if_neg ii];rcases qh with h1|h1
   ·omega
   ·rw[if_pos h1];omega
  ·have hx:({ data:=#[UInt8.ofNat (48+(u:Int) % 10).toNat] }:ByteArray)=dig u:=by
    unfold dig;have:(48+(u:Int) % 10).toNat=48+u % 10:=aa;rw[this]
   exact Wk.mk bi af bj (by simp[go_sem,hx])
 ·have qh:u=0∧s≠em:=by simp at hc;exact⟨aa,by simpa[em]using hc.2⟩
  obtain⟨rfl,ii⟩:=qh;rw[jn2 ii]at hI;simp-dsimp[go_sem,hN];refine gy ?_ ?_<;>intro h2<;>simp at h2
  ·simp-dsimp[go_sem,hN];refine⟨aa,?_⟩;refine xtg ?_;have e1:bl (jh n)=Lib.itoa n:=by simp[bl,jh]
   have e2:bl (({ data:=#[45] }:ByteArray)++s)=45::bl s:=by simp[bl]
   rw[e1,e2,xj1,if_pos h2,hI,hU];rfl
  ·simp-dsimp[go_sem,hN];refine xtg ?_;have e1:bl (jh n)=Lib.itoa n:=by simp[bl,jh]
   rw[e1,xj1,if_neg aa,hI,hU];rfl
end Go.Proofs.YtbimdamecieomaaGreatDoor
