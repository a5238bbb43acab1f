/- Part 36 of a proof. -/
import Derived.Shelf.Small.Strs
import Derived.Shelf.Strconv.Itoa4
import Derived.Lib.ItoaLen
import Derived.Test.YtbimdamecieomaaGreatDoorR35
set_option linter.all false
set_option maxRecDepth 4000
set_option maxHeartbeats 2000000
namespace Go.Proofs.YtbimdamecieomaaGreatDoor
open Go Go.Abs Go.Cw Tryz
def qr2(z:Stop):AV:=.iface 146 (.agg [I z.status,I z.code,.slice [],S z.miss])
@[simp] theorem jr0(h:gz)(z:Stop):(qr2 z).norm h=qr2 z:=by simp[qr2,AV.norm,kc]
@[simp] theorem jqw(n:Nat)(z:Stop):(qr2 z).under n=true:=by simp[qr2,AV.under,nb]
def og:EV→AEnd
 | .ok v=>.ret (.agg v.c)
 | .error z=>.panic (qr2 z)
def nt:Except Stop Unit→AEnd
 | .ok _=>.ret (.tuple [])
 | .error z=>.panic (qr2 z)
theorem qbf(code:Int)(h:gz):ACalls prog 167 [I code] h fun r h'=>r=.panic (qr2 (ab code))∧h'=h:=by
 refine lw func167 ntmps167 rfl ac rfl fun E hN hh hu hb il kr=>?_;simp-dsimp[go_sem,hN];exact⟨_,.refl _,h,af,hwk.refl _,ct _,hu,rfl,rfl⟩
theorem qer(n:Int):APure prog 212 [I n] (.agg (vI n).c):=by
 refine ik func212 ntmps212 rfl ac rfl rfl fun E h hN hh hu hb=>?_;simp-dsimp[go_sem,hN];exact⟨rfl,rfl,rfl⟩
theorem qby(b:Bool):APure prog 263 [Bo b] (.agg (vB b).c):=by
 refine ik func263 ntmps263 rfl ac rfl rfl fun E h hN hh hu hb=>?_;simp-dsimp[go_sem,hN];refine gy (fun h0=>?_) (fun h0=>?_)
 ·subst h0;simp-dsimp[go_sem,hN];exact⟨rfl,rfl,rfl⟩
 ·subst h0;simp-dsimp[go_sem,hN];exact⟨rfl,rfl,rfl⟩
theorem jnh(b:Bool)(h:gz):ACalls prog 169 [Bo b] h fun r h'=>r=(if b then .ret (.tuple [])else .panic (qr2 (ab 1009)))∧h'=h:=by
 refine lw func169 ntmps169 rfl ac rfl fun E hN hh hu hb il kr=>?_;simp-dsimp[go_sem,hN];refine gy ?_ ?_<;>intro h0<;>simp at h0<;>subst h0
 ·simp-dsimp[go_sem,hN];refine it (qbf 1009 h) ?_;rintro r h' ⟨rfl,rfl⟩;simp-dsimp[go_sem,hN];exact⟨_,.refl _,_,ae,hwk.refl _,ct _,hu,rfl,rfl⟩
 ·simp-dsimp[go_sem,hN];exact⟨_,.refl _,_,af,hwk.refl _,ct _,hu,rfl,rfl⟩
theorem xo2(k:g9)(h:gz):ACalls prog 215 [S k] h fun r h'=>r=.panic (qr2 (rst k))∧h'=h:=by
 refine lw func215 ntmps215 rfl ac rfl fun E hN hh hu hb il kr=>?_;simp-dsimp[go_sem,hN];exact⟨_,.refl _,h,af,hwk.refl _,ct _,hu,rfl,rfl⟩
theorem xkh(s:g9)(h:gz):ACalls prog 264 [S s] h fun r h'=>r=og (wq s)∧h'=h:=by
 refine lw func264 ntmps264 rfl ac rfl fun E hN hh hu hb il kr=>?_;simp-dsimp[go_sem,hN];refine gy ?_ ?_<;>intro h0<;>simp at h0
 ·simp-dsimp[go_sem,hN];refine it (qbf 1006 _) ?_;rintro r h' ⟨rfl,rfl⟩;simp-dsimp[go_sem,hN];rw[wq,if_pos aa];exact⟨_,.refl _,_,af,af,ae,aq,rfl,rfl⟩
 ·simp-dsimp[go_sem,hN];rw[wq,if_neg aa];exact⟨_,.refl _,h,af,af,ae,aq,rfl,rfl⟩
theorem qdu(r:Int×Int)(h:gz):ACalls prog 261 [I r.1,I r.2] h fun x h'=>x=og (sj r)∧h'=h:=by
 refine lw func261 ntmps261 rfl ac rfl fun E hN hh hu hb il kr=>?_;simp-dsimp[go_sem,hN];refine gy ?_ ?_<;>intro h0<;>simp at h0
 ·simp-dsimp[go_sem,hN];refine ia (qer r.1) ?_;simp-dsimp[go_sem,hN];rw[sj,if_pos h0];exact⟨_,.refl _,h,af,af,ae,aq,rfl,rfl⟩
 simp-dsimp[go_sem,hN];refine gy ?_ ?_<;>intro h1<;>simp at h1
 ·simp-dsimp[go_sem,hN];refine it (qbf 1002 _) ?_;rintro r' h' ⟨rfl,rfl⟩;simp-dsimp[go_sem,hN];rw[sj,if_neg h0,if_pos h1];exact⟨_,.refl _,h,af,af,ae,aq,rfl,rfl⟩
 ·simp-dsimp[go_sem,hN];refine it (qbf 1001 _) ?_;rintro r' h' ⟨rfl,rfl⟩;simp-dsimp[go_sem,hN];rw[sj,if_neg h0,if_neg h1];exact⟨_,.refl _,h,af,af,ae,aq,rfl,rfl⟩
theorem qcy(op a b:Int)(h:gz):ACalls prog 267 [I op,I a,I b] h fun x h'=>x=og (yc op a b)∧h'=h:=by
 refine lw func267 ntmps267 rfl ac rfl fun E hN hh hu hb il kr=>?_;simp-dsimp[go_sem,hN];refine gy ?_ ?_<;>intro h0<;>simp at h0
 ·simp-dsimp[go_sem,hN];refine ia (job a b) ?_;simp-dsimp[go_sem,hN];refine it (qdu (qry a b) _) ?_;rintro r' h' ⟨rfl,rfl⟩;rw[yc, if_pos h0];cases sj (qry a b)<;>simp-dsimp[go_sem,hN,og]<;>exact⟨_,.refl _,h,af,af,ae,aq,rfl,rfl⟩
 simp-dsimp[go_sem,hN];refine gy ?_ ?_<;>intro h1<;>simp at h1
 ·simp-dsimp[go_sem,hN];refine ia (jh1 a b) ?_;simp-dsimp[go_sem,hN];refine it (qdu (Cw.t0 a b) _) ?_;rintro r' h' ⟨rfl,rfl⟩;rw[yc,if_neg h0,if_pos h1];cases sj (Cw.t0 a b)<;>simp-dsimp[go_sem,hN,og]<;>exact⟨_,.refl _,h,af,af,ae,aq,rfl,rfl⟩
 simp-dsimp[go_sem,hN];refine gy ?_ ?_<;>intro h2<;>simp at h2
 ·simp-dsimp[go_sem,hN];refine ia (jjf a b) ?_;simp-dsimp[go_sem,hN];refine it (qdu (qnw a b) _) ?_;rintro r' h' ⟨rfl,rfl⟩;rw[yc,if_neg h0,if_neg h1,if_pos h2];cases sj (qnw a b)<;>simp-dsimp[go_sem,hN,og]<;>exact⟨_,.refl _,h,af,af,ae,aq,rfl,rfl⟩
 simp-dsimp[go_sem,hN];refine gy ?_ ?_<;>intro h3<;>simp at h3
 ·simp-dsimp[go_sem,hN];refine ia (jme a b) ?_;simp-dsimp[go_sem,hN];refine it (qdu (qow a b) _) ?_;rintro r' h' ⟨rfl,rfl⟩;rw[yc,if_neg h0,if_neg h1,if_neg h2,if_pos h3];cases sj (qow a b)<;>simp-dsimp[go_sem,hN,og]<;>exact⟨_,.refl _,h,af,af,ae,aq,rfl,rfl⟩
 simp-dsimp[go_sem,hN];refine ia (xzr a b) ?_;simp-dsimp[go_sem,hN];refine it (qdu (qoj a b) _) ?_;rintro r' h' ⟨rfl,rfl⟩;rw[yc,if_neg h0,if_neg h1,if_neg h2,if_neg h3];cases sj (qoj a b)<;>simp-dsimp[go_sem,hN,og]<;>exact⟨_,.refl _,h,af,af,ae,aq,rfl,rfl⟩
theorem xy(b:Bool)(h:gz):ACalls prog 169 [Bo b] h fun r h'=>((b=true∧r=.ret (.tuple []))∨(b=false∧r=.panic (qr2 (ab 1009))))∧h'=h :=
 (jnh b h).mono (by
  rintro r h' ⟨rfl,rfl⟩;cases b
  ·exact⟨.inr ⟨rfl,rfl⟩,rfl⟩
  ·exact⟨.inl ⟨rfl,rfl⟩,rfl⟩)
theorem jln(op:Int)(a b:V)(h:gz):ACalls prog 268 [I op,.agg a.c,.agg b.c] h fun x h'=>x=og (qtr op a b)∧h'=h:=by
 refine lw func268 ntmps268 rfl ac rfl fun E hN hh hu hb il kr=>?_;simp-dsimp[go_sem,hN]
 repeat refine⟨ax,?_⟩
 refine it (xy _ _) ?_;rintro r h' ⟨⟨hm,rfl⟩|⟨hm,rfl⟩,rfl⟩<;>simp at hm
 rotate_left
 ·simp-dsimp[go_sem,hN];rw[qtr,if_neg ax];exact⟨_,.refl _,h,af,af,ae,aq,rfl,rfl⟩
 rw[qtr,if_pos ax];simp-dsimp[go_sem,hN];refine ia (jjz a b) ?_;simp-dsimp[go_sem,hN];refine gy ?_ ?_<;>intro h0<;>simp at h0
 ·simp-dsimp[go_sem,hN];refine ia (qby (decide (qp5 a b=0))) ?_;simp-dsimp[go_sem,hN];rw[y8, if_pos h0];exact⟨_,.refl _,h,af,af,ae,aq,rfl,rfl⟩
 simp-dsimp[go_sem,hN];refine gy ?_ ?_<;>intro h1<;>simp at h1
 ·simp-dsimp[go_sem,hN];refine ia (qby (!decide (qp5 a b=0))) ?_;simp-dsimp[go_sem,hN];rw[y8,if_neg h0,if_pos h1];exact⟨_,.refl _,h,af,af,ae,aq,rfl,rfl⟩
 simp-dsimp[go_sem,hN];refine gy ?_ ?_<;>intro h2<;>simp at h2
 ·simp-dsimp[go_sem,hN];refine ia (qby (decide (qp5 a b<0))) ?_;simp-dsimp[go_sem,hN];rw[y8,if_neg h0,if_neg h1,if_pos h2];exact⟨_,.refl _,h,af,af,ae,aq,rfl,rfl⟩
 simp-dsimp[go_sem,hN];refine gy ?_ ?_<;>intro h3<;>simp at h3
 ·simp-dsimp[go_sem,hN];refine ia (qby (decide (qp5 a b≤0))) ?_;simp-dsimp[go_sem,hN];rw[y8,if_neg h0,if_neg h1,if_neg h2,if_pos h3];exact⟨_,.refl _,h,af,af,ae,aq,rfl,rfl⟩
 simp-dsimp[go_sem,hN];refine gy ?_ ?_<;>intro h4<;>simp at h4
 ·simp-dsimp[go_sem,hN];refine ia (qby (decide (0<qp5 a b))) ?_;simp-dsimp[go_sem,hN];rw[y8,if_neg h0,if_neg h1,if_neg h2,if_neg h3,if_pos h4];exact⟨_,.refl _,h,af,af,ae,aq,rfl,rfl⟩
 simp-dsimp[go_sem,hN];refine ia (qby (decide (0≤qp5 a b))) ?_;simp-dsimp[go_sem,hN];rw[y8,if_neg h0,if_neg h1,if_neg h2,if_neg h3,if_neg h4];exact⟨_,.refl _,h,af,af,ae,aq,rfl,rfl⟩
theorem xxh(op:Int)(a b:V)(h:gz)(hS:a.s.size+b.s.size≤68719476736):ACalls prog 214 [I op,.agg a.c,.agg b.c] h fun x h'=>x=og (s8 op a b)∧h'=h:=by
 refine lw func214 ntmps214 rfl ac rfl fun E hN hh hu hb il kr=>?_;simp-dsimp[go_sem,hN];refine gy ?_ ?_<;>intro h0<;>simp at h0
 ·simp-dsimp[go_sem,hN,decide_eq_true h0]
  repeat refine⟨ax,?_⟩
  refine it (xy _ _) ?_;rintro r h' ⟨⟨hm,rfl⟩|⟨hm,rfl⟩,rfl⟩<;>simp at hm
  ·simp-dsimp[go_sem,hN];refine it (qcy op a.n b.n _) ?_;rintro r' h' ⟨rfl,rfl⟩;rw[s8,if_pos aa,if_pos ax];cases yc op a.n b.n<;>simp-dsimp[go_sem,hN,og]<;>exact⟨_,.refl _,h,af,af,ae,aq,rfl,rfl⟩
  ·simp-dsimp[go_sem,hN];rw[s8,if_pos aa,if_neg ax];exact⟨_,.refl _,h,af,af,ae,aq,rfl,rfl⟩
 simp-dsimp[go_sem,hN];refine gy ?_ ?_<;>intro h1<;>simp at h1
 ·simp-dsimp[go_sem,hN,decide_eq_true h1]
  repeat refine⟨ax,?_⟩
  refine it (xy _ _) ?_;rintro r h' ⟨⟨hm,rfl⟩|⟨hm,rfl⟩,rfl⟩<;>simp at hm
  ·simp-dsimp[go_sem,hN];refine it (qcy op a.n b.n _) ?_;rintro r' h' ⟨rfl,rfl⟩;rw[s8,if_pos aa,if_pos ax];cases yc op a.n b.n<;>simp-dsimp[go_sem,hN,og]<;>exact⟨_,.refl _,h,af,af,ae,aq,rfl,rfl⟩
  ·simp-dsimp[go_sem,hN];rw[s8,if_pos aa,if_neg ax];exact⟨_,.refl _,h,af,af,ae,aq,rfl,rfl⟩
 simp-dsimp[go_sem,hN];refine gy ?_ ?_<;>intro h2<;>simp at h2
 ·simp-dsimp[go_sem,hN,decide_eq_true h2]
  repeat refine⟨ax,?_⟩
  refine it (xy _ _) ?_;rintro r h' ⟨⟨hm,rfl⟩|⟨hm,rfl⟩,rfl⟩<;>simp at hm
  ·simp-dsimp[go_sem,hN];refine it (qcy op a.n b.n _) ?_;rintro r' h' ⟨rfl,rfl⟩;rw[s8,if_pos aa,if_pos ax];cases yc op a.n b.n<;>simp-dsimp[go_sem,hN,og]<;>exact⟨_,.refl _,h,af,af,ae,aq,rfl,rfl⟩
  ·simp-dsimp[go_sem,hN];rw[s8,if_pos aa,if_neg ax];exact⟨_,.refl _,h,af,af,ae,aq,rfl,rfl⟩
 simp-dsimp[go_sem,hN];refine gy ?_ ?_<;>intro h3<;>simp at h3
 ·simp-dsimp[go_sem,hN,decide_eq_true h3]
  repeat refine⟨ax,?_⟩
  refine it (xy _ _) ?_;rintro r h' ⟨⟨hm,rfl⟩|⟨hm,rfl⟩,rfl⟩<;>simp at hm
  ·simp-dsimp[go_sem,hN];refine it (qcy op a.n b.n _) ?_;rintro r' h' ⟨rfl,rfl⟩;rw[s8,if_pos aa,if_pos ax];cases yc op a.n b.n<;>simp-dsimp[go_sem,hN,og]<;>exact⟨_,.refl _,h,af,af,ae,aq,rfl,rfl⟩
  ·simp-dsimp[go_sem,hN];rw[s8,if_pos aa,if_neg ax];exact⟨_,.refl _,h,af,af,ae,aq,rfl,rfl⟩
 simp-dsimp[go_sem,hN];refine gy ?_ ?_<;>intro h4<;>simp at h4
 ·simp-dsimp[go_sem,hN]
  repeat refine⟨ax,?_⟩
  refine it (xy _ _) ?_;rintro r h' ⟨⟨hm,rfl⟩|⟨hm,rfl⟩,rfl⟩<;>simp at hm
  ·simp-dsimp[go_sem,hN];refine it (qcy op a.n b.n _) ?_;rintro r' h' ⟨rfl,rfl⟩;rw[s8,if_pos aa,if_pos ax];cases yc op a.n b.n<;>simp-dsimp[go_sem,hN,og]<;>exact⟨_,.refl _,h,af,af,ae,aq,rfl,rfl⟩
  ·simp-dsimp[go_sem,hN];rw[s8,if_pos aa,if_neg ax];exact⟨_,.refl _,h,af,af,ae,aq,rfl,rfl⟩
 simp-dsimp[go_sem,hN];refine gy ?_ ?_<;>intro h5<;>simp at h5
 ·simp-dsimp[go_sem,hN]
  repeat refine⟨ax,?_⟩
  refine it (xy _ _) ?_;rintro r h' ⟨⟨hm,rfl⟩|⟨hm,rfl⟩,rfl⟩<;>simp at hm
  rotate_left
  ·simp-dsimp[go_sem,hN];rw[s8,if_neg aa,if_pos h5,if_neg ax];exact⟨_,.refl _,h,af,af,ae,aq,rfl,rfl⟩
  rw[s8,if_neg aa,if_pos h5,if_pos ax];simp-dsimp[go_sem,hN]
  repeat refine⟨ax,?_⟩
  refine ia (qby (decide (a.n=1)&&decide (b.n=1))) ?_;simp-dsimp[go_sem,hN];exact⟨_,.refl _,h,af,af,ae,aq,rfl,rfl⟩
 simp-dsimp[go_sem,hN];refine gy ?_ ?_<;>intro h6<;>simp at h6
 ·simp-dsimp[go_sem,hN]
  repeat refine⟨ax,?_⟩
  refine it (xy _ _) ?_;rintro r h' ⟨⟨hm,rfl⟩|⟨hm,rfl⟩,rfl⟩<;>simp at hm
  rotate_left
  ·simp-dsimp[go_sem,hN];rw[s8,if_neg aa,if_neg h5,if_pos h6,if_neg ax];exact⟨_,.refl _,h,af,af,ae,aq,rfl,rfl⟩
  rw[s8,if_neg aa,if_neg h5,if_pos h6,if_pos ax];simp-dsimp[go_sem,hN]
  repeat refine⟨ax,?_⟩
  refine ia (qby (decide (a.n=1)||decide (b.n=1))) ?_;simp-dsimp[go_sem,hN];exact⟨_,.refl _,h,af,af,ae,aq,rfl,rfl⟩
 simp-dsimp[go_sem,hN];refine gy ?_ ?_<;>intro h7<;>simp at h7
 ·simp-dsimp[go_sem,hN]
  repeat refine⟨ax,?_⟩
  refine it (xy _ _) ?_;rintro r h' ⟨⟨hm,rfl⟩|⟨hm,rfl⟩,rfl⟩<;>simp at hm
  rotate_left
  ·simp-dsimp[go_sem,hN];rw[s8,if_neg aa,if_neg h5,if_neg h6,if_pos h7,if_neg ax];exact⟨_,.refl _,h,af,af,ae,aq,rfl,rfl⟩
  rw[s8,if_neg aa,if_neg h5,if_neg h6,if_pos h7,if_pos ax];simp-dsimp[go_sem,hN];refine⟨hS,?_⟩;refine it (xkh (a.s++b.s) _) ?_;rintro r' h' ⟨rfl,rfl⟩;cases wq (a.s++b.s)<;>simp-dsimp[go_sem,hN,og]<;>exact⟨_,.refl _,h,af,af,ae,aq,rfl,rfl⟩
 simp-dsimp[go_sem,hN];refine it (jln op a b _) ?_;rintro r' h' ⟨rfl,rfl⟩;rw[s8,if_neg aa,if_neg h5,if_neg h6,if_neg h7];cases qtr op a b<;>simp-dsimp[go_sem,hN,og]<;>exact⟨_,.refl _,h,af,af,ae,aq,rfl,rfl⟩
end Go.Proofs.YtbimdamecieomaaGreatDoor
namespace Go.Proofs.YtbimdamecieomaaGreatDoor
open Go Go.Abs Go.Cw Go.Shelf Go.Lib Tryz
def xa1:Ren:=⟨fun| 17=>338| 22=>269| 29=>299| 30=>300| 36=>323|x=>x,fun| 0=>0| 3=>3| 4=>4| 9=>9| 24=>41|x=>x,fun x=>x⟩
theorem jdm:Lays2.n22 prog xa1:=by
 constructor<;>first|exact fun _=>by kernel_rfl|kernel_rfl
theorem jiq(s:g9):APure prog 160 [S s] (Bo false):=by
 refine ik func160 ntmps160 rfl ac rfl rfl fun E h hN hh hu hb=>?_;simp-dsimp[go_sem,hN]
theorem jmu(s:g9):APure prog 126 [S s] (Bo false):=by
 refine ik func126 ntmps126 rfl ac rfl rfl fun E h hN hh hu hb=>?_;simp-dsimp[go_sem,hN]
theorem jdk(a b:g9):APure prog 125 [S a,S b] (Bo (ju a b)):=by
 refine ik func125 ntmps125 rfl ac rfl rfl fun E h hN hh hu hb=>?_;simp-dsimp[go_sem,hN];refine ia (jiq a) ?_;simp-dsimp[go_sem,hN];refine qdx ?_;simp-dsimp[go_sem,hN]
theorem xqu(l:List g9)(k:g9)(hs:jp l):APure prog 71 [.slice (l.map im),S k] (.tuple [I (jv k l),Bo (decide (l[jv k l]?=some k))]):=by
 refine ik func71 ntmps71 rfl ac rfl rfl fun E h hN hh hu hb=>?_;simp[go_sem]at hb;have hp:=qt4 k l;simp-dsimp[go_sem,hN];refine xb3 (α:=Nat×Nat) (fun x=>x.1≤jv k l∧jv k l≤x.2∧x.2≤l.length) (fun x=>⟨[(0,.slice (l.map im)),(1,S k),(6,I l.length),(7,I x.1),(8,I x.2)],h⟩) (fun x=>x.2 - x.1) (0,l.length) ⟨ae,hp,ae⟩ ic ?_;rintro⟨i,j⟩ ⟨h1,h2,h3⟩;simp only at h1 h2 h3;simp-dsimp[go_sem,hN];refine gy ?_ ?_<;>intro hc<;>simp at hc
 ·have hm:IntKind.i64.wrap ((IntKind.u64.wrap (IntKind.i64.wrap ((i:Int)+j))).fdiv 2)=(((i+j) / 2:Nat):Int):=by
   have h0:=hb.1.1;have e0:IntKind.i64.wrap ((i:Int)+j)=(i:Int)+j:=qe6 aa aa;rw[e0];have:IntKind.u64.wrap ((i:Int)+j)=(i:Int)+j:=by
    simp only[IntKind.wrap,IntKind.bits,IntKind.signed];simp;omega
   rw[this];have e1:((i:Int)+j).fdiv 2=(((i+j) / 2:Nat):Int):=by
    rw[Int.fdiv_eq_ediv_of_nonneg _ aa];omega
   rw[e1,qe6 aa aa]
  have ib:(i+j) / 2<l.length:=aa;have ke:=qxt (k:=k) hs ((i+j) / 2) ib;generalize hq:(i+j) / 2=q at hm ib ke;have hw:IntKind.i64.wrap ((q:Int)+1)=((q+1:Nat):Int):=qjx;simp-dsimp[go_sem,hN,hm,ib,im];refine ia (jdk l[q] k) ?_;simp-dsimp[go_sem,hN];refine gy (fun ox=>?_) (fun ox=>?_)
  ·simp-dsimp[go_sem,hN,hw];exact⟨q+1,j,⟨by have:=ke.2 ox;omega,h2,h3⟩,aa,ic⟩
  ·simp-dsimp[go_sem,hN];refine⟨i,q,⟨h1,?_,aa⟩,aa,ic⟩;rcases d8 q (jv k l)with h5|h5
   ·have:=ke.1 h5;rw[this]at ox;cases ox
   ·exact h5
 ·have hi:i=jv k l:=aa;subst hi;by_cases ib:jv k l<l.length
  ·simp-dsimp[go_sem,hN,ib,im]
   repeat refine⟨ax,?_⟩
   refine ka (jmu _) ae ?_;simp-dsimp[go_sem,hN];refine qdx ?_;simp-dsimp[go_sem,hN];rw[da ib];simp
  ·have hd:decide (jv k l<l.length)=false:=qgy;have qoe:l[jv k l]?=none:=fa aa;simp-dsimp[go_sem,hN,hd,qoe];refine qdx ?_;simp-dsimp[go_sem,hN];refine qdx ?_;simp-dsimp[go_sem,hN];rw[qoe];simp
theorem xm5(h:gz)(i:Nat)(l:List g9)(hi:h[i]?=some (.uarr 9 1 (l.map im)))(jr:l.length+1≤68719476736)(key:g9)(ha:jp l) :
  ACalls prog 216 [.own i l.length,S key] h fun r h'=>r=.ret (.own i (sq l key).length)∧h'=h.set i (.uarr 9 1 ((sq l key).map im)):=by
 refine xh2 func216 rfl ac (by simp[ntmps216]) ?_;intro E hN hh hu;rw[ntmps216]at hN;have nq:i<h.length:=(cq.1 hi).1;have hn:(l.map im).length=l.length:=ae;have hB:=xqu l key ha;refine ln (ub ?_);simp[go_sem,hN];refine ln (xz4 [_,_] ?_);simp[go_sem,hN,xh7,qq8,hi,hn];refine⟨_,hB,by simp[xab],?_⟩;simp[go_sem,hN];refine ln (ln (ub ?_));simp[go_sem,hN];have ig:=qt4 key l;rcases hc:decide (l[jv key l]?=some key)with _|_
 ·have hw:sq l key=l.take (jv key l)++key::l.drop (jv key l):=by rw[sq,if_neg qf2]
  refine xah (b:=false) (by simpa[go_sem]using hc) (fun h=>by cases h) (fun _=>?_);refine xd8 ?_;simp;refine ln (yf [_,_,_] _ ?_);simp[go_sem,hN];intro c a w s k;refine jn3 jdm s k (T:=41) (x:=.tmp 17) (xa:=.tmp 15) (xb:=.tmp 16) (f:=.func 269) (d1:=18) rfl rfl rfl aa qj1 rfl rfl (by simp[xa1]) (by simp[xa1]) (by simp[xa1]) af (key:=key) af (i:=i) (n:=l.length) af (pos:=jv key l) af ae ae rfl hi hn ig jr
   ⟨_,func269,ac,ac⟩ fun c' a' w' s' k'=>?_
  refine xf _ [_,_,_,_,_] _ rfl ?_ c' a' w' s' k';simp[go_sem,hN];have pf:(sq l key).length=l.length+1:=by rw[hw];simp;omega
  refine xk8 ⟨⟨trivial,trivial⟩,.own i (l.length+1),_,?_,?_,hwk.refl _,?_,?_,by rw[pf],by rw[hw];simp[qlm,qln,im,xa1]⟩
  ·simp[go_sem,nq]
  ·simp[AV.under,nq]
  ·simp
  ·rw[qcb]at hu⊢;intro o ho;simp only[List.length_set];rcases qmk ho with ho|rfl
   ·exact hu o ho
   ·rfl
 ·have hw:sq l key=l:=by rw[sq,if_pos qf2]
  refine xah (b:=true) (by simpa[go_sem]using hc) (fun _=>?_) (fun h=>by cases h);refine ln (ub ?_);simp[go_sem,hN];rw[hw,qdc hi];refine xk8 ⟨⟨trivial,trivial⟩,.own i l.length,h,by simp[go_sem,hi],by simp[AV.under,nq],hwk.refl _,ct _,hu,rfl,rfl⟩
end Go.Proofs.YtbimdamecieomaaGreatDoor
namespace Go.Proofs.YtbimdamecieomaaGreatDoor
open Go Go.Abs Go.Cw Tryz
theorem xqy{k:g9}:∀{l:List g9},jp l→decide (l[jv k l]?=some k)=jk l k
 | [],_=>by simp[jv,jk,mv]
 |x::l,ha=>by
  obtain⟨h1,h2⟩:=ef.1 ha;have ih:=xqy (k:=k) h2;have e:jk (x::l) k=(decide (x=k)||jk l k):=by simp[jk,mv]
  rw[jv,e];by_cases hx:ju x k=true
  ·rw[if_pos hx,qk9,ih];have:x≠k:=qtj hx;simp[this]
  ·rw[if_neg hx];simp only[List.getElem?_cons_zero,d7];by_cases hk:x=k
   ·simp[hk]
   ·have:jk l k=false:=by
     rcases gn (jk l k)with g|g
     ·exact(hx (h1 k (ux.1 g))).elim
     ·exact g
    simp[hk,this]
theorem xm2(a b:g9):(ju b a=true∨b=a)↔ju a b=false:=by
 constructor
 ·rintro(h|rfl)
  ·exact xf5 h
  ·exact qbx _
 ·intro h;rcases gn (ju b a)with g|g
  ·exact .inl g
  ·exact .inr (qv9 qhw (by rw[h];simp))
theorem xs8(l:List g9):APure prog 70 [.slice (l.map im)] (Bo (ui none l&&decide ((l.length:Int)≤64))):=by
 refine ik func70 ntmps70 rfl ac rfl rfl fun E h hN hh hu hb=>?_;simp[go_sem]at hb;simp-dsimp[go_sem,hN];refine jl l.length (fun n=>ui (nv l n) (l.drop n)=ui none l) (fun n=>⟨[(0,.slice (l.map im)),(5,.slice (l.map im)),(6,I l.length),(7,I n)],h⟩) qg6 ic ?_;intro n hn hI;have hw:=iv hn hb.1;simp-dsimp[go_sem,hN];refine gy ?_ ?_<;>intro hc<;>try simp at hc
 ·rw[ji hc,ui]at hI;simp-dsimp[go_sem,hN,hc];refine ia (qe2 _) ?_;cases n with
  |zero =>
   simp-dsimp[go_sem,hN];refine gy ?_ ?_<;>intro hg<;>try simp at hg
   ·simp-dsimp[go_sem,hN];simp[←hI,hg,nv,after]
   ·simp-dsimp[go_sem,hN,hw];exact⟨hc,qfs,ic⟩
  |succ m =>
   have hm:m<l.length:=aa;have oi:=qve (fp hm) hb.1;simp at hw;simp-dsimp[go_sem,hN,oi,hm];refine gy ?_ ?_<;>intro hg<;>try simp at hg
   ·simp-dsimp[go_sem,hN];rw[←hI];rcases hg with h1|h1
    ·simp[nv,hm,after,h1]
    ·have h2:=(xm2 _ _).1 h1;simp[nv,hm,after,h2]
   ·have h2:ju l[m] l[m+1]=true:=by
     rcases gn (ju l[m] l[m+1])with g|g
     ·exact g
     ·have:=(xm2 _ _).2 g;grind
    simp-dsimp[go_sem,hN,hw];simp[hg,nv,hm,after,h2]at hI;exact⟨hc,qfx,ic⟩
 ·rw[cv aa,ui]at hI;simp-dsimp[go_sem,hN,←hI]
theorem xew(f:Foot):APure prog 41 [.agg f.c] (Bo (my f.all f.reads f.writes)):=by
 refine ik func41 ntmps41 rfl ac rfl rfl fun E h hN hh hu hb=>?_;simp-dsimp[go_sem,hN,Foot.c];refine gy ?_ ?_<;>intro h0<;>try simp at h0
 all_goals simp-dsimp[go_sem,hN,my,h0]
 refine ia (xs8 f.reads) ?_;simp-dsimp[go_sem,hN];refine ka (xs8 f.writes) ae ?_;simp-dsimp[go_sem,hN,my,h0]
theorem xjm(a b:List g9)(hs:jp b):APure prog 42 [.slice (a.map im),.slice (b.map im)] (Bo (r9 a b)):=by
 refine ik func42 ntmps42 rfl ac rfl rfl fun E h hN hh hu hb=>?_;simp[go_sem]at hb;simp-dsimp[go_sem,hN];refine jl a.length (fun n=>((a.drop n).any fun k=>jk b k)=r9 a b) (fun n=>⟨[(1,.slice (b.map im)),(9,.slice (a.map im)),(10,I a.length),(11,I n)],h⟩) (by simp[r9]) ic ?_;intro n hn hI;have hw:=iv hn (show _≤68719476736 by omega);simp-dsimp[go_sem,hN];refine gy ?_ ?_<;>intro hc<;>simp at hc
 ·rw[ji hc,List.any_cons]at hI;have hbs:=xqu b a[n] hs;rw[xqy hs]at hbs;simp-dsimp[go_sem,hN,hc];refine ia hbs ?_;simp-dsimp[go_sem,hN];refine gy ?_ ?_<;>intro h1<;>try simp at h1
  ·simp-dsimp[go_sem,hN];rw[←hI,h1];simp
  ·simp-dsimp[go_sem,hN,hw];exact⟨hc,qkz,ic⟩
 ·rw[cv aa,List.any_nil]at hI;simp-dsimp[go_sem,hN,←hI]
theorem jgz{f:Foot}(h:my f.all f.reads f.writes=true)(ha:f.all=false):jp f.reads∧jp f.writes:=by
 unfold my at h;rw[ha]at h;simp only[fw,if_false,c0]at h;exact⟨((xao _ _).1 h.1.1).2.1,((xao _ _).1 h.2.1).2.1⟩
theorem jkv(a b:Foot):APure prog 16 [.agg a.c,.agg b.c] (Bo (th a b)):=by
 refine ik func16 ntmps16 rfl ac rfl rfl fun E h hN hh hu hb=>?_;simp-dsimp[go_sem,hN,Foot.c];refine ia (xew a) ?_;simp-dsimp[go_sem,hN];refine ka (xew b) ae ?_;simp-dsimp[go_sem,hN];refine gy ?_ ?_<;>intro h0<;>simp at h0
 ·simp-dsimp[go_sem,hN];unfold th;rw[if_pos ax]
 have hC:th a b=(r9 a.writes b.writes||(r9 a.writes b.reads||r9 a.reads b.writes)):=by
  unfold th;rw[if_neg ax]
 have hB:=jgz (f:=b) ax ax;simp-dsimp[go_sem,hN];refine ia (xjm a.writes b.writes hB.2) ?_;simp-dsimp[go_sem,hN];refine ka (xjm a.writes b.reads hB.1) ae ?_;simp-dsimp[go_sem,hN];refine ka (xjm a.reads b.writes hB.2) ae ?_;simp-dsimp[go_sem,hN,hC];grind
theorem jbo(s:g9):APure prog 200 [S s] (Bo (ml s)):=by
 refine ik func200 ntmps200 rfl ac rfl rfl fun E h hN hh hu hb=>?_;simp[go_sem]at hb;simp-dsimp[go_sem,hN];refine gy ?_ ?_<;>intro h0<;>simp at h0
 ·simp-dsimp[go_sem,hN];simp[ml,Int.not_le.2 h0]
 simp-dsimp[go_sem,hN];refine jl s.size (fun n=>o5 okB ((bl s).drop n)=o5 okB (bl s)) (fun n=>⟨[(0,S s),(3,I n)],h⟩) ae ic ?_;intro n hn hI;have hw:=iv hn hb;simp-dsimp[go_sem,hN];refine gy ?_ ?_<;>intro hc<;>simp at hc
 ·rw[qvm hc,o5]at hI;simp-dsimp[go_sem,hN,hc];refine gy (fun hg=>?_) (fun hg=>?_)
  ·simp-dsimp[go_sem,hN];simp[ml,←hI,okB,hg]
  ·simp-dsimp[go_sem,hN,hw];exact⟨hc,qg4,ic⟩
 ·rw[qu3 aa,o5]at hI;simp-dsimp[go_sem,hN,ml,←hI,h0]
theorem qeb(s:g9):APure prog 107 [S s] (Bo (rk s)):=by
 refine ik func107 ntmps107 rfl ac rfl rfl fun E h hN hh hu hb=>?_;simp[go_sem]at hb;simp-dsimp[go_sem,hN];refine jl s.size (fun n=>o5 qt8 ((bl s).drop n)=o5 qt8 (bl s)) (fun n=>⟨[(0,S s),(3,I n)],h⟩) ae ic ?_;intro n hn hI;have hw:=iv hn hb;simp-dsimp[go_sem,hN];refine gy ?_ ?_<;>intro hc<;>simp at hc
 ·rw[qvm hc,o5]at hI;simp-dsimp[go_sem,hN,hc];refine⟨aa,gy (fun hg=>?_) (fun hg=>?_)⟩
  ·simp-dsimp[go_sem,hN];have:qt8 (zn s n)=false:=by
    simp[qt8]at hg⊢;omega
   simp[rk,←hI,this]
  ·simp-dsimp[go_sem,hN,hw];have:qt8 (zn s n)=true:=by
    simp[qt8]at hg⊢;omega
   exact⟨hc,by simpa[this]using hI,ic⟩
 ·rw[qu3 aa,o5]at hI;have e1:s=em∨1≤(s.size:Int):=xhu s;rcases e1 with rfl|e1
  ·simp-dsimp[go_sem,hN,rk]
  ·have e2:¬s=em:=by rintro rfl;simp at e1
   simp-dsimp[go_sem,hN,rk,←hI,e1,e2]
theorem jdx(k n:Int)(s:g9):APure prog 158 [.agg [I k,I n,S s]] (Bo (vj k n s)):=by
 refine ik func158 ntmps158 rfl ac rfl rfl fun E h hN hh hu hb=>?_;simp-dsimp[go_sem,hN];refine gy ?_ ?_<;>intro h0<;>simp at h0<;>simp-dsimp[go_sem,hN,vj,h0];refine gy ?_ ?_<;>intro h1<;>simp at h1<;>simp-dsimp[go_sem,hN,vj,h0,h1];refine ka (jbo s) ae ?_;by_cases h2:k=2<;>simp-dsimp[go_sem,hN,vj,h0,h1,h2]
theorem ja4(l:List Pr):APure prog 159 [.slice (l.map Pr.c)] (Bo (qq2 none l)):=by
 refine ik func159 ntmps159 rfl ac rfl rfl fun E h hN hh hu hb=>?_;simp[go_sem]at hb;simp-dsimp[go_sem,hN];refine jl l.length (fun n=>qq2 ((nv l n).map Pr.key) (l.drop n)=qq2 none l) (fun n=>⟨[(0,.slice (l.map Pr.c)),(3,I n)],h⟩) qg6 ic ?_;intro n hn hI;have hw:=iv hn hb.1;simp-dsimp[go_sem,hN];refine gy ?_ ?_<;>intro hc<;>simp at hc
 ·rw[ji hc,qq2]at hI;simp-dsimp[go_sem,hN,hc];refine kf 22 mixed ac ac ?_;simp-dsimp[go_sem,hN,hc];refine ku (qeb _) ae ?_;cases n with
  |zero =>
   simp-dsimp[go_sem,hN];refine gy ?_ ?_<;>intro hg<;>try simp at hg
   ·simp-dsimp[go_sem,hN];grind[nv,after]
   ·simp-dsimp[go_sem,hN,hw];exact⟨hc,qfs,ic⟩
  |succ m =>
   have hm:m<l.length:=aa;have oi:=qve (fp hm) hb.1;simp at hw;simp-dsimp[go_sem,hN,oi,hm,hc];refine⟨fun hk=>⟨hk,aa⟩,gy (fun hg=>?_) (fun hg=>?_)⟩<;>rw[xmi]at hg<;>simp at hg
   ·simp-dsimp[go_sem,hN];rw[←hI];rcases hg with h1|h1<;>simp[nv,hm,after,h1]
   ·simp-dsimp[go_sem,hN,hw];simp[hg,nv,hm,after]at hI;exact⟨hc,qfx,ic⟩
 ·rw[cv aa,qq2]at hI;simp-dsimp[go_sem,hN,←hI]
theorem xrp(l:List Pr):APure prog 122 [.slice (l.map Pr.c)] (Bo (qc6 l)):=by
 refine ik func122 ntmps122 rfl ac rfl rfl fun E h hN hh hu hb=>?_;simp[go_sem]at hb;simp-dsimp[go_sem,hN];refine jl l.length (fun n=>qtt (l.drop n)=qtt l) (fun n=>⟨[(0,.slice (l.map Pr.c)),(3,I n)],h⟩) ae ic ?_;intro n hn hI;have hw:=iv hn hb.1;simp-dsimp[go_sem,hN];refine gy ?_ ?_<;>intro hc<;>simp at hc
 ·rw[ji hc,qtt,o5]at hI;simp-dsimp[go_sem,hN,hc];refine ia (jdx _ _ _) ?_;simp-dsimp[go_sem,hN];refine gy ?_ ?_<;>intro hg<;>simp at hg
  ·simp-dsimp[go_sem,hN];simp[qc6,←hI,hg]
  ·simp-dsimp[go_sem,hN,hw];exact⟨hc,by simpa[hg,qtt]using hI,ic⟩
 ·rw[cv aa,qtt,o5]at hI;simp-dsimp[go_sem,hN];refine ia (ja4 l) ?_;simp-dsimp[go_sem,hN,qc6,←hI]
theorem xq5(l:List Pr):APure prog 114 [.slice (l.map Pr.c)] (Bo (nn l)):=by
 rw[←xwj];refine ik func114 ntmps114 rfl ac rfl rfl fun E h hN hh hu hb=>?_;simp[go_sem]at hb;simp-dsimp[go_sem,hN];refine jl l.length (fun n=>mv (fun p=>decide (p.v.k=0)) (l.drop n)=mv (fun p=>decide (p.v.k=0)) l) (fun n=>⟨[(0,.slice (l.map Pr.c)),(3,I n)],h⟩) ae ic ?_;intro n hn hI;have hw:=iv hn hb.1;simp-dsimp[go_sem,hN];refine gy ?_ ?_<;>intro hc<;>simp at hc
 ·rw[ji hc,mv]at hI;simp-dsimp[go_sem,hN,hc];refine gy ?_ ?_<;>intro hg<;>simp at hg
  ·simp-dsimp[go_sem,hN];simp[xak,←hI,hg]
  ·simp-dsimp[go_sem,hN,hw];exact⟨hc,br,ic⟩
 ·rw[cv aa,mv]at hI;simp-dsimp[go_sem,hN];refine ia (xrp l) ?_;simp-dsimp[go_sem,hN,xak,←hI]
theorem xsn(l:List Pr)(k:g9):APure prog 123 [.slice (l.map Pr.c),S k] (Bo (p8 l k)):=by
 refine ik func123 ntmps123 rfl ac rfl rfl fun E h hN hh hu hb=>?_;simp[go_sem]at hb;simp-dsimp[go_sem,hN];refine jl l.length (fun n=>p8 (l.drop n) k=p8 l k) (fun n=>⟨[(0,.slice (l.map Pr.c)),(1,S k),(5,I n)],h⟩) ae ic ?_;intro n hn hI;have hw:=iv hn hb.1.1;simp-dsimp[go_sem,hN];refine gy ?_ ?_<;>intro hc<;>simp at hc
 ·rw[ji hc,p8,mv]at hI;simp-dsimp[go_sem,hN,hc];refine gy ?_ ?_<;>intro hg<;>simp at hg
  ·simp-dsimp[go_sem,hN];simp[←hI,hg]
  ·simp-dsimp[go_sem,hN,hw];exact⟨hc,by simpa[hg,p8]using hI,ic⟩
 ·rw[cv aa,p8,mv]at hI;simp-dsimp[go_sem,hN,←hI]
theorem xlr(l:List Pr)(k:g9):APure prog 242 [.slice (l.map Pr.c),S k] (.agg (lh l k).c):=by
 refine ik func242 ntmps242 rfl ac rfl rfl fun E h hN hh hu hb=>?_;simp[go_sem]at hb;simp-dsimp[go_sem,hN];refine jl l.length (fun n=>lh (l.drop n) k=lh l k) (fun n=>⟨[(0,.slice (l.map Pr.c)),(1,S k),(4,P0 h.length),(5,I n)],h++[.cells [I 0,I 0,S em]]⟩) ae ic ?_;intro n hn hI;have hw:=iv hn hb.1.1;simp-dsimp[go_sem,hN];refine gy ?_ ?_<;>intro hc<;>simp at hc
 ·rw[ji hc,lh]at hI;simp-dsimp[go_sem,hN,hc];refine gy ?_ ?_<;>intro hg<;>simp at hg
  ·simp-dsimp[go_sem,hN,hc];simp[←hI,hg]
  ·simp-dsimp[go_sem,hN,hw];exact⟨hc,br,ic⟩
 ·rw[cv aa,lh]at hI;simp-dsimp[go_sem,hN,←hI]
theorem xy4(l:List Pr)(p:Pr)(hB:l.length<68719476736):APure prog 124 [.slice (l.map Pr.c),.agg p.c] (.slice ((qn9 l p).map Pr.c)):=by
 refine ik func124 ntmps124 rfl ac rfl rfl fun E h hN hh hu hb=>?_;simp[go_sem]at hb;simp-dsimp[go_sem,hN];refine jl l.length (fun n=>n+rz p.key (l.drop n)=rz p.key l) (fun n=>⟨[(0,.slice (l.map Pr.c)),(3,P0 h.length),(5,I n)],h++[.cells p.c]⟩) ae ic ?_;intro n hn hI;have hw:=iv hn (fp hB);simp-dsimp[go_sem,hN];refine kf 12 mixed ac ac ?_;by_cases hc:n<l.length
 ·rw[ji hc,rz]at hI;simp-dsimp[go_sem,hN,hc];refine gy ?_ ?_<;>intro hg<;>try simp at hg
  ·simp-dsimp[go_sem,hN,hw];rw[if_pos hg]at hI;exact⟨hc,aa,ic⟩
  ·rw[if_neg qkk]at hI;simp-dsimp[go_sem,hN];refine⟨aa,aa,aa,aa,aa,?_⟩;rw[if_pos aa];simp[qn9,←hI,Pr.c,qlm,qln]
 ·rw[cv aa,rz]at hI;simp-dsimp[go_sem,hN,hc];refine⟨aa,aa,aa,aa,aa,?_⟩;rw[if_pos aa];simp[qn9,←hI,Pr.c,qlm,qln]
theorem xy2(l w:List Pr)(hB:l.length+w.length<68719476736):APure prog 66 [.slice (l.map Pr.c),.slice (w.map Pr.c)]
  (if nn l&&qc6 w then .tuple [.slice ((qnd l w).map Pr.c),I 0]else .tuple [.slice [],I 1]):=by
 refine qbn func66 rfl ac (by simp[ntmps66]) (by split<;>rfl) ?_;intro E h hN hh hu hb;rw[ntmps66]at hN;refine na _ _ _ ?_;simp[go_sem]at hb;simp-dsimp[go_sem,hN];refine ia (xq5 l) ?_;simp-dsimp[go_sem,hN];refine ka (xrp w) ae ?_;simp-dsimp[go_sem,hN];refine gy ?_ ?_<;>intro h0<;>simp at h0
 ·simp-dsimp[go_sem,hN];grind
 rw[h0.1,h0.2];simp-dsimp[go_sem,hN];refine pa (α:=List Pr) l.length (fun n o=>o++qp7 w (l.drop n)=qp7 w l∧o.length≤n) (fun n o=>⟨[(0,.slice (l.map Pr.c)),(1,.slice (w.map Pr.c)),(6,.own h.length o.length),(7,I n)],h++[.arr 73 4 (o.map Pr.c)]⟩) [] ae ((qm4 E _ 6 73 4 rfl).trans ic) ?_;intro n o hn ⟨hI,hol⟩;have hw:=iv hn hb.1.1;simp-dsimp[go_sem,hN];refine gy ?_ ?_<;>intro hc<;>simp at hc
 ·rw[ji hc,qp7]at hI;simp-dsimp[go_sem,hN,hc];refine ia (xsn w _) ?_;simp-dsimp[go_sem,hN];refine gy ?_ ?_<;>intro hg<;>simp at hg
  ·simp-dsimp[go_sem,hN,hc];refine⟨aa,?_⟩;simp-dsimp[go_sem,hN,hw];exact⟨o++[l[n]],⟨br,am⟩,ic⟩
  ·simp-dsimp[go_sem,hN,hw];exact⟨hc,o,⟨br,aa⟩,ic⟩
 rw[cv aa,qp7,e8]at hI;simp-dsimp[go_sem,hN];subst hI;refine pa (α:=List Pr) w.length (fun n o=>qp1 o (w.drop n)=qnd l w∧o.length≤l.length+n) (fun n o=>⟨[(1,.slice (w.map Pr.c)),(6,.slice (o.map Pr.c)),(8,I n)],h⟩) (qp7 w l) (by simp[qnd];omega) ((qzr E _).trans ic) ?_;intro n o hn ⟨hI,hol⟩;have hw:=iv hn hb.2.1;simp-dsimp[go_sem,hN];refine gy ?_ ?_<;>intro hc<;>simp at hc
 ·rw[ji hc,qp1]at hI;simp-dsimp[go_sem,hN,hc];refine gy ?_ ?_<;>intro hg<;>simp at hg
  ·simp-dsimp[go_sem,hN,hc];refine ia (xy4 o _ aa) ?_;simp-dsimp[go_sem,hN,hw];exact⟨hc,qn9 o w[n],⟨br,by rw[jhb];omega⟩,ic⟩
  ·simp-dsimp[go_sem,hN,hw];exact⟨hc,o,⟨br,aa⟩,ic⟩
 ·rw[cv aa,qp1]at hI;simp-dsimp[go_sem,hN,hI]
attribute [go_sem] ug eqP eqB eqA y9
theorem xti(l l':List Pr):APure prog 10 [.slice (l.map Pr.c),.slice (l'.map Pr.c)] (Bo (pw eqP l l')):=by
 refine ik func10 ntmps10 rfl ac rfl rfl fun E h hN hh hu hb=>?_;simp[go_sem]at hb;simp-dsimp[go_sem,hN];refine gy ?_ ?_<;>intro h0<;>simp at h0
 ·simp-dsimp[go_sem,hN];exact xe6 aa
 simp-dsimp[go_sem,hN];refine jl l.length (fun n=>pw eqP (l.drop n) (l'.drop n)=pw eqP l l') (fun n=>⟨[(0,.slice (l.map Pr.c)),(1,.slice (l'.map Pr.c)),(5,I n)],h⟩) ae ic ?_;intro n hn hI;have hw:=iv hn hb.1.1;simp-dsimp[go_sem,hN];refine gy ?_ ?_<;>intro hc<;>simp at hc
 ·have qh:n<l'.length:=aa;rw[ji hc,ji qh,pw]at hI;simp-dsimp[go_sem,hN,hc,qh];refine kf 8 mixed ac ac ?_;simp-dsimp[go_sem,hN,hc,qh];refine gy ?_ ?_<;>intro hg<;>simp at hg
  ·simp-dsimp[go_sem,hN];rw[←hI];simp[eqP,ug];grind
  ·simp-dsimp[go_sem,hN,hw];refine⟨hc,?_,ic⟩;rw[←hI];simp[eqP,ug,hg]
 ·rw[cv aa,cv aa,pw]at hI;simp-dsimp[go_sem,hN,←hI]
theorem xvo(l l':List g9):APure prog 68 [.slice (l.map im),.slice (l'.map im)] (Bo (pw eqB l l')):=by
 refine ik func68 ntmps68 rfl ac rfl rfl fun E h hN hh hu hb=>?_;simp[go_sem]at hb;simp-dsimp[go_sem,hN];refine gy ?_ ?_<;>intro h0<;>simp at h0
 ·simp-dsimp[go_sem,hN];exact xe6 aa
 simp-dsimp[go_sem,hN];refine jl l.length (fun n=>pw eqB (l.drop n) (l'.drop n)=pw eqB l l') (fun n=>⟨[(0,.slice (l.map im)),(1,.slice (l'.map im)),(5,I n)],h⟩) ae ic ?_;intro n hn hI;have hw:=iv hn hb.1.1;simp-dsimp[go_sem,hN];refine gy ?_ ?_<;>intro hc<;>simp at hc
 ·have qh:n<l'.length:=aa;rw[ji hc,ji qh,pw]at hI;simp-dsimp[go_sem,hN,hc,qh];refine kf 8 mixed ac ac ?_;simp-dsimp[go_sem,hN,hc,qh];refine gy ?_ ?_<;>intro hg<;>simp at hg
  ·simp-dsimp[go_sem,hN];rw[←hI];simp[eqB,ug];grind
  ·simp-dsimp[go_sem,hN,hw];refine⟨hc,?_,ic⟩;rw[←hI];simp[eqB,ug,hg]
 ·rw[cv aa,cv aa,pw]at hI;simp-dsimp[go_sem,hN,←hI]
set_option maxHeartbeats 1000000 in
theorem xyx(a b:Eff):APure prog 34 [.agg a.c,.agg b.c] (Bo (qpa a b)):=by
 refine ik func34 ntmps34 rfl ac rfl rfl fun E h hN hh hu hb=>?_;simp[go_sem]at hb;simp-dsimp[go_sem,hN];refine tk 7 mixed ac ?_;simp-dsimp[go_sem,hN];refine⟨qic,?_⟩;refine gy ?_ ?_<;>intro h0<;>simp at h0
 ·simp-dsimp[go_sem,hN];have:qpa a b=false:=by
   rcases h0 with(h0|h0)|h0
   ·simp[qpa,h0]
   ·simp[qpa,h0]
   ·simp[qpa,xe6 (f:=ug) (l:=a.out) (l':=b.out) aa]
  rw[this]
 simp-dsimp[go_sem,hN];refine jl a.out.length (fun n=>pw ug (a.out.drop n) (b.out.drop n)=pw ug a.out b.out) (fun n=>⟨[(2,.ptr h.length 0),(3,.ptr (h.length+1) 0),(5,.ptr (h.length+2) 0),(6,.ptr (h.length+3) 0),(7,I n)],h++[.cells a.c,.cells b.c,.cells [I a.status,I a.code,.slice (a.out.map V.c)],.cells [I b.status,I b.code,.slice (b.out.map V.c)]]⟩) ae ic ?_;intro n hn hI;have hw:=iv hn hb.1.1.1;simp-dsimp[go_sem,hN];refine gy ?_ ?_<;>intro hc<;>simp at hc
 ·have qh:n<b.out.length:=aa;rw[ji hc,ji qh,pw]at hI;simp-dsimp[go_sem,hN,hc,qh];refine kf 10 mixed ac ac ?_;simp-dsimp[go_sem,hN,hc,qh];refine gy ?_ ?_<;>intro hg<;>simp at hg
  ·simp-dsimp[go_sem,hN];have:pw ug a.out b.out=false:=by
    rw[←hI];simp[ug];grind
   simp[qpa,this]
  ·simp-dsimp[go_sem,hN,hw];refine⟨hc,?_,ic⟩;rw[←hI];simp[ug,hg]
 ·rw[cv aa,cv aa,pw]at hI;simp-dsimp[go_sem,hN];refine ia (xvo _ _) ?_;simp-dsimp[go_sem,hN];refine ka (xvo _ _) ae ?_;simp-dsimp[go_sem,hN];refine ka (xti _ _) ae ?_;simp-dsimp[go_sem,hN,qpa,h0,←hI]
theorem xhv(l:List g9)(k:g9):APure prog 244 [.slice (l.map im),S k] (Bo (jk l k)):=by
 refine ik func244 ntmps244 rfl ac rfl rfl fun E h hN hh hu hb=>?_;simp[go_sem]at hb;simp-dsimp[go_sem,hN];refine jl l.length (fun n=>jk (l.drop n) k=jk l k) (fun n=>⟨[(0,.slice (l.map im)),(1,S k),(5,I n)],h⟩) ae ic ?_;intro n hn hI;have hw:=iv hn hb.1.1;simp-dsimp[go_sem,hN];refine gy ?_ ?_<;>intro hc<;>simp at hc
 ·rw[ji hc,jk,mv]at hI;simp-dsimp[go_sem,hN,hc];refine gy ?_ ?_<;>intro hg<;>simp at hg
  ·simp-dsimp[go_sem,hN];simp[←hI,hg]
  ·simp-dsimp[go_sem,hN,hw];exact⟨hc,qh9,ic⟩
 ·rw[cv aa,jk,mv]at hI;simp-dsimp[go_sem,hN,←hI]
theorem jhd(l:List g9)(k:g9):APure prog 81 [.slice (l.map im),S k] (I (ni (fun x=>decide (k=x)) l)):=by
 refine ik func81 ntmps81 rfl ac rfl rfl fun E h hN hh hu hb=>?_;simp[go_sem]at hb;simp-dsimp[go_sem,hN];refine jl l.length (fun n=>pp (fun x=>decide (k=x)) n (l.drop n)=ni (fun x=>decide (k=x)) l) (fun n=>⟨[(0,.slice (l.map im)),(1,S k),(7,I l.length),(8,I n)],h⟩) qid ic ?_;intro n hn hI;have hw:=iv hn hb.1.1;simp-dsimp[go_sem,hN];refine gy ?_ ?_<;>intro hc<;>simp at hc
 ·rw[ji hc,pp]at hI;simp-dsimp[go_sem,hN,hc];refine gy ?_ ?_<;>intro hg<;>simp at hg
  ·simp-dsimp[go_sem,hN];simpa[hg]using hI
  ·simp-dsimp[go_sem,hN,hw];exact⟨hc,br,ic⟩
 ·rw[cv aa,pp]at hI;simp-dsimp[go_sem,hN,←hI]
theorem xk9(l:List g9)(k:g9):APure prog 49 [.slice (l.map im),S k] (Bo (jk l k)):=by
 refine ik func49 ntmps49 rfl ac rfl rfl fun E h hN hh hu hb=>?_;simp-dsimp[go_sem,hN];refine ia (jhd l k) ?_;simp-dsimp[go_sem,hN,xib];simp[jk,eq_comm]
end Go.Proofs.YtbimdamecieomaaGreatDoor
