/- Part 32 of a proof. -/
import Derived.Shelf.Small.Strs
import Derived.Shelf.Strconv.Itoa4
import Derived.Lib.ItoaLen
import Derived.Test.YtolejdhnnchfpaaGreatDoorQ31
set_option linter.all false
set_option maxRecDepth 4000
set_option maxHeartbeats 2000000
namespace Go.Proofs.YtolejdhnnchfpaaGreatDoor
open Go Go.Abs Go.Cw Go.Proofs.Tryz
def qp1(z:Stop):AV:=.iface 232 (.agg [I z.status,I z.code,.slice [],S z.miss])
@[simp] theorem joq(h:g9)(z:Stop):(qp1 z).norm h=qp1 z:=by simp[qp1,AV.norm,ko]
@[simp] theorem jlk(n:Nat)(z:Stop):(qp1 z).under n=true:=by simp[qp1,AV.under,lj]
def om:EV->AEnd
 | .ok v=>.ret (.agg v.c)
 | .error z=>.panic (qp1 z)
def od:Except Stop Unit->AEnd
 | .ok _=>.ret (.tuple [])
 | .error z=>.panic (qp1 z)
theorem qbi(code:Int)(h:g9):ACalls prog 228 [I code] h λr h'=>r=.panic (qp1 (ab code))/\h'=h:=by
 refine mh func228 ntmps228 rfl ae rfl λE hN hh hu hb iq ju=>?_;simp-dsimp[go_sem,hN];exact⟨_,.refl _,h,ag,hwk.refl _,cn _,hu,rfl,rfl⟩
theorem qdx(n:Int):APure prog 268 [I n] (.agg (vI n).c):=by
 refine kl func268 ntmps268 rfl ae rfl rfl λE h hN hh hu hb=>?_;simp-dsimp[go_sem,hN];exact⟨rfl,rfl,rfl⟩
theorem qbs(b:Bool):APure prog 298 [Bo b] (.agg (vB b).c):=by
 refine kl func298 ntmps298 rfl ae rfl rfl λE h hN hh hu hb=>?_;simp-dsimp[go_sem,hN];refine ii (λh0=>?_) (λh0=>?_)
 .subst h0;simp-dsimp[go_sem,hN];exact⟨rfl,rfl,rfl⟩
 .subst h0;simp-dsimp[go_sem,hN];exact⟨rfl,rfl,rfl⟩
theorem jco(b:Bool)(h:g9):ACalls prog 230 [Bo b] h λr h'=>r=(if b then .ret (.tuple [])else .panic (qp1 (ab 1009)))/\h'=h:=by
 refine mh func230 ntmps230 rfl ae rfl λE hN hh hu hb iq ju=>?_;simp-dsimp[go_sem,hN];refine ii ?_ ?_<;>intro h0<;>simp at h0<;>subst h0
 .simp-dsimp[go_sem,hN];refine iy (qbi 1009 h) ?_;rintro r h' ⟨rfl,rfl⟩;simp-dsimp[go_sem,hN];exact⟨_,.refl _,_,ac,hwk.refl _,cn _,hu,rfl,rfl⟩
 .simp-dsimp[go_sem,hN];exact⟨_,.refl _,_,ag,hwk.refl _,cn _,hu,rfl,rfl⟩
theorem xo5(k:ig)(h:g9):ACalls prog 271 [S k] h λr h'=>r=.panic (qp1 (rst k))/\h'=h:=by
 refine mh func271 ntmps271 rfl ae rfl λE hN hh hu hb iq ju=>?_;simp-dsimp[go_sem,hN];exact⟨_,.refl _,h,ag,hwk.refl _,cn _,hu,rfl,rfl⟩
theorem xhc(s:ig)(h:g9):ACalls prog 299 [S s] h λr h'=>r=om (qmv s)/\h'=h:=by
 refine mh func299 ntmps299 rfl ae rfl λE hN hh hu hb iq ju=>?_;simp-dsimp[go_sem,hN];refine ii ?_ ?_<;>intro h0<;>simp at h0
 .simp-dsimp[go_sem,hN];refine iy (qbi 1006 _) ?_;rintro r h' ⟨rfl,rfl⟩;simp-dsimp[go_sem,hN];rw[qmv,if_pos aa];exact⟨_,.refl _,_,ag,ag,ac,aq,rfl,rfl⟩
 .simp-dsimp[go_sem,hN];rw[qmv,if_neg aa];exact⟨_,.refl _,h,ag,ag,ac,aq,rfl,rfl⟩
theorem qc7(r:Int×Int)(h:g9):ACalls prog 296 [I r.1,I r.2] h λx h'=>x=om (ve r)/\h'=h:=by
 refine mh func296 ntmps296 rfl ae rfl λE hN hh hu hb iq ju=>?_;simp-dsimp[go_sem,hN];refine ii ?_ ?_<;>intro h0<;>simp at h0
 .simp-dsimp[go_sem,hN];refine iv (qdx r.1) ?_;simp-dsimp[go_sem,hN];rw[ve,if_pos h0];exact⟨_,.refl _,h,ag,ag,ac,aq,rfl,rfl⟩
 simp-dsimp[go_sem,hN];refine ii ?_ ?_<;>intro h1<;>simp at h1
 .simp-dsimp[go_sem,hN];refine iy (qbi 1002 _) ?_;rintro r' h' ⟨rfl,rfl⟩;simp-dsimp[go_sem,hN];rw[ve,if_neg h0,if_pos h1];exact⟨_,.refl _,h,ag,ag,ac,aq,rfl,rfl⟩
 .simp-dsimp[go_sem,hN];refine iy (qbi 1001 _) ?_;rintro r' h' ⟨rfl,rfl⟩;simp-dsimp[go_sem,hN];rw[ve,if_neg h0,if_neg h1];exact⟨_,.refl _,h,ag,ag,ac,aq,rfl,rfl⟩
theorem qcd(op a b:Int)(h:g9):ACalls prog 302 [I op,I a,I b] h λx h'=>x=om (qlx op a b)/\h'=h:=by
 refine mh func302 ntmps302 rfl ae rfl λE hN hh hu hb iq ju=>?_;simp-dsimp[go_sem,hN];refine ii ?_ ?_<;>intro h0<;>simp at h0
 .simp-dsimp[go_sem,hN];refine iv (jgk a b) ?_;simp-dsimp[go_sem,hN];refine iy (qc7 (qwi a b) _) ?_;rintro r' h' ⟨rfl,rfl⟩;rw[qlx, if_pos h0];cases ve (qwi a b)<;>simp-dsimp[go_sem,hN,om]<;>exact⟨_,.refl _,h,ag,ag,ac,aq,rfl,rfl⟩
 simp-dsimp[go_sem,hN];refine ii ?_ ?_<;>intro h1<;>simp at h1
 .simp-dsimp[go_sem,hN];refine iv (jjo a b) ?_;simp-dsimp[go_sem,hN];refine iy (qc7 (qwd a b) _) ?_;rintro r' h' ⟨rfl,rfl⟩;rw[qlx,if_neg h0,if_pos h1];cases ve (qwd a b)<;>simp-dsimp[go_sem,hN,om]<;>exact⟨_,.refl _,h,ag,ag,ac,aq,rfl,rfl⟩
 simp-dsimp[go_sem,hN];refine ii ?_ ?_<;>intro h2<;>simp at h2
 .simp-dsimp[go_sem,hN];refine iv (xvo a b) ?_;simp-dsimp[go_sem,hN];refine iy (qc7 (qsl a b) _) ?_;rintro r' h' ⟨rfl,rfl⟩;rw[qlx,if_neg h0,if_neg h1,if_pos h2];cases ve (qsl a b)<;>simp-dsimp[go_sem,hN,om]<;>exact⟨_,.refl _,h,ag,ag,ac,aq,rfl,rfl⟩
 simp-dsimp[go_sem,hN];refine ii ?_ ?_<;>intro h3<;>simp at h3
 .simp-dsimp[go_sem,hN];refine iv (jdr a b) ?_;simp-dsimp[go_sem,hN];refine iy (qc7 (qt7 a b) _) ?_;rintro r' h' ⟨rfl,rfl⟩;rw[qlx,if_neg h0,if_neg h1,if_neg h2,if_pos h3];cases ve (qt7 a b)<;>simp-dsimp[go_sem,hN,om]<;>exact⟨_,.refl _,h,ag,ag,ac,aq,rfl,rfl⟩
 simp-dsimp[go_sem,hN];refine iv (jai a b) ?_;simp-dsimp[go_sem,hN];refine iy (qc7 (qta a b) _) ?_;rintro r' h' ⟨rfl,rfl⟩;rw[qlx,if_neg h0,if_neg h1,if_neg h2,if_neg h3];cases ve (qta a b)<;>simp-dsimp[go_sem,hN,om]<;>exact⟨_,.refl _,h,ag,ag,ac,aq,rfl,rfl⟩
theorem xh(b:Bool)(h:g9):ACalls prog 230 [Bo b] h λr h'=>((b=true/\r=.ret (.tuple []))\/(b=false/\r=.panic (qp1 (ab 1009))))/\h'=h :=
 (jco b h).mono (by
  rintro r h' ⟨rfl,rfl⟩;cases b
  .simp
  .exact⟨.inl ⟨rfl,rfl⟩,rfl⟩)
theorem jdx(op:Int)(a b:V)(h:g9):ACalls prog 303 [I op,.agg a.c,.agg b.c] h λx h'=>x=om (que op a b)/\h'=h:=by
 refine mh func303 ntmps303 rfl ae rfl λE hN hh hu hb iq ju=>?_;simp-dsimp[go_sem,hN]
 repeat refine⟨af,?_⟩
 refine iy (xh _ _) ?_;rintro r h' ⟨⟨hm,rfl⟩|⟨hm,rfl⟩,rfl⟩<;>simp at hm
 rotate_left
 .simp-dsimp[go_sem,hN];rw[que,if_neg af];exact⟨_,.refl _,h,ag,ag,ac,aq,rfl,rfl⟩
 rw[que,if_pos af];simp-dsimp[go_sem,hN];refine iv (jhs a b) ?_;simp-dsimp[go_sem,hN];refine ii ?_ ?_<;>intro h0<;>simp at h0
 .simp-dsimp[go_sem,hN];refine iv (qbs (decide (qq8 a b=0))) ?_;simp-dsimp[go_sem,hN];rw[qwp, if_pos h0];exact⟨_,.refl _,h,ag,ag,ac,aq,rfl,rfl⟩
 simp-dsimp[go_sem,hN];refine ii ?_ ?_<;>intro h1<;>simp at h1
 .simp-dsimp[go_sem,hN];refine iv (qbs (!decide (qq8 a b=0))) ?_;simp-dsimp[go_sem,hN];rw[qwp,if_neg h0,if_pos h1];exact⟨_,.refl _,h,ag,ag,ac,aq,rfl,rfl⟩
 simp-dsimp[go_sem,hN];refine ii ?_ ?_<;>intro h2<;>simp at h2
 .simp-dsimp[go_sem,hN];refine iv (qbs (decide (qq8 a b<0))) ?_;simp-dsimp[go_sem,hN];rw[qwp,if_neg h0,if_neg h1,if_pos h2];exact⟨_,.refl _,h,ag,ag,ac,aq,rfl,rfl⟩
 simp-dsimp[go_sem,hN];refine ii ?_ ?_<;>intro h3<;>simp at h3
 .simp-dsimp[go_sem,hN];refine iv (qbs (decide (qq8 a b<=0))) ?_;simp-dsimp[go_sem,hN];rw[qwp,if_neg h0,if_neg h1,if_neg h2,if_pos h3];exact⟨_,.refl _,h,ag,ag,ac,aq,rfl,rfl⟩
 simp-dsimp[go_sem,hN];refine ii ?_ ?_<;>intro h4<;>simp at h4
 .simp-dsimp[go_sem,hN];refine iv (qbs (decide (0<qq8 a b))) ?_;simp-dsimp[go_sem,hN];rw[qwp,if_neg h0,if_neg h1,if_neg h2,if_neg h3,if_pos h4];exact⟨_,.refl _,h,ag,ag,ac,aq,rfl,rfl⟩
 simp-dsimp[go_sem,hN];refine iv (qbs (decide (0<=qq8 a b))) ?_;simp-dsimp[go_sem,hN];rw[qwp,if_neg h0,if_neg h1,if_neg h2,if_neg h3,if_neg h4];exact⟨_,.refl _,h,ag,ag,ac,aq,rfl,rfl⟩
theorem xwn(op:Int)(a b:V)(h:g9)(hS:a.s.size+b.s.size<=68719476736):ACalls prog 270 [I op,.agg a.c,.agg b.c] h λx h'=>x=om (ug op a b)/\h'=h:=by
 refine mh func270 ntmps270 rfl ae rfl λE hN hh hu hb iq ju=>?_;simp-dsimp[go_sem,hN];refine ii ?_ ?_<;>intro h0<;>simp at h0
 .simp-dsimp[go_sem,hN,decide_eq_true h0]
  repeat refine⟨af,?_⟩
  refine iy (xh _ _) ?_;rintro r h' ⟨⟨hm,rfl⟩|⟨hm,rfl⟩,rfl⟩<;>simp at hm
  .simp-dsimp[go_sem,hN];refine iy (qcd op a.n b.n _) ?_;rintro r' h' ⟨rfl,rfl⟩;rw[ug,if_pos aa,if_pos af];cases qlx op a.n b.n<;>simp-dsimp[go_sem,hN,om]<;>exact⟨_,.refl _,h,ag,ag,ac,aq,rfl,rfl⟩
  .simp-dsimp[go_sem,hN];rw[ug,if_pos aa,if_neg af];exact⟨_,.refl _,h,ag,ag,ac,aq,rfl,rfl⟩
 simp-dsimp[go_sem,hN];refine ii ?_ ?_<;>intro h1<;>simp at h1
 .simp-dsimp[go_sem,hN,decide_eq_true h1]
  repeat refine⟨af,?_⟩
  refine iy (xh _ _) ?_;rintro r h' ⟨⟨hm,rfl⟩|⟨hm,rfl⟩,rfl⟩<;>simp at hm
  .simp-dsimp[go_sem,hN];refine iy (qcd op a.n b.n _) ?_;rintro r' h' ⟨rfl,rfl⟩;rw[ug,if_pos aa,if_pos af];cases qlx op a.n b.n<;>simp-dsimp[go_sem,hN,om]<;>exact⟨_,.refl _,h,ag,ag,ac,aq,rfl,rfl⟩
  .simp-dsimp[go_sem,hN];rw[ug,if_pos aa,if_neg af];exact⟨_,.refl _,h,ag,ag,ac,aq,rfl,rfl⟩
 simp-dsimp[go_sem,hN];refine ii ?_ ?_<;>intro h2<;>simp at h2
 .simp-dsimp[go_sem,hN,decide_eq_true h2]
  repeat refine⟨af,?_⟩
  refine iy (xh _ _) ?_;rintro r h' ⟨⟨hm,rfl⟩|⟨hm,rfl⟩,rfl⟩<;>simp at hm
  .simp-dsimp[go_sem,hN];refine iy (qcd op a.n b.n _) ?_;rintro r' h' ⟨rfl,rfl⟩;rw[ug,if_pos aa,if_pos af];cases qlx op a.n b.n<;>simp-dsimp[go_sem,hN,om]<;>exact⟨_,.refl _,h,ag,ag,ac,aq,rfl,rfl⟩
  .simp-dsimp[go_sem,hN];rw[ug,if_pos aa,if_neg af];exact⟨_,.refl _,h,ag,ag,ac,aq,rfl,rfl⟩
 simp-dsimp[go_sem,hN];refine ii ?_ ?_<;>intro h3<;>simp at h3
 .simp-dsimp[go_sem,hN,decide_eq_true h3]
  repeat refine⟨af,?_⟩
  refine iy (xh _ _) ?_;rintro r h' ⟨⟨hm,rfl⟩|⟨hm,rfl⟩,rfl⟩<;>simp at hm
  .simp-dsimp[go_sem,hN];refine iy (qcd op a.n b.n _) ?_;rintro r' h' ⟨rfl,rfl⟩;rw[ug,if_pos aa,if_pos af];cases qlx op a.n b.n<;>simp-dsimp[go_sem,hN,om]<;>exact⟨_,.refl _,h,ag,ag,ac,aq,rfl,rfl⟩
  .simp-dsimp[go_sem,hN];rw[ug,if_pos aa,if_neg af];exact⟨_,.refl _,h,ag,ag,ac,aq,rfl,rfl⟩
 simp-dsimp[go_sem,hN];refine ii ?_ ?_<;>intro h4<;>simp at h4
 .simp-dsimp[go_sem,hN]
  repeat refine⟨af,?_⟩
  refine iy (xh _ _) ?_;rintro r h' ⟨⟨hm,rfl⟩|⟨hm,rfl⟩,rfl⟩<;>simp at hm
  .simp-dsimp[go_sem,hN];refine iy (qcd op a.n b.n _) ?_;rintro r' h' ⟨rfl,rfl⟩;rw[ug,if_pos aa,if_pos af];cases qlx op a.n b.n<;>simp-dsimp[go_sem,hN,om]<;>exact⟨_,.refl _,h,ag,ag,ac,aq,rfl,rfl⟩
  .simp-dsimp[go_sem,hN];rw[ug,if_pos aa,if_neg af];exact⟨_,.refl _,h,ag,ag,ac,aq,rfl,rfl⟩
 simp-dsimp[go_sem,hN];refine ii ?_ ?_<;>intro h5<;>simp at h5
 .simp-dsimp[go_sem,hN]
  repeat refine⟨af,?_⟩
  refine iy (xh _ _) ?_;rintro r h' ⟨⟨hm,rfl⟩|⟨hm,rfl⟩,rfl⟩<;>simp at hm
  rotate_left
  .simp-dsimp[go_sem,hN];rw[ug,if_neg aa,if_pos h5,if_neg af];exact⟨_,.refl _,h,ag,ag,ac,aq,rfl,rfl⟩
  rw[ug,if_neg aa,if_pos h5,if_pos af];simp-dsimp[go_sem,hN]
  repeat refine⟨af,?_⟩
  refine iv (qbs (decide (a.n=1)&&decide (b.n=1))) ?_;simp-dsimp[go_sem,hN];exact⟨_,.refl _,h,ag,ag,ac,aq,rfl,rfl⟩
 simp-dsimp[go_sem,hN];refine ii ?_ ?_<;>intro h6<;>simp at h6
 .simp-dsimp[go_sem,hN]
  repeat refine⟨af,?_⟩
  refine iy (xh _ _) ?_;rintro r h' ⟨⟨hm,rfl⟩|⟨hm,rfl⟩,rfl⟩<;>simp at hm
  rotate_left
  .simp-dsimp[go_sem,hN];rw[ug,if_neg aa,if_neg h5,if_pos h6,if_neg af];exact⟨_,.refl _,h,ag,ag,ac,aq,rfl,rfl⟩
  rw[ug,if_neg aa,if_neg h5,if_pos h6,if_pos af];simp-dsimp[go_sem,hN]
  repeat refine⟨af,?_⟩
  refine iv (qbs (decide (a.n=1)||decide (b.n=1))) ?_;simp-dsimp[go_sem,hN];exact⟨_,.refl _,h,ag,ag,ac,aq,rfl,rfl⟩
 simp-dsimp[go_sem,hN];refine ii ?_ ?_<;>intro h7<;>simp at h7
 .simp-dsimp[go_sem,hN]
  repeat refine⟨af,?_⟩
  refine iy (xh _ _) ?_;rintro r h' ⟨⟨hm,rfl⟩|⟨hm,rfl⟩,rfl⟩<;>simp at hm
  rotate_left
  .simp-dsimp[go_sem,hN];rw[ug,if_neg aa,if_neg h5,if_neg h6,if_pos h7,if_neg af];exact⟨_,.refl _,h,ag,ag,ac,aq,rfl,rfl⟩
  rw[ug,if_neg aa,if_neg h5,if_neg h6,if_pos h7,if_pos af];simp-dsimp[go_sem,hN];refine⟨hS,?_⟩;refine iy (xhc (a.s++b.s) _) ?_;rintro r' h' ⟨rfl,rfl⟩;cases qmv (a.s++b.s)<;>simp-dsimp[go_sem,hN,om]<;>exact⟨_,.refl _,h,ag,ag,ac,aq,rfl,rfl⟩
 simp-dsimp[go_sem,hN];refine iy (jdx op a b _) ?_;rintro r' h' ⟨rfl,rfl⟩;rw[ug,if_neg aa,if_neg h5,if_neg h6,if_neg h7];cases que op a b<;>simp-dsimp[go_sem,hN,om]<;>exact⟨_,.refl _,h,ag,ag,ac,aq,rfl,rfl⟩
end Go.Proofs.YtolejdhnnchfpaaGreatDoor
namespace Go.Proofs.YtolejdhnnchfpaaGreatDoor
open Go Go.Abs Go.Cw Go.Shelf Go.Lib Go.Proofs.Tryz
def xa6:Ren:=⟨λ| 17=>366| 22=>305| 29=>339| 30=>340| 36=>356|x=>x,λ| 0=>0| 3=>3| 4=>4| 9=>9| 24=>74|x=>x,λx=>x⟩
theorem jfs:Lays2.n22 prog xa6:=by
 constructor<;>first|exact λ_=>by kernel_rfl|kernel_rfl
theorem xuo(s:ig):APure prog 355 [S s] (Bo false):=by
 refine kl func355 ntmps355 rfl ae rfl rfl λE h hN hh hu hb=>?_;simp-dsimp[go_sem,hN]
theorem jbk(s:ig):APure prog 338 [S s] (Bo false):=by
 refine kl func338 ntmps338 rfl ae rfl rfl λE h hN hh hu hb=>?_;simp-dsimp[go_sem,hN]
theorem jau(a b:ig):APure prog 337 [S a,S b] (Bo (js a b)):=by
 refine kl func337 ntmps337 rfl ae rfl rfl λE h hN hh hu hb=>?_;simp-dsimp[go_sem,hN];refine iv (xuo a) ?_;simp-dsimp[go_sem,hN];refine qd3 ?_;simp-dsimp[go_sem,hN]
theorem xvg(l:List ig)(k:ig)(hs:kg l):APure prog 304 [.slice (l.map ja),S k] (.tuple [I (l7 k l),Bo (decide (l[l7 k l]?=some k))]):=by
 refine kl func304 ntmps304 rfl ae rfl rfl λE h hN hh hu hb=>?_;simp[go_sem]at hb;have hp:=qwn k l;simp-dsimp[go_sem,hN];refine qvb (α:=Nat×Nat) (λx=>x.1<=l7 k l/\l7 k l<=x.2/\x.2<=l.length) (λx=>⟨[(0,.slice (l.map ja)),(1,S k),(6,I l.length),(7,I x.1),(8,I x.2)],h⟩) (λx=>x.2 - x.1) (0,l.length) ⟨ac,hp,ac⟩ (Wk.mk ai ac aa ag) ?_;rintro⟨i,j⟩ ⟨h1,h2,h3⟩;simp only at h1 h2 h3;simp-dsimp[go_sem,hN];refine ii ?_ ?_<;>intro hc<;>simp at hc
 .have hm:IntKind.i64.wrap ((IntKind.u64.wrap (IntKind.i64.wrap ((i:Int)+j))).fdiv 2)=(((i+j) / 2:Nat):Int):=by
   have h0:=hb.1.1;have e0:IntKind.i64.wrap ((i:Int)+j)=(i:Int)+j:=qed aa aa;rw[e0];have:IntKind.u64.wrap ((i:Int)+j)=(i:Int)+j:=by
    simp only[IntKind.wrap,IntKind.bits,IntKind.signed];simp;omega
   rw[this];have e1:((i:Int)+j).fdiv 2=(((i+j) / 2:Nat):Int):=af;rw[e1,qed aa aa]
  have il:(i+j) / 2<l.length:=aa;have ke:=qwq (k:=k) hs ((i+j) / 2) il;generalize hq:(i+j) / 2=q at hm il ke;have hw:IntKind.i64.wrap ((q:Int)+1)=((q+1:Nat):Int):=cf;simp-dsimp[go_sem,hN,hm,il,ja];refine iv (jau l[q] k) ?_;simp-dsimp[go_sem,hN];refine ii (λnh=>?_) (λnh=>?_)
  .simp-dsimp[go_sem,hN,hw];exact⟨q+1,j,⟨by have:=ke.2 nh;omega,h2,h3⟩,aa,(Wk.mk ai ac aa ag)⟩
  .simp-dsimp[go_sem,hN];refine⟨i,q,⟨h1,?_,aa⟩,aa,(Wk.mk ai ac aa ag)⟩;rcases ei q (l7 k l)with h5|h5
   .grind
   .exact h5
 .have hi:i=l7 k l:=aa;subst hi;by_cases il:l7 k l<l.length
  .simp-dsimp[go_sem,hN,il,ja]
   repeat refine⟨af,?_⟩
   refine kq (jbk _) ac ?_;simp-dsimp[go_sem,hN];refine qd3 ?_;simp-dsimp[go_sem,hN];rw[cu il];simp
  .have hd:decide (l7 k l<l.length)=false:=by simpa using il
   have qqi:l[l7 k l]?=none:=fq aa;simp-dsimp[go_sem,hN,hd,qqi];refine qd3 ?_;simp-dsimp[go_sem,hN];refine qd3 ?_;simp-dsimp[go_sem,hN];rw[qqi];simp
theorem xue(h:g9)(i:Nat)(l:List ig)(hi:h[i]?=some (.uarr 9 1 (l.map ja)))(jm:l.length+1<=68719476736)(key:ig)(ha:kg l) :
  ACalls prog 272 [.own i l.length,S key] h λr h'=>r=.ret (.own i (yv l key).length)/\h'=h.set i (.uarr 9 1 ((yv l key).map ja)):=by
 refine xil func272 rfl ae (by simp[ntmps272]) ?_;intro E hN hh hu;rw[ntmps272]at hN;have ou:i<h.length:=(cm.1 hi).1;have hn:(l.map ja).length=l.length:=ac;have hB:=xvg l key ha;refine tg (qr6 ?_);simp[go_sem,hN];refine tg (jaf [_,_] ?_);simp[go_sem,hN,xi1,qos,hi,hn];refine⟨_,hB,by simp[qyj],?_⟩;simp[go_sem,hN];refine tg (tg (qr6 ?_));simp[go_sem,hN];have ij:=qwn key l;rcases hc:decide (l[l7 key l]?=some key)with _|_
 .have hw:yv l key=l.take (l7 key l)++key::l.drop (l7 key l):=by rw[yv,if_neg af]
  refine qy1 (b:=false) (by simpa[go_sem]using hc) (λh=>by cases h) (λ_=>?_);refine xcp ?_;simp;refine tg (qeq [_,_,_] _ ?_);simp[go_sem,hN];intro c a w s k;refine jks jfs s k (T:=74) (x:=.tmp 17) (xa:=.tmp 15) (xb:=.tmp 16) (f:=.func 305) (d1:=18) rfl rfl rfl aa qhw rfl rfl (by simp[xa6]) (by simp[xa6]) (by simp[xa6]) ag (key:=key) ag (i:=i) (n:=l.length) ag (pos:=l7 key l) ag ac ac rfl hi hn ij jm
   ⟨_,func305,ae,ae⟩ λc' a' w' s' k'=>?_
  refine qca _ [_,_,_,_,_] _ rfl ?_ c' a' w' s' k';simp[go_sem,hN];have po:(yv l key).length=l.length+1:=af;refine xir ⟨⟨trivial,trivial⟩,.own i (l.length+1),_,?_,?_,hwk.refl _,?_,?_,by rw[po],by rw[hw];simp[gd,qjo,ja,xa6]⟩
  .simp[go_sem,ou]
  .simp[AV.under,ou]
  .simp
  .rw[qb1]at hu|-;intro o ho;simp only[gz];rcases qkj ho with ho|rfl
   .grind
   .rfl
 .have hw:yv l key=l:=by rw[yv,if_pos af]
  refine qy1 (b:=true) (by simpa[go_sem]using hc) (λ_=>?_) (λh=>by cases h);refine tg (qr6 ?_);simp[go_sem,hN];rw[hw,qcf hi];refine xir ⟨⟨trivial,trivial⟩,.own i l.length,h,by simp[go_sem,hi],by simp[AV.under,ou],hwk.refl _,cn _,hu,rfl,rfl⟩
end Go.Proofs.YtolejdhnnchfpaaGreatDoor
namespace Go.Proofs.YtolejdhnnchfpaaGreatDoor
open Go Go.Abs Go.Cw Go.Proofs.Tryz
theorem xte(a b:ig):(js b a=true\/b=a)↔js a b=false:=by
 constructor
 .grind[xax,qc4]
 .intro h;rcases qjn (js b a)with g|g
  .grind
  .exact .inr (qvh af af)
theorem xlt(l:List ig):APure prog 83 [.slice (l.map ja)] (Bo (qkl none l&&decide ((l.length:Int)<=64))):=by
 refine lz func83 rfl ae ac rfl ?_;intro E h hN hh hu hb;rw[ntmps83]at hN;refine jo _ _ _ ?_;simp[go_sem]at hb;simp-dsimp[go_sem,hN];refine jz l.length (λn=>qkl (s6 l n) (l.drop n)=qkl none l) (λn=>⟨[(0,.slice (l.map ja)),(5,.slice (l.map ja)),(6,I l.length),(7,I n)],h⟩) qhe (Wk.mk ai ac aa ag) ?_;intro n hn hI;have hw:=jj hn hb.1;simp-dsimp[go_sem,hN];refine ii ?_ ?_<;>intro hc<;>try simp at hc
 .rw[jv hc,qkl]at hI;simp-dsimp[go_sem,hN,hc];refine iv (qd7 _) ?_;cases n with
  |zero =>
   simp-dsimp[go_sem,hN];refine ii ?_ ?_<;>intro hg<;>try simp at hg
   .simp-dsimp[go_sem,hN];simp[<-hI,hg,s6,after]
   .simp-dsimp[go_sem,hN,hw];exact⟨hc,qfy,(Wk.mk ai ac aa ag)⟩
  |succ m =>
   have hm:m<l.length:=aa;have oh:=qq9 (ez hm) hb.1;simp at hw;simp-dsimp[go_sem,hN,oh,hm];refine ii ?_ ?_<;>intro hg<;>try simp at hg
   .simp-dsimp[go_sem,hN];rw[<-hI];rcases hg with h1|h1
    .grind
    .have h2:=(xte _ _).1 h1;simp[s6,hm,after,h2]
   .have h2:js l[m] l[m+1]=true:=by
     rcases qjn (js l[m] l[m+1])with g|g
     .exact g
     .have:=(xte _ _).2 g;grind
    simp-dsimp[go_sem,hN,hw];simp[hg,s6,hm,after,h2]at hI;exact⟨hc,qf0,(Wk.mk ai ac aa ag)⟩
 .rw[cq aa,qkl]at hI;simp-dsimp[go_sem,hN,<-hI]
theorem qzd(f:Foot):APure prog 53 [.agg f.c] (Bo (qa f.all f.reads f.writes)):=by
 refine lz func53 rfl ae ac rfl ?_;intro E h hN hh hu hb;rw[ntmps53]at hN;refine jo _ _ _ ?_;simp-dsimp[go_sem,hN,Foot.c];refine ii ?_ ?_<;>intro h0<;>try simp at h0
 all_goals simp-dsimp[go_sem,hN,qa,h0]
 refine iv (xlt f.reads) ?_;simp-dsimp[go_sem,hN];refine kq (xlt f.writes) ac ?_;simp-dsimp[go_sem,hN,qa,h0]
theorem xwy(s:ig):APure prog 109 [S s] (Bo (pp s)):=by
 refine kl func109 ntmps109 rfl ae rfl rfl λE h hN hh hu hb=>?_;simp[go_sem]at hb;simp-dsimp[go_sem,hN];refine ii ?_ ?_<;>intro h0<;>simp at h0
 .simp-dsimp[go_sem,hN];simp[pp,Int.not_le.2 h0]
 simp-dsimp[go_sem,hN];refine jz s.size (λn=>nz okB ((bl s).drop n)=nz okB (bl s)) (λn=>⟨[(0,S s),(3,I n)],h⟩) ac (Wk.mk ai ac aa ag) ?_;intro n hn hI;have hw:=jj hn hb;simp-dsimp[go_sem,hN];refine ii ?_ ?_<;>intro hc<;>simp at hc
 .rw[qnt hc,nz]at hI;simp-dsimp[go_sem,hN,hc];refine ii (λhg=>?_) (λhg=>?_)
  .simp-dsimp[go_sem,hN];simp[pp,<-hI,okB,hg]
  .simp-dsimp[go_sem,hN,hw];exact⟨hc,qgu,(Wk.mk ai ac aa ag)⟩
 .rw[qt1 aa,nz]at hI;simp-dsimp[go_sem,hN,pp,<-hI,h0]
theorem xz2(s:ig):APure prog 110 [S s] (Bo (sw s)):=by
 refine kl func110 ntmps110 rfl ae rfl rfl λE h hN hh hu hb=>?_;simp[go_sem]at hb;simp-dsimp[go_sem,hN];refine jz s.size (λn=>nz qsu ((bl s).drop n)=nz qsu (bl s)) (λn=>⟨[(0,S s),(3,I n)],h⟩) ac (Wk.mk ai ac aa ag) ?_;intro n hn hI;have hw:=jj hn hb;simp-dsimp[go_sem,hN];refine ii ?_ ?_<;>intro hc<;>simp at hc
 .rw[qnt hc,nz]at hI;simp-dsimp[go_sem,hN,hc];refine⟨aa,ii (λhg=>?_) (λhg=>?_)⟩
  .simp-dsimp[go_sem,hN];have:qsu (qq s n)=false:=by grind[qsu]
   simp[sw,<-hI,this]
  .simp-dsimp[go_sem,hN,hw];have:qsu (qq s n)=true:=by grind[qsu]
   exact⟨hc,by simpa[this]using hI,(Wk.mk ai ac aa ag)⟩
 .rw[qt1 aa,nz]at hI;have e1:s=em\/1<=(s.size:Int):=xra s;rcases e1 with rfl|e1
  .simp-dsimp[go_sem,hN,sw]
  .have e2:¬s=em:=by rintro rfl;simp at e1
   simp-dsimp[go_sem,hN,sw,<-hI,e1,e2]
theorem jf5(k n:Int)(s:ig):APure prog 73 [.agg [I k,I n,S s]] (Bo (xn k n s)):=by
 refine lz func73 rfl ae ac rfl ?_;intro E h hN hh hu hb;rw[ntmps73]at hN;refine jo _ _ _ ?_;simp-dsimp[go_sem,hN];refine ii ?_ ?_<;>intro h0<;>simp at h0<;>simp-dsimp[go_sem,hN,xn,h0];refine ii ?_ ?_<;>intro h1<;>simp at h1<;>simp-dsimp[go_sem,hN,xn,h0,h1];refine kq (xwy s) ac ?_;by_cases h2:k=2<;>simp-dsimp[go_sem,hN,xn,h0,h1,h2]
theorem xzg(l:List Pr):APure prog 74 [.slice (l.map Pr.c)] (Bo (qoy none l)):=by
 refine lz func74 rfl ae ac rfl ?_;intro E h hN hh hu hb;rw[ntmps74]at hN;refine jo _ _ _ ?_;simp[go_sem]at hb;simp-dsimp[go_sem,hN];refine jz l.length (λn=>qoy ((s6 l n).map Pr.key) (l.drop n)=qoy none l) (λn=>⟨[(0,.slice (l.map Pr.c)),(3,I n)],h⟩) qhe (Wk.mk ai ac aa ag) ?_;intro n hn hI;have hw:=jj hn hb.1;simp-dsimp[go_sem,hN];refine ii ?_ ?_<;>intro hc<;>simp at hc
 .rw[jv hc,qoy]at hI;simp-dsimp[go_sem,hN,hc];refine jt 22 mixed ae ae ?_;simp-dsimp[go_sem,hN,hc];refine m6 (xz2 _) ac ?_;cases n with
  |zero =>
   simp-dsimp[go_sem,hN];refine ii ?_ ?_<;>intro hg<;>try simp at hg
   .simp-dsimp[go_sem,hN];grind[s6,after]
   .simp-dsimp[go_sem,hN,hw];exact⟨hc,qfy,(Wk.mk ai ac aa ag)⟩
  |succ m =>
   have hm:m<l.length:=aa;have oh:=qq9 (ez hm) hb.1;simp at hw;simp-dsimp[go_sem,hN,oh,hm,hc];refine⟨λhk=>⟨hk,aa⟩,ii (λhg=>?_) (λhg=>?_)⟩<;>rw[jaq]at hg<;>simp at hg
   .simp-dsimp[go_sem,hN];rw[<-hI];rcases hg with h1|h1<;>simp[s6,hm,after,h1]
   .simp-dsimp[go_sem,hN,hw];simp[hg,s6,hm,after]at hI;exact⟨hc,qf0,(Wk.mk ai ac aa ag)⟩
 .rw[cq aa,qoy]at hI;simp-dsimp[go_sem,hN,<-hI]
theorem xmz(l:List Pr):APure prog 37 [.slice (l.map Pr.c)] (Bo (r9 l)):=by
 refine lz func37 rfl ae ac rfl ?_;intro E h hN hh hu hb;rw[ntmps37]at hN;refine jo _ _ _ ?_;simp[go_sem]at hb;simp-dsimp[go_sem,hN];refine jz l.length (λn=>qsx (l.drop n)=qsx l) (λn=>⟨[(0,.slice (l.map Pr.c)),(3,I n)],h⟩) ac (Wk.mk ai ac aa ag) ?_;intro n hn hI;have hw:=jj hn hb.1;simp-dsimp[go_sem,hN];refine ii ?_ ?_<;>intro hc<;>simp at hc
 .rw[jv hc,qsx,nz]at hI;simp-dsimp[go_sem,hN,hc];refine iv (jf5 _ _ _) ?_;simp-dsimp[go_sem,hN];refine ii ?_ ?_<;>intro hg<;>simp at hg
  .simp-dsimp[go_sem,hN];simp[r9,<-hI,hg]
  .simp-dsimp[go_sem,hN,hw];exact⟨hc,by simpa[hg,qsx]using hI,(Wk.mk ai ac aa ag)⟩
 .rw[cq aa,qsx,nz]at hI;simp-dsimp[go_sem,hN];refine iv (xzg l) ?_;simp-dsimp[go_sem,hN,r9,<-hI]
theorem qcb(l:List Pr):APure prog 22 [.slice (l.map Pr.c)] (Bo (jl l)):=by
 rw[<-xn2];refine lz func22 rfl ae ac rfl ?_;intro E h hN hh hu hb;rw[ntmps22]at hN;refine jo _ _ _ ?_;simp[go_sem]at hb;simp-dsimp[go_sem,hN];refine jz l.length (λn=>si (λp=>decide (p.v.k=0)) (l.drop n)=si (λp=>decide (p.v.k=0)) l) (λn=>⟨[(0,.slice (l.map Pr.c)),(3,I n)],h⟩) ac (Wk.mk ai ac aa ag) ?_;intro n hn hI;have hw:=jj hn hb.1;simp-dsimp[go_sem,hN];refine ii ?_ ?_<;>intro hc<;>simp at hc
 .rw[jv hc,si]at hI;simp-dsimp[go_sem,hN,hc];refine ii ?_ ?_<;>intro hg<;>simp at hg
  .simp-dsimp[go_sem,hN];simp[xa8,<-hI,hg]
  .simp-dsimp[go_sem,hN,hw];exact⟨hc,br,(Wk.mk ai ac aa ag)⟩
 .rw[cq aa,si]at hI;simp-dsimp[go_sem,hN];refine iv (xmz l) ?_;simp-dsimp[go_sem,hN,xa8,<-hI]
theorem xqg(l:List Pr)(k:ig):APure prog 71 [.slice (l.map Pr.c),S k] (Bo (nf l k)):=by
 refine lz func71 rfl ae ac rfl ?_;intro E h hN hh hu hb;rw[ntmps71]at hN;refine jo _ _ _ ?_;simp[go_sem]at hb;simp-dsimp[go_sem,hN];refine jz l.length (λn=>nf (l.drop n) k=nf l k) (λn=>⟨[(0,.slice (l.map Pr.c)),(1,S k),(5,I n)],h⟩) ac (Wk.mk ai ac aa ag) ?_;intro n hn hI;have hw:=jj hn hb.1.1;simp-dsimp[go_sem,hN];refine ii ?_ ?_<;>intro hc<;>simp at hc
 .rw[jv hc,nf,si]at hI;simp-dsimp[go_sem,hN,hc];refine ii ?_ ?_<;>intro hg<;>simp at hg
  .simp-dsimp[go_sem,hN];simp[<-hI,hg]
  .simp-dsimp[go_sem,hN,hw];exact⟨hc,by simpa[hg,nf]using hI,(Wk.mk ai ac aa ag)⟩
 .rw[cq aa,nf,si]at hI;simp-dsimp[go_sem,hN,<-hI]
theorem jdj(l:List Pr)(p:Pr)(hB:l.length<68719476736):APure prog 108 [.slice (l.map Pr.c),.agg p.c] (.slice ((qlo l p).map Pr.c)):=by
 refine kl func108 ntmps108 rfl ae rfl rfl λE h hN hh hu hb=>?_;simp[go_sem]at hb;simp-dsimp[go_sem,hN];refine jz l.length (λn=>n+qkw p.key (l.drop n)=qkw p.key l) (λn=>⟨[(0,.slice (l.map Pr.c)),(3,P0 h.length),(5,I n)],h++[.cells p.c]⟩) ac mj ?_;intro n hn hI;have hw:=jj hn (ez hB);simp-dsimp[go_sem,hN];refine jt 12 mixed ae ae ?_;by_cases hc:n<l.length
 .rw[jv hc,qkw]at hI;simp-dsimp[go_sem,hN,hc];refine ii ?_ ?_<;>intro hg<;>try simp at hg
  .simp-dsimp[go_sem,hN,hw];rw[if_pos hg]at hI;exact⟨hc,aa,(Wk.mk ai ac am ag)⟩
  .rw[if_neg (by simp[hg])]at hI;simp-dsimp[go_sem,hN];refine⟨aa,aa,aa,aa,aa,?_⟩;rw[if_pos aa];simp[qlo,<-hI,Pr.c,gd,qjo]
 .rw[cq aa,qkw]at hI;simp-dsimp[go_sem,hN,hc];refine⟨aa,aa,aa,aa,aa,?_⟩;rw[if_pos aa];simp[qlo,<-hI,Pr.c,gd,qjo]
theorem xvf(l w:List Pr)(hB:l.length+w.length<68719476736):APure prog 72 [.slice (l.map Pr.c),.slice (w.map Pr.c)]
  (if jl l&&r9 w then .tuple [.slice ((rx l w).map Pr.c),I 0]else .tuple [.slice [],I 1]):=by
 refine lz func72 rfl ae ac (by split<;>rfl) ?_;intro E h hN hh hu hb;rw[ntmps72]at hN;refine jo _ _ _ ?_;simp[go_sem]at hb;simp-dsimp[go_sem,hN];refine iv (qcb l) ?_;simp-dsimp[go_sem,hN];refine kq (xmz w) ac ?_;simp-dsimp[go_sem,hN];refine ii ?_ ?_<;>intro h0<;>simp at h0
 .simp-dsimp[go_sem,hN];grind
 rw[h0.1,h0.2];simp-dsimp[go_sem,hN];refine td (α:=List Pr) l.length (λn o=>o++qnk w (l.drop n)=qnk w l/\o.length<=n) (λn o=>⟨[(0,.slice (l.map Pr.c)),(1,.slice (w.map Pr.c)),(6,.own h.length o.length),(7,I n)],h++[.arr 59 4 (o.map Pr.c)]⟩) [] ac ((qq1 E _ 6 59 4 rfl).trans (Wk.mk ai ac am ag)) ?_;intro n o hn ⟨hI,hol⟩;have hw:=jj hn hb.1.1;simp-dsimp[go_sem,hN];refine ii ?_ ?_<;>intro hc<;>simp at hc
 .rw[jv hc,qnk]at hI;simp-dsimp[go_sem,hN,hc];refine iv (xqg w _) ?_;simp-dsimp[go_sem,hN];refine ii ?_ ?_<;>intro hg<;>simp at hg
  .simp-dsimp[go_sem,hN,hc];refine⟨aa,?_⟩;simp-dsimp[go_sem,hN,hw];exact⟨o++[l[n]],⟨br,az⟩,mj⟩
  .simp-dsimp[go_sem,hN,hw];exact⟨hc,o,⟨br,aa⟩,(Wk.mk ai ac am ag)⟩
 rw[cq aa,qnk,ej]at hI;simp-dsimp[go_sem,hN];subst hI;refine td (α:=List Pr) w.length (λn o=>qm6 o (w.drop n)=rx l w/\o.length<=l.length+n) (λn o=>⟨[(1,.slice (w.map Pr.c)),(6,.slice (o.map Pr.c)),(8,I n)],h⟩) (qnk w l) (by grind[rx]) ((quy E _).trans (Wk.mk ai ac aa ag)) ?_;intro n o hn ⟨hI,hol⟩;have hw:=jj hn hb.2.1;simp-dsimp[go_sem,hN];refine ii ?_ ?_<;>intro hc<;>simp at hc
 .rw[jv hc,qm6]at hI;simp-dsimp[go_sem,hN,hc];refine ii ?_ ?_<;>intro hg<;>simp at hg
  .simp-dsimp[go_sem,hN,hc];refine iv (jdj o _ aa) ?_;simp-dsimp[go_sem,hN,hw];exact⟨hc,qlo o w[n],⟨br,by rw[jgj];omega⟩,(Wk.mk ai ac aa ag)⟩
  .simp-dsimp[go_sem,hN,hw];exact⟨hc,o,⟨br,aa⟩,(Wk.mk ai ac aa ag)⟩
 .rw[cq aa,qm6]at hI;simp-dsimp[go_sem,hN,hI]
attribute [go_sem] wn yd zu eqA zo
theorem xkf(l l':List Pr):APure prog 21 [.slice (l.map Pr.c),.slice (l'.map Pr.c)] (Bo (mm yd l l')):=by
 refine lz func21 rfl ae ac rfl ?_;intro E h hN hh hu hb;rw[ntmps21]at hN;refine jo _ _ _ ?_;simp[go_sem]at hb;simp-dsimp[go_sem,hN];refine ii ?_ ?_<;>intro h0<;>simp at h0
 .simp-dsimp[go_sem,hN];exact qyr aa
 simp-dsimp[go_sem,hN];refine jz l.length (λn=>mm yd (l.drop n) (l'.drop n)=mm yd l l') (λn=>⟨[(0,.slice (l.map Pr.c)),(1,.slice (l'.map Pr.c)),(5,I n)],h⟩) ac (Wk.mk ai ac aa ag) ?_;intro n hn hI;have hw:=jj hn hb.1.1;simp-dsimp[go_sem,hN];refine ii ?_ ?_<;>intro hc<;>simp at hc
 .have sg:n<l'.length:=aa;rw[jv hc,jv sg,mm]at hI;simp-dsimp[go_sem,hN,hc,sg];refine jt 8 mixed ae ae ?_;simp-dsimp[go_sem,hN,hc,sg];refine ii ?_ ?_<;>intro hg<;>simp at hg
  .simp-dsimp[go_sem,hN];rw[<-hI];simp[yd,wn];grind
  .simp-dsimp[go_sem,hN,hw];refine⟨hc,?_,(Wk.mk ai ac aa ag)⟩;rw[<-hI];simp[yd,wn,hg]
 .rw[cq aa,cq aa,mm]at hI;simp-dsimp[go_sem,hN,<-hI]
theorem xpk(l l':List ig):APure prog 66 [.slice (l.map ja),.slice (l'.map ja)] (Bo (mm zu l l')):=by
 refine lz func66 rfl ae ac rfl ?_;intro E h hN hh hu hb;rw[ntmps66]at hN;refine jo _ _ _ ?_;simp[go_sem]at hb;simp-dsimp[go_sem,hN];refine ii ?_ ?_<;>intro h0<;>simp at h0
 .simp-dsimp[go_sem,hN];exact qyr aa
 simp-dsimp[go_sem,hN];refine jz l.length (λn=>mm zu (l.drop n) (l'.drop n)=mm zu l l') (λn=>⟨[(0,.slice (l.map ja)),(1,.slice (l'.map ja)),(5,I n)],h⟩) ac (Wk.mk ai ac aa ag) ?_;intro n hn hI;have hw:=jj hn hb.1.1;simp-dsimp[go_sem,hN];refine ii ?_ ?_<;>intro hc<;>simp at hc
 .have sg:n<l'.length:=aa;rw[jv hc,jv sg,mm]at hI;simp-dsimp[go_sem,hN,hc,sg];refine jt 8 mixed ae ae ?_;simp-dsimp[go_sem,hN,hc,sg];refine ii ?_ ?_<;>intro hg<;>simp at hg
  .simp-dsimp[go_sem,hN];rw[<-hI];simp[zu,wn];grind
  .simp-dsimp[go_sem,hN,hw];refine⟨hc,?_,(Wk.mk ai ac aa ag)⟩;rw[<-hI];simp[zu,wn,hg]
 .rw[cq aa,cq aa,mm]at hI;simp-dsimp[go_sem,hN,<-hI]
theorem jc1(l l':List ig):APure prog 199 [.slice (l.map ja),.slice (l'.map ja)] (Bo (mm zu l l')):=by
 refine kl func199 ntmps199 rfl ae rfl rfl λE h hN hh hu hb=>?_;simp[go_sem]at hb;simp-dsimp[go_sem,hN];refine ii ?_ ?_<;>intro h0<;>simp at h0
 .simp-dsimp[go_sem,hN];exact qyr aa
 simp-dsimp[go_sem,hN];refine jz l.length (λn=>mm zu (l.drop n) (l'.drop n)=mm zu l l') (λn=>⟨[(0,.slice (l.map ja)),(1,.slice (l'.map ja)),(12,I l.length),(13,I n)],h⟩) ac (Wk.mk ai ac aa ag) ?_;intro n hn hI;have hw:=jj hn hb.1.1;simp-dsimp[go_sem,hN];refine ii ?_ ?_<;>intro hc<;>simp at hc
 .have sg:n<l'.length:=aa;rw[jv hc,jv sg,mm]at hI;simp-dsimp[go_sem,hN,hc,sg];refine jt 8 mixed ae ae ?_;simp-dsimp[go_sem,hN,hc,sg];refine ii ?_ ?_<;>intro hg<;>simp at hg
  .simp-dsimp[go_sem,hN];rw[<-hI];simp[zu,wn];grind
  .simp-dsimp[go_sem,hN,hw];refine⟨hc,?_,(Wk.mk ai ac aa ag)⟩;rw[<-hI];simp[zu,wn,hg]
 .rw[cq aa,cq aa,mm]at hI;simp-dsimp[go_sem,hN,<-hI]
theorem jbt(l l':List Pr):APure prog 200 [.slice (l.map Pr.c),.slice (l'.map Pr.c)] (Bo (mm yd l l')):=by
 refine kl func200 ntmps200 rfl ae rfl rfl λE h hN hh hu hb=>?_;simp[go_sem]at hb;simp-dsimp[go_sem,hN];refine ii ?_ ?_<;>intro h0<;>simp at h0
 .simp-dsimp[go_sem,hN];exact qyr aa
 simp-dsimp[go_sem,hN];refine jz l.length (λn=>mm yd (l.drop n) (l'.drop n)=mm yd l l') (λn=>⟨[(0,.slice (l.map Pr.c)),(1,.slice (l'.map Pr.c)),(12,I l.length),(13,I n)],h⟩) ac (Wk.mk ai ac aa ag) ?_;intro n hn hI;have hw:=jj hn hb.1.1;simp-dsimp[go_sem,hN];refine ii ?_ ?_<;>intro hc<;>simp at hc
 .have sg:n<l'.length:=aa;rw[jv hc,jv sg,mm]at hI;simp-dsimp[go_sem,hN,hc,sg];refine jt 8 mixed ae ae ?_;simp-dsimp[go_sem,hN,hc,sg];refine ii ?_ ?_<;>intro hg<;>simp at hg
  .simp-dsimp[go_sem,hN];rw[<-hI];simp[yd,wn];grind
  .simp-dsimp[go_sem,hN,hw];refine⟨hc,?_,(Wk.mk ai ac aa ag)⟩;rw[<-hI];simp[yd,wn,hg]
 .rw[cq aa,cq aa,mm]at hI;simp-dsimp[go_sem,hN,<-hI]
set_option maxHeartbeats 1000000 in
theorem jkm(a b:Eff):APure prog 34 [.agg a.c,.agg b.c] (Bo (qr1 a b)):=by
 refine lz func34 rfl ae ac rfl ?_;intro E h hN hh hu hb;rw[ntmps34]at hN;refine jo _ _ _ ?_;simp[go_sem]at hb;simp-dsimp[go_sem,hN];refine xeb 7 mixed ae ?_;simp-dsimp[go_sem,hN];refine⟨qhz,?_⟩;refine ii ?_ ?_<;>intro h0<;>simp at h0
 .simp-dsimp[go_sem,hN];have:qr1 a b=false:=by grind[qr1,qyr,wn]
  rw[this]
 simp-dsimp[go_sem,hN];refine jz a.out.length (λn=>mm wn (a.out.drop n) (b.out.drop n)=mm wn a.out b.out) (λn=>⟨[(2,.ptr h.length 0),(3,.ptr (h.length+1) 0),(5,.ptr (h.length+2) 0),(6,.ptr (h.length+3) 0),(7,I n)],h++[.cells a.c,.cells b.c,.cells [I a.status,I a.code,.slice (a.out.map V.c)],.cells [I b.status,I b.code,.slice (b.out.map V.c)]]⟩) ac mj ?_;intro n hn hI;have hw:=jj hn hb.1.1.1;simp-dsimp[go_sem,hN];refine ii ?_ ?_<;>intro hc<;>simp at hc
 .have sg:n<b.out.length:=aa;rw[jv hc,jv sg,mm]at hI;simp-dsimp[go_sem,hN,hc,sg];refine jt 10 mixed ae ae ?_;simp-dsimp[go_sem,hN,hc,sg];refine ii ?_ ?_<;>intro hg<;>simp at hg
  .simp-dsimp[go_sem,hN];have:mm wn a.out b.out=false:=by grind[wn]
   simp[qr1,this]
  .simp-dsimp[go_sem,hN,hw];refine⟨hc,?_,(Wk.mk ai ac am ag)⟩;rw[<-hI];simp[wn,hg]
 .rw[cq aa,cq aa,mm]at hI;simp-dsimp[go_sem,hN];refine iv (xpk _ _) ?_;simp-dsimp[go_sem,hN];refine kq (xpk _ _) ac ?_;simp-dsimp[go_sem,hN];refine kq (xkf _ _) ac ?_;simp-dsimp[go_sem,hN,qr1,h0,<-hI]
theorem jjv(l:List ig)(k:ig):APure prog 135 [.slice (l.map ja),S k] (I (nv (λx=>decide (k=x)) l)):=by
 refine kl func135 ntmps135 rfl ae rfl rfl λE h hN hh hu hb=>?_;simp[go_sem]at hb;simp-dsimp[go_sem,hN];refine jz l.length (λn=>ph (λx=>decide (k=x)) n (l.drop n)=nv (λx=>decide (k=x)) l) (λn=>⟨[(0,.slice (l.map ja)),(1,S k),(7,I l.length),(8,I n)],h⟩) qgd (Wk.mk ai ac aa ag) ?_;intro n hn hI;have hw:=jj hn hb.1.1;simp-dsimp[go_sem,hN];refine ii ?_ ?_<;>intro hc<;>simp at hc
 .rw[jv hc,ph]at hI;simp-dsimp[go_sem,hN,hc];refine ii ?_ ?_<;>intro hg<;>simp at hg
  .simp-dsimp[go_sem,hN];simpa[hg]using hI
  .simp-dsimp[go_sem,hN,hw];exact⟨hc,br,(Wk.mk ai ac aa ag)⟩
 .rw[cq aa,ph]at hI;simp-dsimp[go_sem,hN,<-hI]
theorem xey(l:List ig)(k:ig):APure prog 93 [.slice (l.map ja),S k] (Bo (l8 l k)):=by
 refine lz func93 rfl ae ac rfl ?_;intro E h hN hh hu hb;rw[ntmps93]at hN;refine jo _ _ _ ?_;simp-dsimp[go_sem,hN];refine iv (jjv l k) ?_;simp-dsimp[go_sem,hN,xhu];simp[l8,eq_comm]
end Go.Proofs.YtolejdhnnchfpaaGreatDoor
