/- Part 39 of a proof. -/
import Derived.Shelf.Small.Strs
import Derived.Shelf.Strconv.Itoa4
import Derived.Lib.ItoaLen
import Derived.Test.YtbimdamecieomaaGreatDoorR38
set_option linter.all false
set_option maxRecDepth 4000
set_option maxHeartbeats 4000000
namespace Go.Proofs.YtbimdamecieomaaGreatDoor
open Go Go.Abs Go.Cw Tryz
section
attribute [local go_sem] mC
variable {C:Cfg} {tT:TypeId} {tx:Nat×Nat} {g m v o io ir ip:Nat} {K:MQ→gz} {n0:Nat}
theorem jm6(Y:MHs C tT tx g m v o io ir ip K n0)(hF:C.fmt=jh)(s:MS)(op:Int)(a:V)(ha:jp s.reads)(hl:s.reads.length+1≤68719476736)(hr:kp a) :
  ACalls prog 213 [.ptr m 0,I op,.agg a.c] (K s.q) fun r h'=>r=og (rr C op a s).1∧h'=K (rr C op a s).2.q:=by
 refine lw func213 ntmps213 rfl ac rfl fun E hN hh hu hb il kr=>?_;simp-dsimp[go_sem,hN,Y.len];refine gy ?_ ?_<;>intro h0<;>simp at h0
 ·rw[rr,if_pos h0];simp-dsimp[go_sem,hN,Y.loc,Y.len];refine it (xy (decide (a.k=1)) _) ?_;rintro r h' ⟨⟨hm,rfl⟩|⟨hm,rfl⟩,rfl⟩<;>simp at hm
  ·simp-dsimp[go_sem,hN,Y.loc,Y.len];refine ia (xe0 a.n) ?_;simp-dsimp[go_sem,hN,Y.loc,Y.len];refine it (qdu (wj a.n) _) ?_;rintro r h' ⟨rfl,rfl⟩;rw[if_pos hm];cases sj (wj a.n)<;>simp-dsimp[go_sem,hN,og,Y.loc1,Y.sloc1,Y.len]<;>exact⟨_,.refl _,K s.q,af,ag,au,Y.und' _,aj,ah⟩
  ·simp-dsimp[go_sem,hN];rw[if_neg hm];exact⟨_,.refl _,K s.q,af,ag,au,Y.und' _,aj,ah⟩
 simp-dsimp[go_sem,hN,Y.len];rw[rr,if_neg h0];refine gy ?_ ?_<;>intro h1<;>simp at h1
 ·rw[if_pos h1];simp-dsimp[go_sem,hN,Y.loc,Y.len];refine it (xy (decide (a.k=3)) _) ?_;rintro r h' ⟨⟨hm,rfl⟩|⟨hm,rfl⟩,rfl⟩<;>simp at hm
  ·simp-dsimp[go_sem,hN,Y.loc,Y.len];refine ia (qby (decide (a.n=0))) ?_;simp-dsimp[go_sem,hN,Y.loc1,Y.sloc1,Y.len];rw[if_pos hm];exact⟨_,.refl _,K s.q,af,ag,au,Y.und' _,aj,ah⟩
  ·simp-dsimp[go_sem,hN];rw[if_neg hm];exact⟨_,.refl _,K s.q,af,ag,au,Y.und' _,aj,ah⟩
 simp-dsimp[go_sem,hN,Y.len];rw[if_neg h1];refine gy ?_ ?_<;>intro h2<;>simp at h2
 ·rw[if_pos h2];simp-dsimp[go_sem,hN,Y.loc,Y.len];refine it (xy (decide (a.k=1)) _) ?_;rintro r h' ⟨⟨hm,rfl⟩|⟨hm,rfl⟩,rfl⟩<;>simp at hm
  ·simp-dsimp[go_sem,hN,Y.loc,Y.len];refine it (xyq a.n hr.1 _ g (Y.lg' _ _)) ?_;rintro r h' ⟨rfl,rfl⟩;simp-dsimp[go_sem,hN];refine it (xkh _ _) ?_;rintro r h' ⟨rfl,rfl⟩;rw[if_pos hm,hF];cases wq (jh a.n)<;>simp-dsimp[go_sem,hN,og,Y.loc1,Y.sloc1,Y.len]<;>exact⟨_,.refl _,K s.q,af,ag,au,Y.und' _,aj,ah⟩
  ·simp-dsimp[go_sem,hN];rw[if_neg hm];exact⟨_,.refl _,K s.q,af,ag,au,Y.und' _,aj,ah⟩
 simp-dsimp[go_sem,hN,Y.len];rw[if_neg h2];refine gy ?_ ?_<;>intro h3<;>simp at h3
 ·rw[if_pos h3];simp-dsimp[go_sem,hN,Y.loc,Y.len];refine it (xy (decide (a.k=2)) _) ?_;rintro r h' ⟨⟨hm,rfl⟩|⟨hm,rfl⟩,rfl⟩<;>simp at hm
  ·simp-dsimp[go_sem,hN,Y.loc,Y.len];refine ia (qer (a.s.size:Int)) ?_;simp-dsimp[go_sem,hN,Y.loc1,Y.sloc1,Y.len];rw[if_pos hm];exact⟨_,.refl _,K s.q,af,ag,au,Y.und' _,aj,ah⟩
  ·simp-dsimp[go_sem,hN];rw[if_neg hm];exact⟨_,.refl _,K s.q,af,ag,au,Y.und' _,aj,ah⟩
 simp-dsimp[go_sem,hN,Y.loc,Y.len];rw[if_neg h3];refine it (xy (decide (a.k=2)) _) ?_;rintro r h' ⟨⟨hm,rfl⟩|⟨hm,rfl⟩,rfl⟩<;>simp at hm
 rotate_left
 ·simp-dsimp[go_sem,hN];rw[if_neg hm];exact⟨_,.refl _,K s.q,af,ag,au,Y.und' _,aj,ah⟩
 rw[if_neg (by simpa using hm)];simp-dsimp[go_sem,hN,Y.loc,Y.len];refine it (jds (Y.ext [_,_] ay) s a.s ha hl) ?_;rintro r h' ⟨rfl,rfl⟩;rcases r5 C a.s s with⟨z|w,s'⟩
 ·simp-dsimp[go_sem,hN,og];exact⟨_,.refl _,K s'.q,af,ag,au,Y.und' _,aj,ah⟩
 simp-dsimp[go_sem,hN,og,Y.loc,Y.loc1,Y.len];simp only[wd];refine gy ?_ ?_<;>intro h4<;>simp at h4
 ·simp-dsimp[go_sem,hN,Y.loc2,Y.len];refine ia (qby (!decide (w.k=0))) ?_;simp-dsimp[go_sem,hN,Y.loc1,Y.sloc1,Y.len];rw[if_pos h4];exact⟨_,.refl _,K s'.q,af,ag,au,Y.und' _,aj,ah⟩
 rw[if_neg h4];simp-dsimp[go_sem,hN,Y.loc2,Y.len];refine gy ?_ ?_<;>intro h5<;>simp at h5
 ·simp-dsimp[go_sem,hN];refine ia (qer 0) ?_;simp-dsimp[go_sem,hN,Y.loc1,Y.sloc1,Y.len];rw[if_pos h5];exact⟨_,.refl _,K s'.q,af,ag,au,Y.und' _,aj,ah⟩
 rw[if_neg (by rintro⟨k1,k2⟩;exact h5 k1 k2)];simp-dsimp[go_sem,hN,Y.loc2,Y.len];refine gy ?_ ?_<;>intro h6<;>simp at h6
 ·simp-dsimp[go_sem,hN];refine it (xkh em _) ?_;rintro r h' ⟨rfl,rfl⟩;rw[if_pos h6];cases wq em<;>simp-dsimp[go_sem,hN,og,Y.loc1,Y.sloc1,Y.len]<;>exact⟨_,.refl _,K s'.q,af,ag,au,Y.und' _,aj,ah⟩
 rw[if_neg (by rintro⟨k1,k2⟩;exact h6 k1 k2)];simp-dsimp[go_sem,hN,Y.loc2,Y.len];refine gy ?_ ?_<;>intro h7<;>simp at h7
 ·simp-dsimp[go_sem,hN];refine gy (fun _=>?_) (fun hx=>by simp[h7]at hx);simp-dsimp[go_sem,hN];refine it (qbf 1003 _) ?_;rintro r h' ⟨rfl,rfl⟩;simp-dsimp[go_sem,hN];rw[if_pos (.inl h7)];exact⟨_,.refl _,K s'.q,af,ag,au,Y.und' _,aj,ah⟩
 simp-dsimp[go_sem,hN,Y.loc2,Y.len];refine gy ?_ ?_<;>intro h8<;>simp at h8
 ·simp-dsimp[go_sem,hN];refine it (qbf 1003 _) ?_;rintro r h' ⟨rfl,rfl⟩;simp-dsimp[go_sem,hN];rw[if_pos (.inr h8)];exact⟨_,.refl _,K s'.q,af,ag,au,Y.und' _,aj,ah⟩
 simp-dsimp[go_sem,hN,Y.loc2,Y.loc1,Y.sloc1,Y.len];rw[if_neg (fun k=>k.elim (fun k=>k.2 (h7 k.1)) (fun k=>k.2 (h8 k.1)))];exact⟨_,.refl _,K s'.q,af,ag,au,Y.und' _,aj,ah⟩
end
section
attribute [local go_sem] mC
variable {C:Cfg} {tT:TypeId} {tx:Nat×Nat} {g m v o io ir ip:Nat}
theorem qcg(hF:C.fmt=jh)(hC:ur C){K:MQ→gz}{n0:Nat}(Y:MHs C tT tx g m v o io ir ip K n0)(s:MS)(e:Ex)(hX:su e)(hM:qpc s)(ha:jp s.reads)(hl:s.reads.length+nodes e≤1000000000) :
  ACalls prog 168 [.ptr m 0,.agg e.x] (K s.q) fun r h'=>r=og (kx C e s).1∧h'=K (kx C e s).2.q:=by
 refine lw func168 ntmps168 rfl ac rfl fun E hN hh hu hb il kr=>?_;have hX':=(qvc _).1 hX;simp[go_sem]at hb;rw[xri];simp-dsimp[go_sem,hN,Y.len,Y.loc];refine gy ?_ ?_<;>intro h1<;>simp at h1
 ·simp-dsimp[go_sem,hN,Y.len,Y.loc];refine ia (qer e.n) ?_;simp-dsimp[go_sem,hN,Y.len,Y.loc1,Y.sloc1];rw[if_pos h1];exact⟨_,.refl _,K s.q,af,ag,au,Y.und' _,aj,ah⟩
 rw[if_neg h1];simp-dsimp[go_sem,hN,Y.len,Y.loc];refine gy ?_ ?_<;>intro h2<;>simp at h2
 ·simp-dsimp[go_sem,hN,Y.len,Y.loc,Y.loc1,Y.sloc1];rw[if_pos h2];exact⟨_,.refl _,K s.q,af,ag,au,Y.und' _,aj,ah⟩
 rw[if_neg h2];simp-dsimp[go_sem,hN,Y.len,Y.loc];refine gy ?_ ?_<;>intro h3<;>simp at h3
 ·rw[if_pos h3];simp-dsimp[go_sem,hN];refine tk 12 mixed ac ?_;rcases hk:jg s.vars e.s with _|w
  ·simp-dsimp[go_sem,hN,Y.len,Y.loc,Y.loc1,Y.loc2,Y.sloc1,Y.sloc2,Y.lm',Y.lv',hk];refine⟨qji,?_⟩;refine it (xy false _) ?_;rintro r h' ⟨⟨hm,rfl⟩|⟨hm,rfl⟩,rfl⟩<;>simp at hm;simp-dsimp[go_sem,hN];exact⟨_,.refl _,K s.q,af,ag,au,Y.und' _,aj,ah⟩
  ·simp-dsimp[go_sem,hN,Y.len,Y.loc,Y.loc1,Y.loc2,Y.sloc1,Y.sloc2,Y.lm',Y.lv',hk];refine⟨qji,?_⟩;refine it (xy true _) ?_;rintro r h' ⟨⟨hm,rfl⟩|⟨hm,rfl⟩,rfl⟩<;>simp at hm;simp-dsimp[go_sem,hN,Y.len,Y.loc,Y.loc1,Y.loc2,Y.sloc1,Y.sloc2];exact⟨_,.refl _,K s.q,af,ag,au,Y.und' _,aj,ah⟩
 rw[if_neg h3];simp-dsimp[go_sem,hN,Y.len,Y.loc];have hn:=qzo e;refine pa (α:=List V×MS) e.args.length (fun n a=>a.1.length=n∧(∀v∈a.1,kp v)∧qpc a.2∧jp a.2.reads∧a.2.reads.length+qok (e.args.drop n)+1≤1000000000 ∧
   m6 C e.args s=match m6 C (e.args.drop n) a.2 with
    |(.error z,m')=>(.error z,m')
    |(.ok r,m')=>(.ok (a.1++r),m'))
  (fun n a=>⟨[(0,.ptr m 0),(3,.ptr n0 0),(4,.ptr (n0+1) 0),(7,.own (n0+2) a.1.length),(38,.slice (e.args.map Ex.c)),(39,I e.args.length),(40,I n)],K a.2.q++[.cells e.x,.cells [I 0,I 0,S em],.arr 71 3 (a.1.map V.c)]⟩)
  ([],s) ⟨rfl,ae,hM,ha,am,?_⟩ ((qm4 E _ 7 71 3 af).trans ?_) ?_
 ·simp;rcases m6 C e.args s with⟨z|r,m'⟩<;>rfl
 ·simp[Y.len];have:=Y.hm;exact(Wk.mk qgg af qft qf3)
 rintro n ⟨iu,s'⟩ hn' ⟨wu,zw,hM',ha',pf,hI⟩;dsimp only at wu zw hM' ha' pf hI;have hmn:=Y.hm;have hw:=iv hn' hb.2.1;simp-dsimp[go_sem,hN];refine gy ?_ ?_<;>intro hc<;>simp at hc
 ·rw[ji hc]at hI pf;rw[qz2]at pf;rw[m6]at hI;have ib:SizeOf.sizeOf e.args[n]<SizeOf.sizeOf e:=Ex.arg_lt (c9 hc);simp-dsimp[go_sem,hN,hc];refine it (qcg hF hC (Y.ext [_,_,_,_] ay) s' e.args[n] (hX'.2 _ (c9 hc)) hM' ha' aa) ?_;rintro r h' ⟨rfl,rfl⟩;have jm:=qpl hC e.args[n] s' (hX'.2 _ (c9 hc)) hM' ha';rcases hE:kx C e.args[n] s' with⟨z|w,s2⟩
  ·rw[hE]at hI;simp only at hI;simp-dsimp[go_sem,hN,og];rw[hI];exact⟨_,.refl _,K s2.q,af,ag,au,Y.und' _,aj,ah⟩
  ·rw[hE]at hI jm;simp only at hI jm;simp-dsimp[go_sem,hN,og,Y.len,Y.loc,Y.loc1,Y.loc2,Y.loc3,Y.sloc2,hw];refine⟨aa,hc,iu++[w],s2,⟨by simp[wu],?_,jm.1.rng hM',jm.1.asc,by have:=jm.1.len;omega,?_⟩,(Wk.mk qgg af qft qf3)⟩
   ·intro v hv;rcases dt.1 hv with hv|hv
    ·exact zw v hv
    ·simp at hv;subst hv;exact jm.2 _ rfl
   ·rw[hI];rcases m6 C (e.args.drop (n+1)) s2 with⟨z|r,m'⟩<;>simp
 ·rw[cv aa,m6]at hI;simp only[e8]at hI;rw[hI];have hln:iu.length=e.args.length:=aa;simp-dsimp[go_sem,hN,Y.len,Y.loc2];refine gy ?_ ?_<;>intro h4<;>simp at h4
  ·obtain⟨a,rfl⟩:∃a,iu=[a]:=by
    match iu,h4 with
    | [a],_=>exact⟨a,rfl⟩
    | [],h4=>simp at h4
    |_::_::_,h4=>simp at h4;omega
   simp-dsimp[go_sem,hN];refine kf 6 mixed ac ac ?_;simp-dsimp[go_sem,hN,Y.len,Y.loc,Y.loc1,Y.loc2,Y.sloc1]
   trace_state
   refine it (jm6 (Y.ext [_,_,_] ay) hF s' e.op a ha' aa (zw a ae)) ?_;rintro r h' ⟨rfl,rfl⟩;simp only[ul];rcases rr C e.op a s' with⟨z|w,s2⟩<;>simp-dsimp[go_sem,hN,og,Y.len,Y.loc,Y.loc1,Y.loc2,Y.sloc1]<;>exact⟨_,.refl _,K s2.q,af,ag,au,Y.und' _,aj,ah⟩
  simp-dsimp[go_sem,hN];refine gy ?_ ?_<;>intro h5<;>simp at h5
  ·obtain⟨a,b,rfl⟩:∃a b,iu=[a,b]:=by
    match iu,h5 with
    | [a,b],_=>exact⟨a,b,rfl⟩
    | [],h5=>simp at h5
    | [_],h5=>simp at h5
    |_::_::_::_,h5=>simp at h5;omega
   have x9:=(zw a ae).2;have hrb:=(zw b ae).2;simp-dsimp[go_sem,hN];refine kf 8 mixed ac ac ?_;simp-dsimp[go_sem,hN,Y.len,Y.loc,Y.loc1,Y.loc2,Y.sloc1]
   trace_state
   refine it (xxh e.op a b _ aa) ?_;rintro r h' ⟨rfl,rfl⟩;simp only[ul];cases s8 e.op a b<;>simp-dsimp[go_sem,hN,og,Y.len,Y.loc,Y.loc1,Y.loc2,Y.sloc1]<;>exact⟨_,.refl _,K s'.q,af,ag,au,Y.und' _,aj,ah⟩
  simp-dsimp[go_sem,hN];refine it (qbf 1009 _) ?_;rintro r h' ⟨rfl,rfl⟩;simp-dsimp[go_sem,hN];have ho:ul C e.op iu s'=(.error (ab 1009),s'):=by
   match iu,h4,h5 with
   | [],_,_=>rfl
   | [_],h4,_=>simp at h4
   | [_,_],_,h5=>simp at h5
   |_::_::_::_,_,_=>rfl
  rw[ho];exact⟨_,.refl _,K s'.q,af,ag,au,Y.und' _,aj,ah⟩
termination_by SizeOf.sizeOf e
end
section
attribute [local go_sem] mC
variable {C:Cfg} {tT:TypeId} {tx:Nat×Nat} {g m v o io ir ip:Nat}
def jmd(C:Cfg)(tT:TypeId)(tx:Nat×Nat)(g m v o io ir ip:Nat)(l:List St):Prop :=
 ∀{K:MQ→gz} {n0:Nat} (_:MHs C tT tx g m v o io ir ip K n0) (s:MS),Inv 0 0 s→ACalls prog 93 [.ptr m 0,.slice (l.map St.c)] (K s.q) fun r h'=>r=nt (kn C l s).1∧h'=K (kn C l s).2.q
theorem jcw(hF:C.fmt=jh)(hC:ur C){K:MQ→gz}{n0:Nat}(Y:MHs C tT tx g m v o io ir ip K n0)(t:St)(jy:t.op=6)(hG:Cw.t8 t)(s:MS)(hI:Inv 8192 1 s)(sn:jmd C tT tx g m v o io ir ip t.body) :
  ACalls prog 171 [.ptr m 0,.agg t.x] (K s.q) fun r h'=>r=nt (oj C t s).1∧h'=K (oj C t s).2.q:=by
 refine lw func171 ntmps171 rfl ac rfl fun E hN hh hu hb il kr=>?_;obtain⟨op,name,mx,a,b,body,els⟩:=t;have hG':=(qsn _).1 hG;simp only[St.op,St.a,St.b,St.body,St.els]at hG' jy;obtain⟨hA,hB,s6,qns⟩:=hG';subst jy;have x9:=(hA aa)
 have hrb:=(hB aa)
 have hmn:=Y.hm;rw[oj];simp only[show ¬((6:Int)=1∨(6:Int)=2)by omega,show ¬(6:Int)=3 by omega,show ¬(6:Int)=4 by omega,show ¬(6:Int)=5 by omega,if_false,if_true];have mj:=hI.st;have wo:=hI.rd;simp-dsimp[go_sem,hN,Y.len,Y.loc];refine it (qcg hF hC (Y.ext [_] ay) s a x9.1 hI.rng hI.ar (by have:=x9.2;omega)) ?_;rintro r h' ⟨rfl,rfl⟩;have h1:=hI.eval hC (r:=4097) x9;rcases hE:kx C a s with⟨z|u,s1⟩
 ·simp-dsimp[go_sem,hN,og,nt];exact⟨_,.refl _,K s1.q,af,ag,au,Y.und' _,aj,ah⟩
 rw[hE]at h1;simp only at h1;dsimp only;have hrd1:=h1.1.rd;have hst1:=h1.1.st;simp-dsimp[go_sem,hN,og,Y.len,Y.loc,Y.loc1];refine it (qcg hF hC (Y.ext [_,_] ay) s1 b hrb.1 h1.1.rng h1.1.ar (by have:=hrb.2;omega)) ?_;rintro r h' ⟨rfl,rfl⟩;have h2:=h1.1.eval hC (r:=2) hrb;rcases lu:kx C b s1 with⟨z|w,s2⟩
 ·simp-dsimp[go_sem,hN,og,nt];exact⟨_,.refl _,K s2.q,af,ag,au,Y.und' _,aj,ah⟩
 rw[lu]at h2;simp only at h2;dsimp only;simp-dsimp[go_sem,hN,og,Y.len,Y.loc,Y.loc1,Y.loc2];refine it (xy (decide (u.k=1)&&decide (w.k=1)) _) ?_;rintro r h' ⟨⟨hm,rfl⟩|⟨hm,rfl⟩,rfl⟩<;>simp at hm
 rotate_left
 ·simp-dsimp[go_sem,hN,nt];simp only[show ¬(u.k=1∧w.k=1)from fun k=>hm k.1 k.2,if_false];exact⟨_,.refl _,K s2.q,af,ag,au,Y.und' _,aj,ah⟩
 simp only[hm.1,hm.2,and_self,if_true];simp-dsimp[go_sem,hN,Y.len,Y.loc,Y.loc1,Y.loc2]
 repeat refine⟨ax,?_⟩
 refine gy ?_ ?_<;>intro h0<;>simp at h0
 ·have qc:qtd u.n w.n mx:=h0;simp-dsimp[go_sem,hN];refine it (qbf 1005 _) ?_;rintro r h' ⟨rfl,rfl⟩;simp-dsimp[go_sem,hN,nt,qc];exact⟨_,.refl _,K s2.q,af,ag,au,Y.und' _,aj,ah⟩
 have qc:¬qtd u.n w.n mx:=fun k=>by have h3:=h0 k.1;have:=k.2;simp only[St.max]at h3;omega
 simp only[qc,if_false];simp-dsimp[go_sem,hN,Y.len,Y.loc,Y.loc1,Y.loc2];obtain⟨L0,hL0⟩:∃L0,L0=o8 (fun y=>kn C body y) name w.n 16386 u.n s2:=⟨_,rfl⟩
 rw[←hL0];refine xb3 (α:=Nat×Int×MS) (fun x=>Cw.Inv 0 0 x.2.2∧i64 x.2.1∧(16386:Int)≤x.2.2.steps+x.1∧L0=o8 (fun y=>kn C body y) name w.n x.1 x.2.1 x.2.2)
  (fun x=>⟨[(0,.ptr m 0),(3,.ptr n0 0),(5,.ptr (n0+2) 0),(6,I x.2.1)],K x.2.2.q++[.cells (St.mk 6 name mx a b body els).x,.cells [I 1,I u.n,S u.s],.cells [I 1,I w.n,S w.s]]⟩)
  (fun x=>x.1) (16386,u.n,s2) ⟨h2.1.mono aa aa,(h1.2 _ rfl).1,by have:=h2.1.pt;simp only;omega,hL0⟩ (Wk.mk qgg af qft qf3) ?_
 rintro⟨f,i,s3⟩ ⟨hI3,hi,hf,hL⟩;dsimp only at hI3 hi hf hL;have hst3:=hI3.st;obtain⟨f,rfl⟩:∃f',f=f'+1:=⟨f - 1,aa⟩
 rw[o8]at hL;simp-dsimp[go_sem,hN,Y.len,Y.loc,Y.loc1,Y.loc2];refine gy ?_ ?_<;>intro hc<;>simp at hc
 rotate_left
 ·rw[if_neg aa]at hL;rw[hL];simp-dsimp[go_sem,hN,nt];exact⟨_,.refl _,K s3.q,af,ag,au,Y.und' _,aj,ah⟩
 rw[if_pos hc]at hL;simp-dsimp[go_sem,hN];refine it (xnc (Y.ext [_,_,_] ay) s3 aa) ?_;rintro r h' ⟨rfl,rfl⟩;rcases hT:qq s3 with⟨z|⟨⟩,s4⟩
 ·rw[hT]at hL;simp only at hL;rw[hL];simp-dsimp[go_sem,hN,nt];exact⟨_,.refl _,K s4.q,af,ag,au,Y.und' _,aj,ah⟩
 rw[hT]at hL;simp only at hL;have hI4:=(hI3.tick hT).vars (qqb hi) name;simp-dsimp[go_sem,hN,nt];refine kf 8 mixed ac ac ?_;simp-dsimp[go_sem,hN,Y.len,Y.loc,Y.loc1,Y.loc2,Y.lm',Y.lv',Y.sv',jhe];refine it (sn (Y.ext [_,_,_] ay) { s4 with vars:=js s4.vars name (vI i) } (hI4.mono aa aa)) ?_;rintro r h' ⟨rfl,rfl⟩;rcases hB5:kn C body { s4 with vars:=js s4.vars name (vI i) }with⟨z|⟨⟩,s5⟩
 ·rw[hB5]at hL;simp only at hL;rw[hL];simp-dsimp[go_sem,hN,nt,hB5,St.body];exact⟨_,.refl _,K s5.q,af,ag,au,Y.und' _,aj,ah⟩
 rw[hB5]at hL;simp only at hL;simp-dsimp[go_sem,hN,nt,hB5,St.body];have jw:=xcy (C:=C) body { s4 with vars:=js s4.vars name (vI i) };have li:=xis s3;rw[hB5]at jw;rw[hT]at li;simp only at jw li;exact⟨f,jt (i+1),s5,⟨qv2 hC body _ _ _ s6 (hI4.mono aa aa) hB5,qth _,aa,hL⟩,aa,(Wk.mk qgg af qft qf3)⟩
end
end Go.Proofs.YtbimdamecieomaaGreatDoor
set_option maxHeartbeats 1000000
namespace Go.Proofs.YtbimdamecieomaaGreatDoor
open Go Go.Abs Go.Cw Tryz
section
attribute [local go_sem] mC
variable {C:Cfg} {tT:TypeId} {tx:Nat×Nat} {g m v o io ir ip:Nat}
mutual
theorem qfe(hF:C.fmt=jh)(hC:ur C)(l:List St)(hG:∀x∈l,Cw.t8 x){K:MQ→gz}{n0:Nat}(Y:MHs C tT tx g m v o io ir ip K n0)(s:MS)(hI:Cw.Inv 0 0 s) :
  ACalls prog 93 [.ptr m 0,.slice (l.map St.c)] (K s.q) fun r h'=>r=nt (kn C l s).1∧h'=K (kn C l s).2.q:=by
 refine lw func93 ntmps93 rfl ac rfl fun E hN hh hu hb il kr=>?_;simp[go_sem]at hb;have hmn:=Y.hm;obtain⟨L0,hL0⟩:∃L0,L0=kn C l s:=⟨_,rfl⟩
 rw[←hL0];simp-dsimp[go_sem,hN];refine pa (α:=MS) l.length (fun n s'=>Cw.Inv 0 0 s'∧L0=kn C (l.drop n) s') (fun n s'=>⟨[(0,.ptr m 0),(6,.slice (l.map St.c)),(7,I l.length),(8,I n)],K s'.q⟩) s ⟨hI,by simpa using hL0⟩ (Wk.mk qgg af qft qf3) ?_;rintro n s1 hn ⟨uq,hL⟩;have hw:=iv hn hb.1;have hst1:=uq.st;simp-dsimp[go_sem,hN];refine gy ?_ ?_<;>intro hc<;>simp at hc
 rotate_left
 ·rw[cv aa,kn]at hL;rw[hL];simp-dsimp[go_sem,hN,nt];exact⟨_,.refl _,K s1.q,af,ag,au,Y.und' _,aj,ah⟩
 rw[ji hc,kn]at hL;have ib:SizeOf.sizeOf l[n]<SizeOf.sizeOf l:=fj (c9 hc);simp-dsimp[go_sem,hN,hc,Y.len,St.c_eq];refine it (xnc (Y.ext [_] ay) s1 aa) ?_;rintro r h' ⟨rfl,rfl⟩;rcases hT:qq s1 with⟨z|⟨⟩,s2⟩
 ·rw[hT]at hL;simp only at hL;rw[hL];simp-dsimp[go_sem,hN,nt];exact⟨_,.refl _,K s2.q,af,ag,au,Y.und' _,aj,ah⟩
 rw[hT]at hL;simp only at hL;have mt:=uq.tick hT;simp-dsimp[go_sem,hN,nt,Y.len,Y.loc];refine it (jjn hF hC l[n] (hG _ (c9 hc)) (Y.ext [_] ay) s2 mt) ?_;rintro r h' ⟨rfl,rfl⟩;rcases hS:oj C l[n] s2 with⟨z|⟨⟩,s3⟩
 ·rw[hS]at hL;simp only at hL;rw[hL];simp-dsimp[go_sem,hN,nt];exact⟨_,.refl _,K s3.q,af,ag,au,Y.und' _,aj,ah⟩
 rw[hS]at hL;simp only at hL;simp-dsimp[go_sem,hN,nt,hw];exact⟨hc,s3,⟨xdl hC _ _ _ _ (hG _ (c9 hc)) mt hS,hL⟩,(Wk.mk qgg af qft qf3)⟩
termination_by (SizeOf.sizeOf l,0)
theorem jjn(hF:C.fmt=jh)(hC:ur C)(t:St)(hG:Cw.t8 t){K:MQ→gz}{n0:Nat}(Y:MHs C tT tx g m v o io ir ip K n0)(s:MS)(hI:Cw.Inv 8192 1 s) :
  ACalls prog 139 [.ptr m 0,.agg t.x] (K s.q) fun r h'=>r=nt (oj C t s).1∧h'=K (oj C t s).2.q:=by
 refine lw func139 ntmps139 rfl ac rfl fun E hN hh hu hb il kr=>?_;simp[go_sem]at hb;have hG':=(qsn _).1 hG;have hmn:=Y.hm;obtain⟨hA,hB,s6,qns⟩:=hG';have mj:=hI.st;have wo:=hI.rd;have hpt:=hI.pt;have hlB:SizeOf.sizeOf t.body<SizeOf.sizeOf t:=by cases t;simp[St.body];omega
 have hlE:SizeOf.sizeOf t.els<SizeOf.sizeOf t:=by cases t;simp[St.els];omega
 rw[qu4];simp-dsimp[go_sem,hN,Y.len,Y.loc];by_cases h12:t.op=1∨t.op=2
 ·rw[if_pos h12];have ha:=hA aa;have h1:=hI.eval hC (r:=4097) ha;have hc:=qcg hF hC (Y.ext [.cells t.x] ay) s t.a ha.1 hI.rng hI.ar qgu;obtain⟨x0,hx0⟩:∃x0,x0=kx C t.a s:=⟨_,rfl⟩
  rw[←hx0]at hc⊢;refine gy ?_ ?_<;>intro h<;>simp at h
  all_goals
   rcases x0 with⟨z|u,s1⟩
   ·try simp-dsimp[go_sem,hN]
    refine gy (fun _=>?_) (fun k=>by simp at k;omega)
    try simp-dsimp[go_sem,hN]
    refine xae 10 9 [0,1,2,3,4,5] mixed ac ?_;simp-dsimp[go_sem,hN,Y.len,Y.loc,Y.lm',Y.lv'];refine jgl (h2:=K s1.q++[.cells t.x]) (hc.mono qkq) ?_;simp-dsimp[go_sem,hN,nt];exact⟨_,.refl _,K s1.q,af,ag,au,Y.und' _,aj,ah⟩
   ·try simp-dsimp[go_sem,hN]
    refine gy (fun _=>?_) (fun k=>by simp at k;omega)
    try simp-dsimp[go_sem,hN]
    refine xae 10 9 [0,1,2,3,4,5] mixed ac ?_;simp-dsimp[go_sem,hN,Y.len,Y.loc,Y.lm',Y.lv'];refine xaw (h2:=K s1.q++[.cells t.x]) (r:=.agg u.c) (hc.mono qkq) ?_;simp-dsimp[go_sem,hN,nt,Y.len,Y.loc,Y.lm',Y.lv',Y.sv'];exact⟨_,.refl _,K (MS.q { s1 with vars:=js s1.vars t.name u }),af,ag,au,Y.und' _,aj,ah⟩
 rw[if_neg h12];have h12':¬t.op=1∧¬t.op=2:=aa;refine gy (fun k=>by simp[h12']at k) (fun _=>?_)
 try simp-dsimp[go_sem,hN,h12'.1,h12'.2]
 refine gy ?_ ?_<;>intro h3<;>simp at h3
 ·simp only[h3,if_true];have ha:=hA aa;have li:=hB aa;have h1:=hI.eval hC (r:=4097) ha;simp-dsimp[go_sem,hN,Y.len,Y.loc];refine it (qcg hF hC (Y.ext [_] ay) s t.a ha.1 hI.rng hI.ar qgu) ?_;rintro r h' ⟨rfl,rfl⟩;rcases hE:kx C t.a s with⟨z|u,s1⟩
  ·simp-dsimp[go_sem,hN,og,nt];exact⟨_,.refl _,K s1.q,af,ag,au,Y.und' _,aj,ah⟩
  rw[hE]at h1;simp only at h1;dsimp only;have hrd1:=h1.1.rd;have hst1:=h1.1.st;simp-dsimp[go_sem,hN,og,Y.len,Y.loc,Y.loc1];refine it (qcg hF hC (Y.ext [_,_] ay) s1 t.b li.1 h1.1.rng h1.1.ar (by have:=li.2;omega)) ?_;rintro r h' ⟨rfl,rfl⟩;have h2:=h1.1.eval hC (r:=2) li;rcases lu:kx C t.b s1 with⟨z|w,s2⟩
  ·simp-dsimp[go_sem,hN,og,nt];exact⟨_,.refl _,K s2.q,af,ag,au,Y.und' _,aj,ah⟩
  rw[lu]at h2;simp only at h2;dsimp only;simp-dsimp[go_sem,hN,og,Y.len,Y.loc,Y.loc1,Y.loc2]
  repeat refine⟨ax,?_⟩
  have hpt2:=h2.1.pt;have hst2:=h2.1.st;refine it (xy (decide (u.k=2)&&(decide (w.k=1)||decide (w.k=2))) _) ?_;rintro r h' ⟨⟨hm,rfl⟩|⟨hm,rfl⟩,rfl⟩<;>simp at hm
  rotate_left
  ·simp-dsimp[go_sem,hN,nt];rw[if_neg (by rintro⟨k1,k2⟩;have:=hm k1;omega)];exact⟨_,.refl _,K s2.q,af,ag,au,Y.und' _,aj,ah⟩
  rw[if_pos hm];simp-dsimp[go_sem,hN,Y.len,Y.loc,Y.loc1,Y.loc2];refine it (xtf (Y.ext [_,_,_] ay) s2 u.s w h2.1.ap aa) ?_;rintro r h' ⟨rfl,rfl⟩;rcases qz C u.s w s2 with⟨z|⟨⟩,s3⟩<;>simp-dsimp[go_sem,hN,nt]<;>exact⟨_,.refl _,K s3.q,af,ag,au,Y.und' _,aj,ah⟩
 simp only[h3,if_false];simp-dsimp[go_sem,hN,Y.len,Y.loc];refine gy ?_ ?_<;>intro h4<;>simp at h4
 ·simp only[h4,if_true];have ha:=hA aa;have h1:=hI.eval hC (r:=4097) ha;simp-dsimp[go_sem,hN,Y.len,Y.loc];refine it (qcg hF hC (Y.ext [_] ay) s t.a ha.1 hI.rng hI.ar qgu) ?_;rintro r h' ⟨rfl,rfl⟩;rcases hE:kx C t.a s with⟨z|u,s1⟩
  ·simp-dsimp[go_sem,hN,og,nt];exact⟨_,.refl _,K s1.q,af,ag,au,Y.und' _,aj,ah⟩
  rw[hE]at h1;simp only at h1;dsimp only;have hpt1:=h1.1.pt;have hst1:=h1.1.st;simp-dsimp[go_sem,hN,og,Y.len,Y.loc,Y.loc1];refine it (xy (decide (u.k=2)) _) ?_;rintro r h' ⟨⟨hm,rfl⟩|⟨hm,rfl⟩,rfl⟩<;>simp at hm
  rotate_left
  ·simp-dsimp[go_sem,hN,nt,hm];exact⟨_,.refl _,K s1.q,af,ag,au,Y.und' _,aj,ah⟩
  simp only[hm,if_true];simp-dsimp[go_sem,hN,Y.len,Y.loc,Y.loc1];refine it (xtf (Y.ext [_,_] ay) s1 u.s V.nil h1.1.ap aa) ?_;rintro r h' ⟨rfl,rfl⟩;rcases qz C u.s V.nil s1 with⟨z|⟨⟩,s2⟩<;>simp-dsimp[go_sem,hN,nt]<;>exact⟨_,.refl _,K s2.q,af,ag,au,Y.und' _,aj,ah⟩
 simp only[h4,if_false];simp-dsimp[go_sem,hN,Y.len,Y.loc];refine gy ?_ ?_<;>intro h5<;>simp at h5
 ·simp only[h5,if_true];have ha:=hA aa;have h1:=hI.eval hC (r:=4097) ha;simp-dsimp[go_sem,hN,Y.len,Y.loc];refine it (qcg hF hC (Y.ext [_] ay) s t.a ha.1 hI.rng hI.ar qgu) ?_;rintro r h' ⟨rfl,rfl⟩;rcases hE:kx C t.a s with⟨z|u,s1⟩
  ·simp-dsimp[go_sem,hN,og,nt];exact⟨_,.refl _,K s1.q,af,ag,au,Y.und' _,aj,ah⟩
  rw[hE]at h1;simp only at h1;dsimp only;simp-dsimp[go_sem,hN,og,Y.len,Y.loc,Y.loc1];refine it (xy (decide (u.k=3)) _) ?_;rintro r h' ⟨⟨hm,rfl⟩|⟨hm,rfl⟩,rfl⟩<;>simp at hm
  rotate_left
  ·simp-dsimp[go_sem,hN,nt,hm];exact⟨_,.refl _,K s1.q,af,ag,au,Y.und' _,aj,ah⟩
  simp only[hm,if_true];simp-dsimp[go_sem,hN,Y.len,Y.loc,Y.loc1];refine gy ?_ ?_<;>intro hx<;>simp at hx
  ·simp only[hx,if_true];simp-dsimp[go_sem,hN,Y.len,Y.loc,Y.loc1];refine it (qfe hF hC t.body s6 (Y.ext [_,_] ay) s1 (h1.1.mono aa aa)) ?_;rintro r h' ⟨rfl,rfl⟩;rcases kn C t.body s1 with⟨z|⟨⟩,s2⟩<;>simp-dsimp[go_sem,hN,nt]<;>exact⟨_,.refl _,K s2.q,af,ag,au,Y.und' _,aj,ah⟩
  ·simp only[hx,if_false];simp-dsimp[go_sem,hN,Y.len,Y.loc,Y.loc1];refine it (qfe hF hC t.els qns (Y.ext [_,_] ay) s1 (h1.1.mono aa aa)) ?_;rintro r h' ⟨rfl,rfl⟩;rcases kn C t.els s1 with⟨z|⟨⟩,s2⟩<;>simp-dsimp[go_sem,hN,nt]<;>exact⟨_,.refl _,K s2.q,af,ag,au,Y.und' _,aj,ah⟩
 simp only[h5,if_false];simp-dsimp[go_sem,hN,Y.len,Y.loc];refine gy ?_ ?_<;>intro h6<;>simp at h6
 ·rw[if_pos h6];simp-dsimp[go_sem,hN,Y.len,Y.loc];refine it (jcw hF hC (Y.ext [_] ay) t h6 hG s hI (fun Y' s' hI'=>qfe hF hC t.body s6 Y' s' hI')) ?_;rintro r h' ⟨rfl,rfl⟩;rcases oj C t s with⟨z|⟨⟩,s2⟩<;>simp-dsimp[go_sem,hN,nt]<;>exact⟨_,.refl _,K s2.q,af,ag,au,Y.und' _,aj,ah⟩
 simp only[h6,if_false];simp-dsimp[go_sem,hN,Y.len,Y.loc];refine gy ?_ ?_<;>intro h7<;>simp at h7
 ·simp only[h7,if_true];have ha:=hA aa;have h1:=hI.eval hC (r:=4097) ha;simp-dsimp[go_sem,hN,Y.len,Y.loc];refine it (qcg hF hC (Y.ext [_] ay) s t.a ha.1 hI.rng hI.ar qgu) ?_;rintro r h' ⟨rfl,rfl⟩;rcases hE:kx C t.a s with⟨z|u,s1⟩
  ·simp-dsimp[go_sem,hN,og,nt];exact⟨_,.refl _,K s1.q,af,ag,au,Y.und' _,aj,ah⟩
  rw[hE]at h1;simp only at h1;dsimp only;have hot:=h1.1.ot;simp-dsimp[go_sem,hN,og,Y.len,Y.loc,Y.loc1]
  repeat refine⟨ax,?_⟩
  refine it (xy (decide (u.k=1)||decide (u.k=2)) _) ?_;rintro r h' ⟨⟨hm,rfl⟩|⟨hm,rfl⟩,rfl⟩<;>simp at hm
  rotate_left
  ·simp-dsimp[go_sem,hN,nt,hm];exact⟨_,.refl _,K s1.q,af,ag,au,Y.und' _,aj,ah⟩
  simp only[hm,if_true];simp-dsimp[go_sem,hN,Y.len,Y.loc,Y.loc1];refine it (jci (Y.ext [_,_] ay) s1 u aa) ?_;rintro r h' ⟨rfl,rfl⟩;rcases uj u s1 with⟨z|⟨⟩,s2⟩<;>simp-dsimp[go_sem,hN,nt]<;>exact⟨_,.refl _,K s2.q,af,ag,au,Y.und' _,aj,ah⟩
 simp only[h7,if_false];simp-dsimp[go_sem,hN,Y.len,Y.loc];refine gy ?_ ?_<;>intro h8<;>simp at h8
 ·simp only[h8,if_true];simp-dsimp[go_sem,hN,Y.len,Y.loc];refine it (qbf t.max _) ?_;rintro r h' ⟨rfl,rfl⟩;simp-dsimp[go_sem,hN,nt];exact⟨_,.refl _,K s.q,af,ag,au,Y.und' _,aj,ah⟩
 ·simp only[h8,if_false];simp-dsimp[go_sem,hN,nt];exact⟨_,.refl _,K s.q,af,ag,au,Y.und' _,aj,ah⟩
termination_by (SizeOf.sizeOf t,0)
end
end
theorem xzw(h:gz):ACalls prog 88 [] h fun r h'=>r=.ret (.agg u4.c)∧h'=h:=by
 refine lw func88 ntmps88 rfl ac rfl fun E hN hh hu hb il kr=>?_;simp-dsimp[go_sem,hN];exact⟨_,.refl _,h,af,af,ae,aq,rfl,rfl⟩
theorem jd7(st:List Pr)(ft:Foot)(h:gz):ACalls prog 89 [.slice (st.map Pr.c),.agg ft.c] h fun r h'=>r=.ret (.ptr (h.length+3) 0) ∧
  h'=h++[.cells ft.c,.map [],.map [],.cells [.slice (st.map Pr.c),Bo ft.all,.slice (ft.reads.map im),.slice (ft.writes.map im),.mapr (h.length+1),.mapr (h.length+2),I 0,I 0,.nils,.nils,.nils,.nils,S em,I 0]]:=by
 refine lw func89 ntmps89 rfl ac rfl fun E hN hh hu hb il kr=>?_;simp-dsimp[go_sem,hN];refine⟨by simp[qqq,tr],_,.refl _,_,?_,hwk.refl _,ae,?_,rfl,by rfl⟩
 ·simp[go_sem]
 ·simp[hu,vf hu,tn,go_sem]
end Go.Proofs.YtbimdamecieomaaGreatDoor
