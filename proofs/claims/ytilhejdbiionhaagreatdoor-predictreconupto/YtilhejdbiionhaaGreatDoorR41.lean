/- Part 41 of a proof: W139, W140, W132, W133, W61a, W141 -/
import Derived.Test.YtilhejdbiionhaaGreatDoorProg
import Derived.Shelf.Slices.In.SortNone
import Derived.Shelf.Sort.Plain
import Derived.Test.YtilhejdbiionhaaGreatDoorR20
import Derived.Test.YtilhejdbiionhaaGreatDoorR24
import Derived.Test.YtilhejdbiionhaaGreatDoorR28
import Derived.Test.YtilhejdbiionhaaGreatDoorR31
import Derived.Test.YtilhejdbiionhaaGreatDoorR38
import Derived.Test.YtilhejdbiionhaaGreatDoorR39
import Derived.Test.YtilhejdbiionhaaGreatDoorR40
set_option linter.all false

set_option maxRecDepth 4000
set_option maxHeartbeats 4000000
namespace Go.Proofs.YtilhejdbiionhaaGreatDoor
open Go Go.Abs Go.Cw
attribute [local go_sem] AX.c
variable {tT:TypeId} {tx:Nat×Nat} {g p ir iw:Nat}
theorem c_pr_stmt(t:St){d:Nat}(hO:okS t d)(hR:rngS t)(hB:BlSpec tT tx g p ir iw t.body)(hE:BlSpec tT tx g p ir iw t.els):StSpec tT tx g p ir iw t:=by
 intro K n0 Y x i f lv hV hi hF;refine qaz Tryz.func66 Tryz.ntmps66 rfl (by kernel_rfl) rfl fun E hN hh hu hb hb' hua=>?_;have hp:=Y.hp;obtain⟨hXa,hXb,hRb,hRe⟩:=(qec t).1 hR;have oA:=fun k=>okS_a hO k;have oB:=fun k=>okS_b hO k;have hop:=okS_op hO;have hmx:=fun k=>okS_max hO k;obtain⟨R0,hR0⟩:∃R0,Cw.exSt qbc t f x=R0:=⟨_,rfl⟩
 rw[hR0];rw[Cw.exSt_eq]at hR0;simp-dsimp[go_sem,hN,Y.len,Y.loc,Y.loc0];have hub:hUnder (n0 + [AObj.cells t.x].length) [.cells t.x]=true:=by simp[hUnder,AObj.under,AV.under,qao]
 have hub2:∀a:AX,hUnder (n0 + [AObj.cells t.x,.cells a.c].length) [.cells t.x,.cells a.c]=true:=fun a=>by simp[hUnder,AObj.under,AV.under,qao,AX.c]
 have hub3:∀a b:AX,hUnder (n0 + [AObj.cells t.x,.cells a.c,.cells b.c].length) [.cells t.x,.cells a.c,.cells b.c]=true:=fun a b=>by simp[hUnder,AObj.under,AV.under,qao,AX.c]
 refine cnd ?_ ?_<;>intro h8<;>simp at h8
 ·rw[if_pos h8]at hR0;simp-dsimp[go_sem,hN,Y.len];exact qbu Y (by simp[Y.len]) hub (by simp) (.inl rfl) (.inl rfl) hR0.symm
 rw[if_neg h8]at hR0;simp-dsimp[go_sem,hN,Y.len,Y.loc,Y.loc0];have hcE:=c_pr_eval t.a (Y.ext _ hub) x (hV.ext Y.len hi _) (by simp;omega) hXa hF (oA h8);have hrA:=exE_rng (fmt:=qbc) qcp t.a f x hXa hF;obtain⟨⟨⟨va,ok⟩,x1⟩,hxa⟩:∃R,exE qbc t.a f x=R:=⟨_,rfl⟩
 rw[hxa]at hcE hR0 hrA;refine qaj hcE ?_;rintro r h' ⟨rfl,rfl⟩;cases ok with
 |false =>
  simp-dsimp[go_sem,hN,Y.len,Y.loc,Y.loc0,Y.sloc,Y.sloc0];exact qbu Y (by simp[Y.len]) (hub2 va) (by simp[AX.c]) (.inl rfl) (.inl rfl) hR0.symm
 |true =>
 dsimp only at hR0 hrA;simp-dsimp[go_sem,hN,Y.len,Y.loc,Y.loc0,Y.sloc,Y.sloc0];have hua:=hub2 va;obtain⟨T0,hT0⟩:∃T0:qab,T0=[.cells t.x,.cells va.c]:=⟨_,rfl⟩
 have hT0l:T0.length=2:=by rw[hT0];rfl
 rw[←hT0]at hua;have Y1:=Y.ext T0 hua;have hV1:=hV.ext Y.len hi T0;obtain⟨K1,hK1⟩:∃K1:XS→qab,K1=fun q=>K q++T0:=⟨_,rfl⟩
 have hK1q:∀q,K q++[.cells t.x,.cells [Bo va.known,I va.v.k,I va.v.n,S va.v.s]]=K1 q:=fun q=>by rw[hK1,hT0];rfl
 rw[←hK1,hT0l]at Y1;rw[←hK1]at hV1;have hbx:∀q (l:qab),(K1 q++l)[n0]?=some (.cells t.x):=fun q l=>by rw[hK1,hT0];simp[Y.loc0]
 have hbx4:∀q,(K1 q)[n0]?=some (.cells t.x):=fun q=>by simpa using hbx q []
 have hbx0:∀q (h:n0<(K1 q).length),(K1 q)[n0]=.cells t.x:=fun q h=>by
  have:=hbx q [];rw[List.append_nil,List.getElem?_eq_getElem h]at this;exact Option.some.inj this
 have hca:∀q (l:qab),(K1 q++l)[n0+1]?=some (.cells va.c):=fun q l=>by rw[hK1,hT0];simp[Y.loc]
 have hca4:∀q,(K1 q)[n0+1]?=some (.cells va.c):=fun q=>by simpa using hca q []
 have hca0:∀q (h:n0+1<(K1 q).length),(K1 q)[n0+1]=.cells va.c:=fun q h=>by
  have:=hca q [];rw[List.append_nil,List.getElem?_eq_getElem h]at this;exact Option.some.inj this
 simp only[hK1q];by_cases h12:t.op=1∨t.op=2
 ·rw[if_pos h12]at hR0;refine cnd ?_ ?_<;>intro h<;>simp at h
  all_goals
   try simp-dsimp[go_sem,hN,Y1.len,hbx,hbx0,hbx4,hca,hca0,hca4]
   refine cnd (fun _=>?_) (fun k=>by simp at k;omega)
   try simp-dsimp[go_sem,hN,Y1.len,hbx,hbx0,hbx4,hca,hca0,hca4]
   refine qaj (c_pr_clone lv hV1.nod (K1 x1) i (hV1.lm x1)) ?_;rintro r h' ⟨l',hperm,rfl,rfl⟩;simp-dsimp[go_sem,hN,Y1.len,Y1.loc0,Y1.sloc0,hbx,hbx0,hbx4,hca,hca0,hca4];obtain⟨MO,hMO⟩:∃MO,AObj.map (kAV qc7 (qbr l' t.name va))=MO:=⟨_,rfl⟩
   have hMu:∀n,MO.under n=true:=fun n=>by rw[←hMO];exact qds n _
   have hMO2:AObj.map (kAV qc7 (qbr l' t.name ⟨va.known,⟨va.v.k,va.v.n,va.v.s⟩⟩))=MO:=hMO;simp only[hMO2];have hu3:hUnder (n0+T0.length + [MO].length) [MO]=true:=by simp[hUnder,hMu]
   refine qcw Y (by simp[Y.len]) (qb6 hua hu3) (by simp[hK1]) (f:=updF f t.name va) (l:=qbr l' t.name va) (VM.upd hperm hV1.nod hV1.get fun q=>?_) (by simp[hT0l]) (.inr (by omega)) hR0.symm;show(K q++(T0++[MO]))[_]?=_;rw[hMO,←List.append_assoc,List.getElem?_append_right (by simp[Y.len,hT0l])];simp[Y.len,hT0l]
 rw[if_neg h12]at hR0;have h12':¬t.op=1∧¬t.op=2:=by omega
 refine cnd (fun k=>by simp[h12']at k) (fun _=>?_)
 try simp-dsimp[go_sem,hN,h12'.1,h12'.2]
 have hvars:VM (fun q=>K q++T0) i f lv:=hV.ext Y.len hi T0;refine cnd ?_ ?_<;>intro h7<;>simp at h7
 ·rw[if_pos h7]at hR0;simp-dsimp[go_sem,hN,Y1.len];exact qcw Y (by simp[Y.len]) hua (by simp[hK1]) hvars (by omega) (.inl rfl) hR0.symm
 rw[if_neg h7]at hR0;simp-dsimp[go_sem,hN,Y1.len,hbx,hbx0,hbx4];refine cnd ?_ ?_<;>intro h4<;>simp at h4
 ·rw[if_pos h4]at hR0;have hkey:ACalls Tryz.prog 106 [.ptr p 0,.agg [Bo va.known,I va.v.k,I va.v.n,S va.v.s],.mapr iw] (K1 x1) fun r h'=>r=.ret (Bo (keyX true va x1).1)∧h'=K1 (keyX true va x1).2:=by simpa using c_pr_key Y1 true va x1
  obtain⟨⟨b,x2⟩,hkx⟩:∃R,keyX true va x1=R:=⟨_,rfl⟩
  rw[hkx]at hkey hR0;simp-dsimp[go_sem,hN,Y1.len,hca,hca0,hca4];refine qek 8 7 [0] mixed (by kernel_rfl) ?_;simp-dsimp[go_sem,hN,Y1.lp,Y1.len,hca,hca0,hca4];refine qd2 hkey ?_;cases b with
  |true =>
   simp-dsimp[go_sem,hN,Y1.len,hca,hca0,hca4];exact qcw Y (by simp[Y.len]) hua (by simp[hK1]) hvars (by omega) (.inl rfl) hR0.symm
  |false =>
   simp-dsimp[go_sem,hN,Y1.len,hca,hca0,hca4];exact qbu Y (by simp[Y.len]) hua (by simp[hK1]) (.inr ⟨i,rfl,by omega⟩) (.inr rfl) hR0.symm
 rw[if_neg h4]at hR0;simp-dsimp[go_sem,hN,Y1.len,hbx,hbx0,hbx4];refine cnd ?_ ?_<;>intro h5<;>simp at h5
 ·rw[if_pos h5]at hR0;have hcall:=c_pr_branch t hB hE hRb hRe Y1 x1 hV1 (by omega) hF va;rw[show brR t va f x1=R0 from hR0]at hcall;simp-dsimp[go_sem,hN,Y1.len,hbx,hbx0,hbx4,hca,hca0,hca4];refine qaj hcall ?_;intro r h' hres;obtain⟨L,rfl,hu,h3⟩:=hres;have hM:=qb6 (B:=L) hua (by rw[hT0l];exact hu);rcases h3 with⟨ho,m,rfl,rfl⟩|⟨f',j',lv',ho,rfl,hj',hV',hfr'⟩
  ·simp-dsimp[go_sem,hN,Y1.len];exact qbu Y (by simp[Y.len]) hM (by simp[hK1]) (.inl rfl) (.inl rfl) (Prod.ext ho rfl)
  ·have hV2:VM (fun q=>K q++(T0++L)) j' f' lv':=by
    rw[hK1]at hV';simpa using hV'
   simp-dsimp[go_sem,hN,Y1.len];exact qcw Y (by simp[Y.len]) hM (by simp[hK1]) hV2 (by simp[hT0l];omega) (by omega) (Prod.ext ho rfl)
 rw[if_neg h5]at hR0;have h36:t.op=3∨t.op=6:=by omega
 simp-dsimp[go_sem,hN,Y1.len,hbx,hbx0,hbx4];have hcF:=c_pr_eval t.b Y1 x1 hV1 (by omega) hXb hF (oB h36);have hrB:=exE_rng (fmt:=qbc) qcp t.b f x1 hXb hF;obtain⟨⟨⟨vb,ok⟩,x2⟩,hxb⟩:∃R,exE qbc t.b f x1=R:=⟨_,rfl⟩
 rw[hxb]at hcF hR0 hrB;refine qaj hcF ?_;rintro r h' ⟨rfl,rfl⟩;obtain⟨T1,hT1⟩:∃T1:qab,T1=T0++[.cells vb.c]:=⟨_,rfl⟩
 have hT1l:T1.length=3:=by rw[hT1];simp[hT0l]
 have hub4:hUnder (n0+T1.length) T1=true:=by rw[hT1];exact qb6 hua (by simp[hUnder,AObj.under,AV.under,qao,AX.c])
 cases ok with
 |false =>
  simp-dsimp[go_sem,hN,Y1.len,Y1.sloc0];exact qbu Y (by simp[Y.len]) hub4 (by simp[hK1,hT1,AX.c]) (.inl rfl) (.inl rfl) hR0.symm
 |true =>
 dsimp only at hR0 hrB;have Y2:=Y.ext T1 hub4;have hV2:=hV.ext Y.len hi T1;obtain⟨K2,hK2⟩:∃K2:XS→qab,K2=fun q=>K q++T1:=⟨_,rfl⟩
 have hK2q:∀q,K1 q++[.cells [Bo vb.known,I vb.v.k,I vb.v.n,S vb.v.s]]=K2 q:=fun q=>by rw[hK2,hK1,hT1];simp[AX.c]
 rw[←hK2,hT1l]at Y2;rw[←hK2]at hV2;have hby:∀q (l:qab),(K2 q++l)[n0]?=some (.cells t.x):=fun q l=>by rw[hK2,hT1];simpa[hK1]using hbx q (.cells vb.c::l)
 have hcy:∀q (l:qab),(K2 q++l)[n0+1]?=some (.cells va.c):=fun q l=>by rw[hK2,hT1];simpa[hK1]using hca q (.cells vb.c::l)
 have hcz:∀q (l:qab),(K2 q++l)[n0+2]?=some (.cells vb.c):=fun q l=>by
  rw[hK2,hT1];simp[Y.loc,List.getElem?_append_right,hT0l]
 have hg:∀{q:XS} {k:Nat} {o:AObj},(K2 q++[])[k]?=some o→(K2 q)[k]?=some o:=fun h=>by simpa using h
 have hg2:∀{q:XS} {k:Nat} {o:AObj},(K2 q++[])[k]?=some o→∀h:k<(K2 q).length,(K2 q)[k]=o:=fun h h'=>by
  rw[List.append_nil,List.getElem?_eq_getElem h']at h;exact Option.some.inj h
 have hby0:=fun q=>hg2 (hby q []);have hby4:=fun q=>hg (hby q []);have hcy0:=fun q=>hg2 (hcy q []);have hcy4:=fun q=>hg (hcy q []);have hcz0:=fun q=>hg2 (hcz q []);have hcz4:=fun q=>hg (hcz q []);have hvars2:VM (fun q=>K q++T1) i f lv:=hV.ext Y.len hi T1;simp-dsimp[go_sem,hN,Y1.len,Y1.sloc0,hK2q];simp-dsimp[go_sem,hN,Y2.len,hby,hby0,hby4];refine cnd ?_ ?_<;>intro h3<;>simp at h3
 ·rw[if_pos h3]at hR0;have hkey:ACalls Tryz.prog 106 [.ptr p 0,.agg [Bo va.known,I va.v.k,I va.v.n,S va.v.s],.mapr iw] (K2 x2) fun r h'=>r=.ret (Bo (keyX true va x2).1)∧h'=K2 (keyX true va x2).2:=by simpa using c_pr_key Y2 true va x2
  obtain⟨⟨b,x3⟩,hkx⟩:∃R,keyX true va x2=R:=⟨_,rfl⟩
  rw[hkx]at hkey hR0;simp-dsimp[go_sem,hN,Y2.len,hcy,hcy0,hcy4];refine qek 8 7 [0] mixed (by kernel_rfl) ?_;simp-dsimp[go_sem,hN,Y2.lp,Y2.len,hcy,hcy0,hcy4];refine qd2 hkey ?_;cases b with
  |true =>
   simp-dsimp[go_sem,hN,Y2.len,hcy,hcy0,hcy4];exact qcw Y (by simp[Y.len]) hub4 (by simp[hK2]) hvars2 (by omega) (.inl rfl) hR0.symm
  |false =>
   simp-dsimp[go_sem,hN,Y2.len,hcy,hcy0,hcy4];exact qbu Y (by simp[Y.len]) hub4 (by simp[hK2]) (.inr ⟨i,rfl,by omega⟩) (.inr rfl) hR0.symm
 rw[if_neg h3]at hR0;have h6:t.op=6:=by omega
 simp-dsimp[go_sem,hN,Y2.len,hcy,hcy0,hcy4,hcz,hcz0,hcz4]
 repeat refine⟨by grind,?_⟩
 refine cnd ?_ ?_<;>intro h1<;>simp at h1
 ·rw[if_pos h1]at hR0;have hcall:=c_pr_counted t hB hRb Y2 x2 hV2 (by omega) hF va.v.n vb.v.n hrA.1 hrB.1;rw[show cntR t va.v.n vb.v.n f x2=R0 from hR0]at hcall;simp-dsimp[go_sem,hN,Y2.len,hby,hby0,hby4,hcy,hcy0,hcy4,hcz,hcz0,hcz4];refine qaj hcall ?_;intro r h' hres;obtain⟨L,rfl,hu,h3⟩:=hres;have hM:=qb6 (B:=L) hub4 (by rw[hT1l];exact hu);rcases h3 with⟨ho,m,rfl,rfl⟩|⟨f',j',lv',ho,rfl,hj',hV',hfr'⟩
  ·simp-dsimp[go_sem,hN,Y2.len];exact qbu Y (by simp[Y.len]) hM (by simp[hK2]) (.inl rfl) (.inl rfl) (Prod.ext ho rfl)
  ·have hV2:VM (fun q=>K q++(T1++L)) j' f' lv':=by
    rw[hK2]at hV';simpa using hV'
   simp-dsimp[go_sem,hN,Y2.len];exact qcw Y (by simp[Y.len]) hM (by simp[hK2]) hV2 (by simp[hT1l];omega) (by omega) (Prod.ext ho rfl)
 ·rw[if_neg (by simp;exact h1)]at hR0;have hcall:=c_pr_repeated t hB hRb Y2 x2 hV2 (by omega) hF (by have:=(hmx h6).2;omega);rw[hR0]at hcall;simp-dsimp[go_sem,hN,Y2.len,hby,hby0,hby4,hcy,hcy0,hcy4,hcz,hcz0,hcz4];refine qaj hcall ?_;intro r h' hres;obtain⟨L,rfl,hu,h3⟩:=hres;have hM:=qb6 (B:=L) hub4 (by rw[hT1l];exact hu);rcases h3 with⟨ho,m,rfl,rfl⟩|⟨f',j',lv',ho,rfl,hj',hV',hfr'⟩
  ·simp-dsimp[go_sem,hN,Y2.len];exact qbu Y (by simp[Y.len]) hM (by simp[hK2]) (.inl rfl) (.inl rfl) (Prod.ext ho rfl)
  ·have hV2:VM (fun q=>K q++(T1++L)) j' f' lv':=by
    rw[hK2]at hV';simpa using hV'
   simp-dsimp[go_sem,hN,Y2.len];exact qcw Y (by simp[Y.len]) hM (by simp[hK2]) hV2 (by simp[hT1l];omega) (by omega) (Prod.ext ho rfl)
end Go.Proofs.YtilhejdbiionhaaGreatDoor

set_option maxRecDepth 4000
set_option maxHeartbeats 4000000
namespace Go.Proofs.YtilhejdbiionhaaGreatDoor
open Go Go.Abs Go.Cw
variable {tT:TypeId} {tx:Nat×Nat} {g p ir iw:Nat}
mutual
theorem c_pr_st:∀(t:St) (d:Nat),okS t d→rngS t→StSpec tT tx g p ir iw t
 | .mk op name mx a b body els,d,hO,hR=>by
  have h1:=(qco _ _).1 hO;have h2:=(qec _).1 hR;simp only[St.body,St.els]at h1 h2;exact c_pr_stmt _ hO hR (c_pr_blk body (d+1) h1.2.1 h2.2.2.1) (c_pr_blk els (d+1) h1.2.2 h2.2.2.2)
theorem c_pr_all:∀(l:List St) (d:Nat),okL l d→(∀t∈l,rngS t)→∀t∈l,StSpec tT tx g p ir iw t
 | [],_,_,_,t,h=>by cases h
 |s::l,d,hO,hR,t,h=>by
  by_cases e:t=s
  ·rw[e];exact c_pr_st s d (hO s (by simp)) (hR s (by simp))
  ·exact c_pr_all l d (fun x hx=>hO x (by simp[hx])) (fun x hx=>hR x (by simp[hx])) t ((List.mem_cons.1 h).resolve_left e)
theorem c_pr_blk:∀(l:List St) (d:Nat),okL l d→(∀t∈l,rngS t)→BlSpec tT tx g p ir iw l
 |l,d,hO,hR=>c_pr_block l (c_pr_all l d hO hR) hR
end
end Go.Proofs.YtilhejdbiionhaaGreatDoor

set_option maxRecDepth 8000
namespace Go.Proofs.YtilhejdbiionhaaGreatDoor
open Go Go.Abs Go.Shelf Go.Lib
def renT:Ren:=⟨fun
 | 190=>67| 125=>111| 258=>110| 128=>165| 129=>166| 302=>157| 303=>158| 304=>159| 305=>160| 306=>161| 307=>162| 308=>125| 309=>163| 310=>164| 333=>204| 329=>205| 330=>206| 334=>207| 335=>208| 336=>179| 344=>251|x=>x,
 fun| 0=>0| 3=>3| 4=>4| 5=>5| 9=>9| 31=>30| 46=>148| 51=>200| 53=>202| 131=>114| 182=>193| 183=>194| 218=>238| 222=>242| 228=>270| 229=>271|x=>x,fun x=>x⟩
theorem laysT:Lays.n190 Tryz.prog renT:=by
 constructor<;>first|exact fun _=>by kernel_rfl|kernel_rfl
end Go.Proofs.YtilhejdbiionhaaGreatDoor

set_option maxRecDepth 4000
set_option maxHeartbeats 2000000
namespace Go.Proofs.YtilhejdbiionhaaGreatDoor
open Go Go.Abs Go.Cw
theorem c_sortStr{h:qab}{i:Nat}{l:List qac}(hi:h[i]?=some (.uarr 9 1 (l.map qa1))) :
  ACalls Tryz.prog 67 [.own i l.length] h fun r h'=>r=.ret (.tuple [])∧h'=h.set i (.uarr 9 1 ((qdy l).map qa1)) :=
 acalls_sortS (ρ:=renT) laysT ⟨Tryz.f67,Tryz.func67,by kernel_rfl,by kernel_rfl⟩ hi
theorem c_pr_sorted0(l:List qac)(hn:l.Nodup)(hl:l.length<68719476736)(h:qab)(i:Nat)(hi:h[i]?=some (.map (kAV boAV (tru l)))) :
  ACalls Tryz.prog 36 [.mapr i] h fun r h'=>r=.ret (.own h.length (qdy l).length)∧h'=h++[.uarr 9 1 ((qdy l).map qa1)]:=by
 refine acalls_introB Tryz.func36 rfl (by kernel_rfl) (by simp[Tryz.ntmps36]) ?_;intro E hN hh hu hb hb' hua;rw[Tryz.ntmps36]at hN;have hil:i<h.length:=(List.getElem?_eq_some_iff.1 hi).1;obtain⟨ML,hML⟩:∃ML,(tru l).map (fun p=>(p.1,boAV p.2))=ML:=⟨_,rfl⟩
 have hMl:ML.length=l.length:=by rw[←hML];simp
 have hMj:∀j (hj:j<ML.length),ML[j]=(l[j]'(by omega),Bo true):=fun j hj=>by subst hML;simp[boAV]
 have hi':h[i]?=some (.map (qb5 ML)):=by rw[hi,kAV,hML]
 have hML2:∀(mb:Nat) (bs:List Nat) (clock:Nat),AObj.under (h.length+2) (frzO mb ML bs clock)=true:=fun mb bs clock=>by
  subst hML;simp[AObj.under,qbk,boAV,go_sem]
 refine qbj (awp_ops ?_);simp[go_sem,hN];refine qbj (qay _ _ _ ?_);simp-dsimp[go_sem,hN];refine AWp.wk (nilu_wk E _ 3 9 1 (by simp[go_sem])) ?_;simp[go_sem];refine qbj ?_;refine qbj (awp_opsT [_] _ ?_);simp[go_sem,hN];refine aops_rangeM (i:=i) (kt:=9) (et:=4) (l:=ML) rfl (by simp[qee,hN]) rfl (by simp[go_sem]) (by simp[go_sem]) (by simp[go_sem]) (by simp only[];rw[List.getElem?_append_left hil];exact hi') ?_;intro mb bs clock g hf;refine aops_nil ?_;simp[go_sem,AExit.then];have hset0:(h++[AObj.uarr 9 1 []]).set i (frzO mb ML bs clock)=h.set i (frzO mb ML bs clock)++[.uarr 9 1 []]:=List.set_append_left _ _ hil;rw[hset0,List.append_assoc];have hset:∀{A B C:AObj},(h.set i (frzO mb ML bs clock)++[A,B]).set (h.length+1) C=h.set i (frzO mb ML bs clock)++[A,C]:=fun {A B C}=>by simp[List.set_append]
 have hfi:∀{A:List AObj},(h.set i (frzO mb ML bs clock)++A)[i]?=some (frzO mb ML bs clock):=fun {A}=>by rw[List.getElem?_append_left (by simpa using hil),List.getElem?_set_self hil]
 have hw:∀{A B:AObj},(h.set i (frzO mb ML bs clock)++[A,B])[h.length+1]?=some B:=fun {A B}=>by simp
 refine awp_mloop hf (i:=i) (k0:=h.length+1) (mb:=mb) (g:=g) (fun js=>⟨[(3,.own h.length (pickL l js).length),(6,.ptr (h.length+1) 0)],h.set i (frzO mb ML bs clock)++[.uarr 9 1 ((pickL l js).map qa1),itO g mb clock (js.map fun j=>bs.getD j 0) clock]⟩) (by omega) (by omega) (by omega) (fun js=>⟨by simp[go_sem],hfi,hw⟩) (Wk.same rfl (by simp[wkZ,go_sem,pickL])) (fun js hp=>?_) (fun js j hj hnd hlt hno=>?_)
 ·have hperm:=pickL_perm (l:=l) (js:=js) (by rw[←hMl];exact hp);simp[go_sem,AExit.then];refine AWp.wk (thaw_wk _ (i:=i) hf hfi) ?_;simp only[];rw[List.set_append_left _ _ (by simpa using hil),List.set_set,qdc hi'];apply qay;simp-dsimp[go_sem,hN];refine qaj (c_sortStr (l:=pickL l js) (i:=h.length) (by simp)) ?_;rintro r h' ⟨rfl,rfl⟩;rw[sortS_perm hperm];have hs2:∀X Y W:AObj,(h++[X,Y]).set h.length W=h++[W,Y]:=fun X Y W=>by simp
  rw[hs2];have hll:(pickL l js).length=(qdy l).length:=by rw[hperm.length_eq,sortS_len]
  simp-dsimp[go_sem,hN];exact⟨_,.refl _,h++[.uarr 9 1 ((qdy l).map qa1)],by simp[go_sem],by simp[go_sem,hwk_app],by simp,by simp[qan hu,go_sem],by rw[hll],rfl⟩
 ·have hj2:j<l.length:=by omega
  simp only[hset];refine awp_block ?_;refine qbj (qd7 ?_);refine aops_entryM (i:=i) (k0:=h.length+1) (mb:=mb) (g:=g) (since:=clock) (clock:=clock) (seen:=js.map fun j=>bs.getD j 0) rfl (by simp[qee,hN]) rfl (by simp[go_sem,hN]) (by simp[go_sem]) hf hfi j hj (by rw[hf.len];exact hj) (by
   have:bs.getD j 0=bs[j]'(by rw[hf.len];exact hj):=by rw[List.getD_eq_getElem?_getD,List.getElem?_eq_getElem (by rw[hf.len];exact hj)];rfl
   rw[←this];simp only[Env.put,hw];simp) ?_
  refine qcf [_,_] [_] _ rfl ?_;have hpl:(pickL l js).length<l.length:=by
   have h1:=len_lt l.length (js++[j]) (List.nodup_append.2 ⟨hnd,by simp,fun a ha b hb=>by simp at hb;subst hb;rintro rfl;exact hno ha⟩) (fun x hx=>by
    rcases List.mem_append.1 hx with hx|hx
    ·have:=hlt x hx;omega
    ·simp at hx;omega)
   have h2:(pickL l js).length≤js.length:=List.length_filterMap_le _ _;simp at h1;omega
  rw[hMj j hj];simp[go_sem,hN,AExit.then];apply qay;simp-dsimp[go_sem,hN];rw[pickL_snoc hj2,List.length_append,List.length_singleton,List.map_append];refine⟨by omega,Wk.mk (by simp[hh]) (by simp[go_sem,hwk_app]) ?_ (by simp[go_sem])⟩;rw[qar];have h1:hUnder (h.length+2) (h.set i (frzO mb ML bs clock))=true:=qcg (qau (by omega) hu) (hML2 mb bs clock);simp[h1,go_sem]
theorem c_pr_sorted(l:List qac)(hn:l.Nodup)(hl:l.length<68719476736)(h:qab)(i:Nat)(hi:h[i]?=some (.map (kAV boAV (tru l)))) :
  ACalls Tryz.prog 36 [.mapr i] h fun r h'=>r=.ret (.slice ((qdy l).map qa1))∧h'=h:=by
 have hcore:=c_pr_sorted0 l hn hl h i hi;refine⟨hcore.1,fun cx wx vx hsx hax=>?_⟩;have hu:=hsx.hUnder;refine(acalls_ret (fun E hE=>?_) hcore).2 cx wx vx hsx hax;refine(qef E _ (i:=h.length) (t:=9) (sz:=1) (rows:=(qdy l).map qa1) (by simp)).trans ((norm_wk E _).trans (Wk.mk (by simp[hE]) (by simpa[go_sem]using hwk.app0 _) (by simpa using hu) (by simp[go_sem,AV.norm,wkT])))
end Go.Proofs.YtilhejdbiionhaaGreatDoor

set_option maxRecDepth 4000
set_option maxHeartbeats 2000000
namespace Go.Proofs.YtilhejdbiionhaaGreatDoor
open Go Go.Abs Go.Cw
theorem c_Clone_S(l:List qac):APure Tryz.prog 51 [.slice (l.map qa1)] (.slice (l.map qa1)):=by
 refine apure_introB Tryz.func51 rfl (by kernel_rfl) (by simp[Tryz.ntmps51]) rfl ?_;intro E h hN hh hu hb;rw[Tryz.ntmps51]at hN;simp[go_sem]at hb;refine qbj (awp_ops ?_);simp[go_sem,hN];refine qbj (qbj (awp_opsT [_] _ ?_));simp[go_sem,hN];intro c a w s k;refine wp_eqnil s (el:=9) (sz:=1) (x:=.tmp 3) (rows:=l.map qa1) (d1:=4) rfl rfl (by omega) rfl (by simp[go_sem]) (by simp[go_sem]) (by simp[go_sem]) fun b a' hbn s'=>?_;refine qc9 _ [_,_] _ rfl ?_ c a' w s' k;simp[go_sem,hN];cases b with
 |true =>
  have hl:l=[]:=by simpa using hbn rfl
  subst hl;apply qay;simp-dsimp[go_sem,hN]
 |false =>
  refine awp_cond (x:=.tmp 4) (b:=false) (by simp[go_sem]) (fun h=>by cases h) (fun _=>awp_skip ?_);simp only[then_normal];refine qbj (awp_opsT [] _ ?_);simp[go_sem,hN];intro c a w s k;refine wp_lit0 s k (el:=9) (sz:=1) (d1:=5) rfl rfl (by omega) rfl (by simp[go_sem]) (by simp[go_sem]) (by simp[go_sem]) (by omega) fun c' a' w' s' k'=>?_;refine qc9 _ [_] _ rfl ?_ c' a' w' s' k';simp[go_sem,hN];refine⟨hb.1,?_⟩;apply qay;simp-dsimp[go_sem,hN]
theorem c_fp_Of(e:Eff):APure Tryz.prog 19 [.agg e.c] (.agg (ftOf e).c):=by
 refine qak Tryz.func19 Tryz.ntmps19 rfl (by kernel_rfl) rfl rfl fun E h hN hh hu hb=>?_;simp-dsimp[go_sem,hN,Eff.c];refine qai 5 mixed (by kernel_rfl) (by kernel_rfl) ?_;simp-dsimp[go_sem,hN,Eff.c];refine qax (c_Clone_S e.reads) (by simp) ?_;simp-dsimp[go_sem,hN];refine qaa (c_Clone_S e.puts) ?_;simp-dsimp[go_sem,hN,Foot.c]
theorem c_predict_fits(p:Proc)(args:List V):APure Tryz.prog 30 [.agg p.c,.slice (args.map V.c)] (Bo (decide (qbv p=0)&&decide (qcl p args=0))):=by
 refine qak Tryz.func30 Tryz.ntmps30 rfl (by kernel_rfl) rfl rfl fun E h hN hh hu hb=>?_;simp-dsimp[go_sem,hN];refine qaa (c_cost_Check p) ?_;simp-dsimp[go_sem,hN];refine qae (c_types_Args p args) (by simp) ?_;simp-dsimp[go_sem,hN]
variable {tT:TypeId} {tx:Nat×Nat} {g:Nat}
theorem qeg(p:Proc)(args:List V)(st:List Pr)(h:qab)(hg:h[g]?=some (tabO tT tx))(hI:RunIn qbc p args st) :
  ACalls Tryz.prog 10 [.agg p.c,.slice (args.map V.c),.slice (st.map Pr.c)] h fun r h'=>r=.ret (.tuple [.agg (reconS qbc p args st).1.c,I (reconS qbc p args st).2])∧h'=h:=by
 refine qaz Tryz.func10 Tryz.ntmps10 rfl (by kernel_rfl) rfl fun E hN hh hu hb hb' hua=>?_;have hgl:g<h.length:=(List.getElem?_eq_some_iff.1 hg).1;have hg':∀l:qab,(h++l)[g]?=some (tabO tT tx):=fun l=>by rw[List.getElem?_append_left hgl];exact hg
 have hfree:=fun H hH=>c_interp_Free (g:=g) (tT:=tT) (tx:=tx) p args st H hH hI;obtain⟨X,hX⟩:∃X,runS qbc p args st ⟨true,[],[]⟩=X:=⟨_,rfl⟩
 have hR:reconS qbc p args st=if qbv p≠0∨qcl p args≠0∨qb7 st=false then(⟨false,[],[]⟩,1)else(ftOf X,0):=by rw[←hX];rfl
 simp only[hX]at hfree;obtain⟨R,hR2⟩:∃R,reconS qbc p args st=R:=⟨_,rfl⟩
 rw[hR2]at hR⊢;simp-dsimp[go_sem,hN];refine qaa (c_predict_fits p args) ?_;simp-dsimp[go_sem,hN];refine qae (c_state_Valid st) (by simp) ?_;simp-dsimp[go_sem,hN];refine cnd ?_ ?_<;>intro h0<;>simp at h0
 ·rw[if_pos (by grind)]at hR;subst hR;simp-dsimp[go_sem,hN,Foot.c];exact⟨_,.refl _,h,by simp[go_sem],hwk.app0 _,Nat.le_refl _,hu,rfl,rfl⟩
 ·rw[if_neg (by grind)]at hR;subst hR;simp-dsimp[go_sem,hN];refine qaj (hfree _ (hg' _)) ?_;rintro r h' ⟨rfl,rfl⟩;simp-dsimp[go_sem,hN];refine qaa (c_fp_Of X) ?_;simp-dsimp[go_sem,hN,Foot.c];exact⟨_,.refl _,h,by simp[go_sem],hwk.app0 _,Nat.le_refl _,hu,rfl,rfl⟩
end Go.Proofs.YtilhejdbiionhaaGreatDoor

set_option maxRecDepth 4000
set_option maxHeartbeats 4000000
namespace Go.Proofs.YtilhejdbiionhaaGreatDoor
open Go Go.Abs Go.Cw
variable {tT:TypeId} {tx:Nat×Nat} {g:Nat}
def initL:List Param→List V→List (qac×AX)→List (qac×AX)
 |p::ps,v::vs,l=>initL ps vs (qbr l p.name (kn v))
 |_,_,l=>l
theorem initL_nod:∀(ps:List Param) (vs:List V) (l:List (qac×AX)),(keysM l).Nodup→(keysM (initL ps vs l)).Nodup
 | [],_,l,h=>by simpa[initL]using h
 |_::_,[],l,h=>by simpa[initL]using h
 |p::ps,v::vs,l,h=>by rw[initL];exact initL_nod ps vs _ (keysM_set h _ _)
theorem initL_get:∀(ps:List Param) (vs:List V) (l:List (qac×AX)) (f:MV),(∀k,qbg l k=f k)→∀k,qbg (initL ps vs l) k=initF ps vs f k
 | [],_,l,f,h,k=>by simpa[initL,initF]using h k
 |_::_,[],l,f,h,k=>by simpa[initL,initF]using h k
 |p::ps,v::vs,l,f,h,k=>by
  rw[initL,initF];exact initL_get ps vs _ _ (fun k=>by rw[qb3,h];rfl) k
theorem initF_rng:∀(ps:List Param) (vs:List V) (f:MV),(∀v∈vs,qcx v)→rngF f→rngF (initF ps vs f)
 | [],_,f,_,h=>by simpa[initF]using h
 |_::_,[],f,_,h=>by simpa[initF]using h
 |p::ps,v::vs,f,hv,h=>by
  rw[initF];exact initF_rng ps vs _ (fun w hw=>hv w (by simp[hw])) (h.upd (hv v (by simp)))
theorem c_pr_Static(p:Proc)(args:List V)(h:qab)(hg:h[g]?=some (tabO tT tx))(hI:RunIn qbc p args []) :
  ACalls Tryz.prog 13 [.agg p.c,.slice (args.map V.c)] h fun r h'=>r=.ret (.tuple [.agg (statS qbc p args).1.c,I (statS qbc p args).2])∧h'=h:=by
 refine qaz Tryz.func13 Tryz.ntmps13 rfl (by kernel_rfl) rfl fun E hN hh hu hb hb' hua=>?_;have hgl:g<h.length:=(List.getElem?_eq_some_iff.1 hg).1;simp[go_sem]at hb;obtain⟨R,hR⟩:∃R,statS qbc p args=R:=⟨_,rfl⟩
 rw[hR];unfold statS at hR;simp-dsimp[go_sem,hN];refine qaa (c_predict_fits p args) ?_;simp-dsimp[go_sem,hN];refine cnd ?_ ?_<;>intro h0<;>simp at h0
 ·rw[if_pos (by grind)]at hR;subst hR;simp-dsimp[go_sem,hN,Foot.c];exact⟨_,.refl _,h,by simp[go_sem],hwk.app0 _,Nat.le_refl _,hu,rfl,rfl⟩
 rw[if_neg (by grind)]at hR;simp-dsimp[go_sem,hN];obtain⟨hlen,hax⟩:=argsErr_ok h0.2;obtain⟨L0,hL0⟩:∃L0,initL p.params args []=L0:=⟨_,rfl⟩
 refine qap (α:=List (qac×AX)) args.length (fun n l=>initL (p.params.drop n) (args.drop n) l=L0) (fun n l=>⟨[(2,.ptr h.length 0),(4,.ptr (h.length+1) 0),(6,.ptr (h.length+4) 0),(7,.mapr (h.length+5)),(20,.slice (args.map V.c)),(21,I args.length),(22,I n)],h++[.cells p.c,.cells [Bo false,.nils,.nils],.map [],.map [],.cells [.mapr (h.length+2),.mapr (h.length+3),Bo false],.map (kAV qc7 l)]⟩) [] (by simpa using hL0) (Wk.mk (by simp[hh]) (by simp[Proc.c,kAV,qb5,hwk.refl]) (by simp[hu,qan hu,go_sem,Proc.c,kAV,qb5]) (by simp[go_sem])) ?_;rintro n l hn hI1;have hw:=qa2 hn hb.2.1;simp-dsimp[go_sem,hN];refine cnd ?_ ?_<;>intro hc<;>simp at hc
 ·have hc2:n<p.params.length:=by omega
  rw[qaf hc,qaf hc2,initL]at hI1;simp-dsimp[go_sem,hN,hc];refine qai 9 mixed (by kernel_rfl) (by kernel_rfl) ?_;simp-dsimp[go_sem,hN,hc,hc2,Proc.c,V.c,Param.c];have hkv:AObj.map (kAV qc7 (qbr l p.params[n].name ⟨true,⟨args[n].k,args[n].n,args[n].s⟩⟩))=.map (kAV qc7 (qbr l p.params[n].name (kn args[n]))):=rfl;simp only[hkv];simp-dsimp[go_sem,hN,hw];exact⟨_,hI1,Wk.mk (by simp[hh]) (by simp[Proc.c,hwk_app,go_sem]) (by
   dsimp only;rw[List.length_append,qan hu];simp only[hUnder,qds];simp[AObj.under,AV.under,qao,Proc.c]) (by simp[go_sem])⟩
 rw[List.drop_eq_nil_of_le (by omega:args.length≤n)]at hI1;have hl:l=L0:=by
  rw[←hI1];cases p.params.drop n<;>simp[initL]
 subst hl;obtain⟨K,hK⟩:∃K:XS→qab,K=fun x=>h++[.cells p.c,.cells [Bo false,.nils,.nils],setO x.r,setO x.w,.cells (xC (h.length+2) (h.length+3) x.f),.map (kAV qc7 l)]:=⟨_,rfl⟩
 have Y:PHs tT tx g (h.length+4) (h.length+2) (h.length+3) K (h.length+6):=by
  rw[hK];refine⟨fun x=>by simp,by omega,by omega,by omega,by omega,fun x=>?_,fun x=>by simp,fun x=>by simp,fun x=>by simp,fun x b=>by simp,fun x l=>by simp,fun x l=>by simp,fun x=>?_⟩
  ·show(h++_)[g]?=_;rw[List.getElem?_append_left hgl,hg]
  ·have hb1:∀(n:Nat) (m:List qac),(setO m).under n=true:=fun n m=>kAV_und (fun n a=>by simp[boAV,go_sem]) n (tru m);show hUnder (h.length+6) (h++_)=true;rw[qan hu];simp only[hUnder,hb1,qds];simp[AObj.under,AV.under,qao,Proc.c]
 have hVM:VM K (h.length+5) (initF p.params args fun _=>none) l:=⟨fun x=>by rw[hK];simp,by rw[←hL0];exact initL_nod _ _ _ (by simp[keysM]),fun k=>by rw[←hL0];exact initL_get _ _ _ _ (fun k=>rfl) k⟩
 have hFr:rngF (initF p.params args fun _=>none):=initF_rng _ _ _ hI.args fun k a h=>by cases h
 have hcall:=c_pr_blk p.body 1 (cost_okL h0.1) hI.body Y ⟨[],[],false⟩ hVM (by omega) hFr;obtain⟨⟨o,x⟩,hx⟩:∃R,exBl qbc p.body (initF p.params args fun _=>none) ⟨[],[],false⟩=R:=⟨_,rfl⟩
 have hko:KO x:=by
  have:=exP_ko (fmt:=qbc) (p:=p) (args:=args);rw[exP,hx]at this;exact this
 rw[hx]at hcall hR;dsimp only at hR;have hK0:h++[.cells [S p.name,.slice (p.params.map Param.c),.slice (p.body.map St.c)],.cells [Bo false,.nils,.nils],.map [],.map [],.cells [.mapr (h.length+2),.mapr (h.length+3),Bo false],.map (kAV qc7 l)]=K ⟨[],[],false⟩:=by rw[hK];rfl
 have hlr:(kAV boAV (tru x.r)).length=x.r.length:=by simp[kAV,qb5]
 have hlw:(kAV boAV (tru x.w)).length=x.w.length:=by simp[kAV,qb5]
 have hKx:∀M,K x++M=h++(.cells [S p.name,.slice (p.params.map Param.c),.slice (p.body.map St.c)]::.cells [Bo false,.nils,.nils]::.map (kAV boAV (tru x.r))::.map (kAV boAV (tru x.w))::.cells [.mapr (h.length+2),.mapr (h.length+3),Bo x.f]::.map (kAV qc7 l)::M):=fun M=>by rw[hK];simp[Proc.c]
 simp-dsimp[go_sem,hN,Proc.c];simp only[hK0];refine qaj hcall ?_;rintro r h' ⟨L,rfl,huL,h3⟩;dsimp only;simp only[hKx];rcases h3 with⟨ho,m,rfl,rfl⟩|⟨f',j',lv',ho,rfl,hj',hV',hfr'⟩
 ·simp-dsimp[go_sem,hN];refine cnd (fun h1=>?_) (fun h1=>?_)
  ·rw[if_pos h1]at hR;subst hR;simp-dsimp[go_sem,hN,Foot.c];exact⟨_,.refl _,h,by simp[go_sem],hwk.app0 _,Nat.le_refl _,hu,rfl,rfl⟩
  rw[if_neg (by simp[h1])]at hR;simp-dsimp[go_sem,hN,hlr,hlw]
  repeat refine⟨by grind,?_⟩
  refine cnd ?_ ?_<;>intro h2<;>simp at h2
  ·rw[if_pos (by omega)]at hR;subst hR;simp-dsimp[go_sem,hN,Foot.c];exact⟨_,.refl _,h,by simp[go_sem],hwk.app0 _,Nat.le_refl _,hu,rfl,rfl⟩
  rw[if_neg (by omega)]at hR;subst hR;simp-dsimp[go_sem,hN];refine qai 9 mixed (by kernel_rfl) (by kernel_rfl) ?_;simp-dsimp[go_sem,hN];refine tdcall_at (r:=.slice ((qdy x.r).map qa1)) (fun _ h' hs=>c_pr_sorted x.r hko.rn (by omega) h' (h.length+2) (hs _ _ rfl (by simp))) (by simp) ?_;simp-dsimp[go_sem,hN];refine qaj (c_pr_sorted x.w hko.wn (by omega) _ (h.length+3) (by simp)) ?_;rintro r h' ⟨rfl,rfl⟩;simp-dsimp[go_sem,hN,Foot.c];exact⟨_,.refl _,h,by simp[go_sem],hwk.app0 _,Nat.le_refl _,hu,rfl,rfl⟩
 ·simp-dsimp[go_sem,hN];refine cnd (fun h1=>?_) (fun h1=>?_)
  ·rw[if_pos h1]at hR;subst hR;simp-dsimp[go_sem,hN,Foot.c];exact⟨_,.refl _,h,by simp[go_sem],hwk.app0 _,Nat.le_refl _,hu,rfl,rfl⟩
  rw[if_neg (by simp[h1])]at hR;simp-dsimp[go_sem,hN,hlr,hlw]
  repeat refine⟨by grind,?_⟩
  refine cnd ?_ ?_<;>intro h2<;>simp at h2
  ·rw[if_pos (by omega)]at hR;subst hR;simp-dsimp[go_sem,hN,Foot.c];exact⟨_,.refl _,h,by simp[go_sem],hwk.app0 _,Nat.le_refl _,hu,rfl,rfl⟩
  rw[if_neg (by omega)]at hR;subst hR;simp-dsimp[go_sem,hN];refine qai 9 mixed (by kernel_rfl) (by kernel_rfl) ?_;simp-dsimp[go_sem,hN];refine tdcall_at (r:=.slice ((qdy x.r).map qa1)) (fun _ h' hs=>c_pr_sorted x.r hko.rn (by omega) h' (h.length+2) (hs _ _ rfl (by simp))) (by simp) ?_;simp-dsimp[go_sem,hN];refine qaj (c_pr_sorted x.w hko.wn (by omega) _ (h.length+3) (by simp)) ?_;rintro r h' ⟨rfl,rfl⟩;simp-dsimp[go_sem,hN,Foot.c];exact⟨_,.refl _,h,by simp[go_sem],hwk.app0 _,Nat.le_refl _,hu,rfl,rfl⟩
end Go.Proofs.YtilhejdbiionhaaGreatDoor
