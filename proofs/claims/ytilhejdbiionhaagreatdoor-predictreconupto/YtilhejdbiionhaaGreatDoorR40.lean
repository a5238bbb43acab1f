/- Part 40 of a proof: W135, W136, W137, W138 -/
import Derived.Test.YtilhejdbiionhaaGreatDoorR19
import Derived.Test.YtilhejdbiionhaaGreatDoorR28
import Derived.Test.YtilhejdbiionhaaGreatDoorR39
set_option linter.all false

set_option maxRecDepth 4000
set_option maxHeartbeats 4000000
namespace Go.Proofs.YtilhejdbiionhaaGreatDoor
open Go Go.Abs Go.Cw
attribute [local go_sem] AX.c
variable {tT:TypeId} {tx:Nat×Nat} {g p ir iw:Nat}
theorem c_pr_eval(e:Ex){K:XS→qab}{n0:Nat}(Y:PHs tT tx g p ir iw K n0)(x:XS){i:Nat}{f:MV}{l:List (qac×AX)}(hV:VM K i f l)(hi:i<n0)(hX:rngX e)(hF:rngF f){d:Nat}(hA:chkE e d=0) :
  ACalls Tryz.prog 104 [.ptr p 0,.agg e.x,.mapr i] (K x) fun r h'=>r=.ret (.tuple [.agg (exE qbc e f x).1.1.c,Bo (exE qbc e f x).1.2])∧h'=K (exE qbc e f x).2:=by
 refine qaz Tryz.func104 Tryz.ntmps104 rfl (by kernel_rfl) rfl fun E hN hh hu hb hb' hua=>?_;have hX':=(qdd _).1 hX;have hA':=chkE_ar hA;have hp:=Y.hp;have hr:=Y.hr;have hw:=Y.hw;have hlm:∀q L,(K q++L)[i]?=some (.map (kAV qc7 l)):=fun q L=>by rw[Y.gl hi,hV.lm]
 simp[go_sem]at hb;rw[exE_eq];simp-dsimp[go_sem,hN,Y.len,Y.loc,Y.loc0];refine cnd ?_ ?_<;>intro h1<;>simp at h1
 ·simp-dsimp[go_sem,hN,Y.len,Y.loc,Y.loc0,Y.sloc,Y.sloc0];rw[if_pos h1];exact⟨_,.refl _,K x,by simp[go_sem],by first|exact hwk.refl _|exact hwk.app0 _|simp[hwk.refl],by simp[Y.len],Y.und' _,by first|rfl|simp,by first|rfl|simp[MS.q]⟩
 rw[if_neg h1];simp-dsimp[go_sem,hN,Y.len,Y.loc,Y.loc0];refine cnd ?_ ?_<;>intro h2<;>simp at h2
 ·simp-dsimp[go_sem,hN,Y.len,Y.loc,Y.loc0,Y.sloc,Y.sloc0];rw[if_pos h2];exact⟨_,.refl _,K x,by simp[go_sem],by first|exact hwk.refl _|exact hwk.app0 _|simp[hwk.refl],by simp[Y.len],Y.und' _,by first|rfl|simp,by first|rfl|simp[MS.q]⟩
 rw[if_neg h2];simp-dsimp[go_sem,hN,Y.len,Y.loc,Y.loc0];refine cnd ?_ ?_<;>intro h3<;>simp at h3
 ·rw[if_pos h3];obtain⟨w,hw'⟩:∃w,(f e.s).getD unk=w:=⟨_,rfl⟩
  have hk2:(Option.map qc7 (qbg l e.s)).getD (.agg [Bo false,I 0,I 0,S ⟨#[]⟩])=.agg [Bo w.known,I w.v.k,I w.v.n,S w.v.s]:=by
   rw[hV.get,←hw'];cases f e.s<;>rfl
  rw[hw'];simp-dsimp[go_sem,hN,Y.len,Y.loc,Y.loc0,Y.sloc,Y.sloc0,hlm,hk2];exact⟨_,.refl _,K x,by simp[go_sem],by first|exact hwk.refl _|exact hwk.app0 _|simp[hwk.refl],by simp[Y.len],Y.und' _,by first|rfl|simp,by first|rfl|simp[MS.q]⟩
 rw[if_neg h3];simp-dsimp[go_sem,hN,Y.len,Y.loc,Y.loc0];refine qap (α:=List AX×XS) e.args.length (fun n a=>a.1.length=n∧(∀v∈a.1,qcx v.v) ∧
   exL qbc e.args f x=match exL qbc (e.args.drop n) f a.2 with
    |(none,m')=>(none,m')
    |(some r,m')=>(some (a.1++r),m'))
  (fun n a=>⟨[(0,.ptr p 0),(2,.mapr i),(4,.ptr n0 0),(6,.ptr (n0+1) 0),(8,.own (n0+2) a.1.length),(9,Bo (a.1.all (·.known))),(35,.slice (e.args.map Ex.c)),(36,I e.args.length),(37,I n)],K a.2++[.cells e.x,.cells [Bo false,I 0,I 0,S em],.arr 75 4 (a.1.map AX.c)]⟩)
  ([],x) ⟨rfl,by simp,?_⟩ ((nil_wk E _ 8 75 4 (by simp[go_sem])).trans ?_) ?_
 ·simp;rcases exL qbc e.args f x with⟨_|r,m'⟩<;>rfl
 ·simp[Y.len];exact(Wk.mk (by simp[hh,Y.len]) (by simp[go_sem]) (by simp[Y.und,Y.undA,Y.len,go_sem]) (by simp[go_sem,Y.len]<;>omega))
 rintro n ⟨acc,s'⟩ hn' ⟨hal,hav,hI⟩;dsimp only at hal hav hI;have hws:=qa2 hn' hb.2.1;simp-dsimp[go_sem,hN];refine cnd ?_ ?_<;>intro hc<;>simp at hc
 ·rw[qaf hc]at hI;rw[exL]at hI;have hlt:SizeOf.sizeOf e.args[n]<SizeOf.sizeOf e:=Ex.arg_lt (List.getElem_mem hc);simp-dsimp[go_sem,hN,hc];have Y4:=Y.ext [AObj.cells e.x,.cells [Bo false,I 0,I 0,S em],.arr 75 4 (acc.map AX.c),.cells e.args[n].x] (by simp[hUnder,AObj.under,AV.under,qao]);refine qaj (c_pr_eval e.args[n] Y4 s' (i:=i) (f:=f) (l:=l) ⟨fun q=>hlm q _,hV.nod,hV.get⟩ (by simp;omega) (hX'.2 _ (List.getElem_mem hc)) hF (hA'.2 _ (List.getElem_mem hc))) ?_;rintro r h' ⟨rfl,rfl⟩;have hok:=exE_rng (fmt:=qbc) qcp e.args[n] f s' (hX'.2 _ (List.getElem_mem hc)) hF;rcases hE:exE qbc e.args[n] f s' with⟨⟨w,_|_⟩,s2⟩
  ·rw[hE]at hI;simp only at hI;simp-dsimp[go_sem,hN,Y.len,Y.loc,Y.loc0,Y.sloc,Y.sloc0];rw[hI];exact⟨_,.refl _,K s2,by simp[go_sem],by first|exact hwk.refl _|exact hwk.app0 _|simp[hwk.refl],by simp[Y.len],Y.und' _,by first|rfl|simp,by first|rfl|simp[MS.q]⟩
  ·rw[hE]at hI hok;simp only at hI hok;simp-dsimp[go_sem,hN,Y.len,Y.loc,Y.loc0,Y.sloc,Y.sloc0,hws];refine⟨by have:=hb.2.1;omega,hc,acc++[w],s2,⟨by simp[hal],?_,?_⟩,(Wk.mk (by simp[hh,Y.len]) (by simp[go_sem]) (by simp[Y.und,Y.undA,Y.len,go_sem]) (by simp[go_sem,Y.len]<;>omega))⟩
   ·intro v hv;rcases List.mem_append.1 hv with hv|hv
    ·exact hav v hv
    ·simp at hv;subst hv;exact hok
   ·rw[hI];rcases exL qbc (e.args.drop (n+1)) f s2 with⟨_|r,m'⟩<;>simp
 ·rw[List.drop_eq_nil_of_le (by omega),exL]at hI;simp only[List.append_nil]at hI;rw[hI];obtain⟨R,hR⟩:∃R,(if e.op=22∨e.op=23∨e.op=24 then((unk,(keyX false (acc.headD unk) s').1),(keyX false (acc.headD unk) s').2)else if acc.all (·.known)=false then((unk,true),s')else(apS qbc e.op (acc.map (·.v)),s'))=R:=⟨_,rfl⟩
  simp only[hR];have hln:acc.length=e.args.length:=by omega
  have hlen2:acc.length≤2:=by have:=hA'.1;have:=arity_le e.op;omega
  simp-dsimp[go_sem,hN,Y.len,Y.loc,Y.loc0];refine cnd ?_ ?_<;>intro h4<;>simp at h4
  ·have hop:e.op=22∨e.op=23∨e.op=24:=by omega
   have har:=arity_get hop;obtain⟨a,rfl⟩:∃a,acc=[a]:=by
    match acc,hln with
    | [a],_=>exact⟨a,rfl⟩
    | [],h4=>simp at h4;omega
    |_::_::_,h4=>simp at h4;omega
   have hkey:=by simpa using c_pr_key (Y.ext [AObj.cells e.x,.cells [Bo false,I 0,I 0,S em],.arr 75 4 [a.c]] (by simp[hUnder,AObj.under,AV.under,qao])) false a s'
   simp-dsimp[go_sem,hN];refine qek 10 9 [0] mixed (by kernel_rfl) ?_;simp-dsimp[go_sem,hN,Y.len,Y.loc,Y.loc0,Y.lp',Y.sloc,Y.sloc0];refine qd2 (hkey.mono (by rintro _ _ ⟨rfl,rfl⟩;exact⟨rfl,rfl⟩)) ?_;rw[if_pos hop]at hR;subst hR;simp-dsimp[go_sem,hN,Y.len,Y.loc,Y.loc0,Y.lp',Y.sloc,Y.sloc0];exact⟨_,.refl _,K (keyX false a s').2,by simp[go_sem],hwk.app0 _,by simp[Y.len],Y.und' _,by simp[unk,V.nil,em],by simp⟩
  ·have hop:¬(e.op=22∨e.op=23∨e.op=24):=by omega
   rw[if_neg hop]at hR;simp-dsimp[go_sem,hN,Y.len,Y.loc,Y.loc0,Y.lp',Y.sloc,Y.sloc0];refine cnd ?_ ?_<;>intro h5<;>simp at h5
   ·rw[if_pos (by simpa using h5)]at hR;subst hR;simp-dsimp[go_sem,hN,Y.len,Y.loc,Y.loc0,Y.lp',Y.sloc,Y.sloc0];exact⟨_,.refl _,K s',by simp[go_sem],hwk.app0 _,by simp[Y.len],Y.und' _,by simp[unk,V.nil,em],by simp⟩
   ·rw[if_neg (by simpa using h5)]at hR;subst hR;simp-dsimp[go_sem,hN,Y.len,Y.loc,Y.loc0,Y.lp',Y.sloc,Y.sloc0];have hcall:=c_pr_apply (g:=g) (tT:=tT) (tx:=tx) e.op acc hlen2 hav (K s'++[.cells e.x,.cells [Bo false,I 0,I 0,S em],.arr 75 4 (acc.map AX.c)]) (Y.lg' _ _);obtain⟨⟨w,b⟩,hap⟩:∃R,apS qbc e.op (acc.map (·.v))=R:=⟨_,rfl⟩
    rw[hap]at hcall⊢;refine qaj hcall ?_;rintro r h' ⟨rfl,rfl⟩;simp-dsimp[go_sem,hN,Y.len,Y.loc,Y.loc0,Y.lp',Y.sloc,Y.sloc0];exact⟨_,.refl _,K s',by simp[go_sem],hwk.app0 _,by simp[Y.len],Y.und' _,by simp,by simp⟩
termination_by SizeOf.sizeOf e
end Go.Proofs.YtilhejdbiionhaaGreatDoor

set_option maxRecDepth 4000
set_option maxHeartbeats 4000000
namespace Go.Proofs.YtilhejdbiionhaaGreatDoor
open Go Go.Abs Go.Cw
attribute [local go_sem] AX.c
variable {tT:TypeId} {tx:Nat×Nat} {g p ir iw:Nat}
def StSpec(tT:TypeId)(tx:Nat×Nat)(g p ir iw:Nat)(t:St):Prop:=∀{K:XS→qab} {n0:Nat} (Y:PHs tT tx g p ir iw K n0) (x:XS) {i:Nat} {f:MV} {l:List (qac×AX)} (hV:VM K i f l) (hi:i<n0) (hF:rngF f),
  ACalls Tryz.prog 66 [.ptr p 0,.agg t.x,.mapr i] (K x) (ResX K n0 i (Cw.exSt qbc t f x) fun m=>m=nilM∨m=.mapr i)
def BlSpec(tT:TypeId)(tx:Nat×Nat)(g p ir iw:Nat)(l:List St):Prop:=∀{K:XS→qab} {n0:Nat} (Y:PHs tT tx g p ir iw K n0) (x:XS) {i:Nat} {f:MV} {lv:List (qac×AX)} (hV:VM K i f lv) (hi:i<n0) (hF:rngF f),
  ACalls Tryz.prog 35 [.ptr p 0,.slice (l.map St.c),.mapr i] (K x) (ResX K n0 i (exBl qbc l f x) fun m=>m=nilM)
theorem c_pr_block(l:List St)(hS:∀t∈l,StSpec tT tx g p ir iw t)(hR:∀t∈l,rngS t):BlSpec tT tx g p ir iw l:=by
 intro K n0 Y x i f lv hV hi hF;refine qaz Tryz.func35 Tryz.ntmps35 rfl (by kernel_rfl) rfl fun E hN hh hu hb hb' hua=>?_;simp[go_sem]at hb;have hp:=Y.hp;obtain⟨R0,hR0⟩:∃R0,exBl qbc l f x=R0:=⟨_,rfl⟩
 rw[hR0];simp-dsimp[go_sem,hN];refine qap (α:=BA) l.length (fun n a=>BOk K n0 i a∧exBl qbc (l.drop n) a.f a.x=R0) (fun n a=>⟨[(0,.ptr p 0),(2,.mapr a.j),(12,.slice (l.map St.c)),(13,I l.length),(14,I n)],K a.x++a.L⟩) ⟨f,i,lv,x,[]⟩ ⟨⟨by simpa using hV,by simp;omega,by simp[hUnder],hF,.inl rfl⟩,by simpa using hR0⟩ ?_ ?_
 ·simp;exact Wk.mk (by simp[hh]) (by simp[go_sem]) (by simpa[Y.len]using Y.und x) (by simp[go_sem,Y.len];omega)
 rintro n ⟨f1,j,lv1,x1,L⟩ hn ⟨hB,hI⟩;obtain⟨hvm,hjl,hund,hrng,hfr⟩:=hB;dsimp only at hvm hjl hund hrng hfr hI⊢;have Y2:=Y.ext L hund;obtain⟨K2,hK2⟩:∃K2:XS→qab,K2=fun q=>K q++L:=⟨_,rfl⟩
 rw[←hK2]at Y2 hvm;have hKq:∀q,K q++L=K2 q:=fun q=>by rw[hK2]
 simp only[hKq];have hw:=qa2 hn (show l.length≤68719476736 by omega);simp-dsimp[go_sem,hN];refine cnd ?_ ?_<;>intro hc<;>simp at hc
 ·rw[qaf hc,exBl]at hI;obtain⟨⟨o,x2⟩,hx⟩:∃R,Cw.exSt qbc l[n] f1 x1=R:=⟨_,rfl⟩
  have hr2:=exSt_rng (fmt:=qbc) qcp l[n] f1 x1 (hR _ (List.getElem_mem hc)) hrng;rw[hx]at hI hr2;simp-dsimp[go_sem,hN,hc,Y2.len,St.c_eq];have hcall:=hS l[n] (List.getElem_mem hc) (Y2.ext [.cells l[n].x] (by simp[hUnder,AObj.under,AV.under,qao])) x1 (i:=j) (f:=f1) (l:=lv1) (hvm.ext Y2.len hjl _) (by simp;omega) hrng;rw[hx]at hcall;refine qaj hcall ?_;rintro r h' ⟨L3,rfl,hu3,h3⟩;have hu4:hUnder (n0+(L++(.cells l[n].x::L3)).length) (L++(.cells l[n].x::L3))=true :=
   qb6 hund (qb6 (A:=[.cells l[n].x]) (by simp[hUnder,AObj.under,AV.under,qao]) hu3)
  rcases h3 with⟨ho,m,rfl,hZ⟩|⟨f',j',lv',ho,rfl,hj',hV',hfr'⟩
  ·dsimp only at ho;subst ho;rcases hZ with rfl|rfl
   ·simp-dsimp[go_sem,hN];exact qbu Y (by simp[Y.len]) hu4 (by simp[hK2]) (.inl rfl) rfl hI.symm
   ·simp-dsimp[go_sem,hN];exact qbu Y (by simp[Y.len]) hu4 (by simp[hK2]) (.inl rfl) rfl hI.symm
  ·dsimp only at ho;subst ho;simp-dsimp[go_sem,hN,hw];refine⟨hc,⟨f',j',lv',x2,L++(.cells l[n].x::L3)⟩,⟨⟨?_,?_,hu4,hr2 f' rfl,by dsimp only;omega⟩,hI⟩,Wk.mk (by simp[hh,Y.len]) (by simp[hK2,hwk.refl]) (und_cat Y x2 hu4) ?_⟩
   ·rw[hK2]at hV';simpa using hV'
   ·simp at hj'⊢;omega
   ·simp at hj';simp[go_sem,Y.len];omega
 ·rw[List.drop_eq_nil_of_le (by omega),exBl]at hI;subst hI;simp-dsimp[go_sem,hN];exact qcw Y (by simp[Y.len]) hund (by simp[hK2]) (by rw[←hK2];exact hvm) hjl hfr rfl
end Go.Proofs.YtilhejdbiionhaaGreatDoor

set_option maxRecDepth 4000
set_option maxHeartbeats 4000000
namespace Go.Proofs.YtilhejdbiionhaaGreatDoor
open Go Go.Abs Go.Cw
attribute [local go_sem] AX.c
variable {tT:TypeId} {tx:Nat×Nat} {g p ir iw:Nat}
def cntR(t:St)(a b:Int)(f:MV)(x:XS):Option MV×XS :=
 if a<b∧((qb4 b a).2≠0∨t.max<(qb4 b a).1)then(none,x)else cntX (fun f x=>exBl qbc t.body f x) t.name (b - a).toNat a f x
theorem c_pr_counted(t:St)(hB:BlSpec tT tx g p ir iw t.body)(hR:∀s∈t.body,rngS s){K:XS→qab}{n0:Nat}(Y:PHs tT tx g p ir iw K n0)(x:XS){i:Nat}{f:MV}{lv:List (qac×AX)}(hV:VM K i f lv)(hi:i<n0)(hF:rngF f)(a b:Int)(ha:i64 a)(hb64:i64 b) :
  ACalls Tryz.prog 108 [.ptr p 0,.agg t.x,I a,I b,.mapr i] (K x) (ResX K n0 i (cntR t a b f x) fun m=>m=nilM):=by
 refine qaz Tryz.func108 Tryz.ntmps108 rfl (by kernel_rfl) rfl fun E hN hh hu hb hb' hua=>?_;have hp:=Y.hp;obtain⟨R0,hR0⟩:∃R0,cntR t a b f x=R0:=⟨_,rfl⟩
 rw[hR0];unfold cntR at hR0;simp-dsimp[go_sem,hN,Y.len,Y.loc,Y.loc0];refine qaa (c_num_Sub b a) ?_;obtain⟨⟨d,e⟩,hde⟩:∃R,qb4 b a=R:=⟨_,rfl⟩
 rw[hde]at hR0⊢;simp-dsimp[go_sem,hN,Y.len,Y.loc,Y.loc0]
 repeat refine⟨by grind,?_⟩
 refine cnd ?_ ?_<;>intro h1<;>simp at h1
 ·rw[if_pos (by simpa using h1)]at hR0;simp-dsimp[go_sem,hN,Y.len,Y.loc,Y.loc0];exact qbu Y (by simp[Y.len]) (M:=[.cells t.x]) (by simp[hUnder,AObj.under,AV.under,qao]) rfl (.inl rfl) rfl hR0.symm
 rw[if_neg (by simp;exact h1)]at hR0;have hub:hUnder (n0 + [AObj.cells t.x].length) [.cells t.x]=true:=by simp[hUnder,AObj.under,AV.under,qao]
 have Y1:=Y.ext [.cells t.x] hub;have hV1:=hV.ext Y.len hi [.cells t.x];obtain⟨K1,hK1⟩:∃K1:XS→qab,K1=fun q=>K q++[.cells t.x]:=⟨_,rfl⟩
 have hK1q:∀q,K q++[.cells t.x]=K1 q:=fun q=>by rw[hK1]
 rw[←hK1]at Y1 hV1;have hbx:∀q (l:qab),(K1 q++l)[n0]?=some (.cells t.x):=fun q l=>by rw[hK1];simp[Y.loc0]
 simp-dsimp[go_sem,hN];refine qap (α:=BA) (b - a).toNat (fun n y=>BOk K1 (n0+1) i y∧cntX (fun f x=>exBl qbc t.body f x) t.name ((b - a).toNat - n) (a+n) y.f y.x=R0) (fun n y=>⟨[(0,.ptr p 0),(3,I b),(4,.mapr y.j),(6,.ptr n0 0),(14,I (a+n))],K1 y.x++y.L⟩) ⟨f,i,lv,x,[]⟩ ⟨⟨by simpa using hV1,by simp;omega,by simp[hUnder],hF,.inl rfl⟩,by simpa using hR0⟩ ?_ ?_
 ·simp;exact Wk.mk (by simp[hh,←hK1q]) (by simp[←hK1q,hwk.refl]) (by simpa using und_cat Y1 x (M:=[]) (by simp[hUnder])) (by simp[go_sem,Y1.len];omega)
 rintro n ⟨f1,j,lv1,x1,L⟩ hn ⟨⟨hvm,hjl,hund,hrng,hfr⟩,hI⟩;dsimp only at hvm hjl hund hrng hfr hI⊢;have Y2:=Y1.ext L hund;obtain⟨K2,hK2⟩:∃K2:XS→qab,K2=fun q=>K1 q++L:=⟨_,rfl⟩
 have hbx2:∀q (l:qab),(K2 q++l)[n0]?=some (.cells t.x):=fun q l=>by rw[hK2];simp only[List.append_assoc];exact hbx q _
 rw[←hK2]at Y2 hvm;have hKq:∀q,K1 q++L=K2 q:=fun q=>by rw[hK2]
 simp only[hKq];simp-dsimp[go_sem,hN];have hUL:=qb6 hub hund;refine cnd ?_ ?_<;>intro hc<;>simp at hc
 rotate_left
 ·rw[show(b - a).toNat - n=0 by omega,cntX]at hI;subst hI;simp-dsimp[go_sem,hN];exact qcw Y (by simp[Y.len]) hUL (by simp[hK2,hK1]) (by rw[hK2,hK1]at hvm;simpa using hvm) (by simp at hjl⊢;omega) (by omega) rfl
 obtain⟨k,hk⟩:∃k,(b - a).toNat - n=k+1:=⟨(b - a).toNat - n - 1,by omega⟩
 rw[hk,cntX]at hI;have hi64:i64 (a+n):=⟨by have:=ha.1;omega,by have:=hb64.2;omega⟩
 have hw:IntKind.i64.wrap (a+n+1)=a+n+1:=wrapI (by have:=ha.1;omega) (by have:=hb64.2;omega);simp-dsimp[go_sem,hN,Y2.len];refine qaj (c_pr_clone lv1 hvm.nod (K2 x1) j (hvm.lm x1)) ?_;rintro r h' ⟨l',hperm,rfl,rfl⟩;simp-dsimp[go_sem,hN,Y2.len,Y2.loc,Y2.loc0,Y2.sloc,Y2.sloc0,hbx2];obtain⟨MO,hMO⟩:∃MO,AObj.map (kAV qc7 (qbr l' t.name (kn (vI (a+n)))))=MO:=⟨_,rfl⟩
 have hMu:∀n,MO.under n=true:=fun n=>by rw[←hMO];exact qds n _
 have hMO2:AObj.map (kAV qc7 (qbr l' t.name ⟨true,⟨1,a+n,⟨#[]⟩⟩⟩))=MO:=hMO;simp only[hMO2];have hu3:hUnder (n0+1+L.length + [MO].length) [MO]=true:=by simp[hUnder,hMu]
 have Y3:=Y2.ext [MO] hu3;have hV3:VM (fun q=>K2 q++[MO]) (n0+1+L.length) (updF f1 t.name (kn (vI (a+n)))) (qbr l' t.name (kn (vI (a+n)))):=VM.upd hperm hvm.nod hvm.get (fun q=>by
  show(K2 q++[MO])[_]?=_;rw[hMO];exact Y2.loc0 q [MO])
 have hrg:=hrng.upd (s:=t.name) (a:=kn (vI (a+n))) (rng_vI hi64);have hcall:=hB Y3 x1 hV3 (by simp) hrg;have hr2:=exBl_rng (fmt:=qbc) qcp t.body _ x1 hR hrg;obtain⟨⟨o,x2⟩,hx⟩:∃R,exBl qbc t.body (updF f1 t.name (kn (vI (a+n)))) x1=R:=⟨_,rfl⟩
 rw[hx]at hcall hr2 hI;refine qaj hcall ?_;rintro r h' ⟨L3,rfl,hu4,h3⟩;have huM:hUnder (n0+1+(L++(MO::L3)).length) (L++(MO::L3))=true:=qb6 hund (qb6 (A:=[MO]) hu3 hu4);have huA:=qb6 hub huM;rcases h3 with⟨ho,m,rfl,rfl⟩|⟨f',j',lv',ho,rfl,hj',hV',hfr'⟩
 ·dsimp only at ho;subst ho;simp-dsimp[go_sem,hN];exact qbu Y (by simp[Y.len]) huA (by simp[hK2,hK1]) (.inl rfl) rfl hI.symm
 ·dsimp only at ho;subst ho;have hfr2:j'=n0+1+L.length∨n0+1+L.length+1≤j':=by simpa using hfr'
  simp-dsimp[go_sem,hN,hw];refine⟨by omega,⟨f',j',lv',x2,L++(MO::L3)⟩,⟨⟨?_,?_,huM,hr2 f' rfl,by dsimp only;omega⟩,?_⟩,Wk.mk (by simp[hh,Y1.len,Y.len];omega) (by simp[hK2,hwk.refl]) (und_cat Y1 x2 huM) ?_⟩
  ·rw[hK2]at hV';simpa using hV'
  ·simp at hj'⊢;omega
  ·rw[show(b - a).toNat - (n+1)=k by omega,←Int.add_assoc];exact hI
  ·simp at hj';simp[go_sem,Y1.len,Int.add_assoc];omega
theorem c_pr_repeated(t:St)(hB:BlSpec tT tx g p ir iw t.body)(hR:∀s∈t.body,rngS s){K:XS→qab}{n0:Nat}(Y:PHs tT tx g p ir iw K n0)(x:XS){i:Nat}{f:MV}{lv:List (qac×AX)}(hV:VM K i f lv)(hi:i<n0)(hF:rngF f)(hmx:t.max≤1000) :
  ACalls Tryz.prog 109 [.ptr p 0,.agg t.x,.mapr i] (K x) (ResX K n0 i (repX (fun f x=>exBl qbc t.body f x) t.name t.max.toNat f x) fun m=>m=nilM):=by
 refine qaz Tryz.func109 Tryz.ntmps109 rfl (by kernel_rfl) rfl fun E hN hh hu hb hb' hua=>?_;have hp:=Y.hp;obtain⟨R0,hR0⟩:∃R0,repX (fun f x=>exBl qbc t.body f x) t.name t.max.toNat f x=R0:=⟨_,rfl⟩
 rw[hR0];simp-dsimp[go_sem,hN,Y.len,Y.loc,Y.loc0];have hub:hUnder (n0 + [AObj.cells t.x].length) [.cells t.x]=true:=by simp[hUnder,AObj.under,AV.under,qao]
 have Y1:=Y.ext [.cells t.x] hub;have hV1:=hV.ext Y.len hi [.cells t.x];obtain⟨K1,hK1⟩:∃K1:XS→qab,K1=fun q=>K q++[.cells t.x]:=⟨_,rfl⟩
 have hK1q:∀q,K q++[.cells t.x]=K1 q:=fun q=>by rw[hK1]
 rw[←hK1]at Y1 hV1;have hbx:∀q (l:qab),(K1 q++l)[n0]?=some (.cells t.x):=fun q l=>by rw[hK1];simp[Y.loc0]
 refine qap (α:=BA) t.max.toNat (fun n y=>BOk K1 (n0+1) i y∧repX (fun f x=>exBl qbc t.body f x) t.name (t.max.toNat - n) y.f y.x=R0) (fun n y=>⟨[(0,.ptr p 0),(2,.mapr y.j),(4,.ptr n0 0),(12,I t.max),(13,I n)],K1 y.x++y.L⟩) ⟨f,i,lv,x,[]⟩ ⟨⟨by simpa using hV1,by simp;omega,by simp[hUnder],hF,.inl rfl⟩,by simpa using hR0⟩ ?_ ?_
 ·simp;exact Wk.mk (by simp[hh,←hK1q]) (by simp[←hK1q,hwk.refl]) (by simpa using und_cat Y1 x (M:=[]) (by simp[hUnder])) (by simp[go_sem,Y1.len];omega)
 rintro n ⟨f1,j,lv1,x1,L⟩ hn ⟨⟨hvm,hjl,hund,hrng,hfr⟩,hI⟩;dsimp only at hvm hjl hund hrng hfr hI⊢;have Y2:=Y1.ext L hund;obtain⟨K2,hK2⟩:∃K2:XS→qab,K2=fun q=>K1 q++L:=⟨_,rfl⟩
 have hbx2:∀q (l:qab),(K2 q++l)[n0]?=some (.cells t.x):=fun q l=>by rw[hK2];simp only[List.append_assoc];exact hbx q _
 rw[←hK2]at Y2 hvm;have hKq:∀q,K1 q++L=K2 q:=fun q=>by rw[hK2]
 simp only[hKq];have hw:=qa2 hn (show t.max.toNat≤68719476736 by omega);simp-dsimp[go_sem,hN];have hUL:=qb6 hub hund;refine cnd ?_ ?_<;>intro hc<;>simp at hc
 rotate_left
 ·rw[show t.max.toNat - n=0 by omega,repX]at hI;subst hI;simp-dsimp[go_sem,hN];exact qcw Y (by simp[Y.len]) hUL (by simp[hK2,hK1]) (by rw[hK2,hK1]at hvm;simpa using hvm) (by simp at hjl⊢;omega) (by omega) rfl
 obtain⟨k,hk⟩:∃k,t.max.toNat - n=k+1:=⟨t.max.toNat - n - 1,by omega⟩
 rw[hk,repX]at hI;simp-dsimp[go_sem,hN,Y2.len];refine qaj (c_pr_clone lv1 hvm.nod (K2 x1) j (hvm.lm x1)) ?_;rintro r h' ⟨l',hperm,rfl,rfl⟩;simp-dsimp[go_sem,hN,Y2.len,Y2.loc,Y2.loc0,Y2.sloc,Y2.sloc0,hbx2];obtain⟨MO,hMO⟩:∃MO,AObj.map (kAV qc7 (qbr l' t.name unk))=MO:=⟨_,rfl⟩
 have hMu:∀n,MO.under n=true:=fun n=>by rw[←hMO];exact qds n _
 have hMO2:AObj.map (kAV qc7 (qbr l' t.name ⟨false,⟨0,0,⟨#[]⟩⟩⟩))=MO:=hMO;simp only[hMO2];have hu3:hUnder (n0+1+L.length + [MO].length) [MO]=true:=by simp[hUnder,hMu]
 have Y3:=Y2.ext [MO] hu3;have hV3:VM (fun q=>K2 q++[MO]) (n0+1+L.length) (updF f1 t.name unk) (qbr l' t.name unk):=VM.upd hperm hvm.nod hvm.get (fun q=>by
  show(K2 q++[MO])[_]?=_;rw[hMO];exact Y2.loc0 q [MO])
 have hrg:=hrng.upd (s:=t.name) (a:=unk) rng_unk;have hcall:=hB Y3 x1 hV3 (by simp) hrg;have hr2:=exBl_rng (fmt:=qbc) qcp t.body _ x1 hR hrg;obtain⟨⟨o,x2⟩,hx⟩:∃R,exBl qbc t.body (updF f1 t.name unk) x1=R:=⟨_,rfl⟩
 rw[hx]at hcall hr2 hI;dsimp only at hI;refine qaj hcall ?_;rintro r h' ⟨L3,rfl,hu4,h3⟩;have huM:hUnder (n0+1+(L++(MO::L3)).length) (L++(MO::L3))=true:=qb6 hund (qb6 (A:=[MO]) hu3 hu4);have huA:=qb6 hub huM;have hlp:=fun q l=>Y2.lp' q (MO::l);rcases h3 with⟨ho,m,rfl,rfl⟩|⟨f',j',lv',ho,rfl,hj',hV',hfr'⟩
 ·dsimp only at ho;subst ho;simp-dsimp[go_sem,hN,Y2.lp'];refine cnd (fun h1=>?_) (fun h1=>?_)
  ·rw[if_pos h1]at hI;simp-dsimp[go_sem,hN];exact qbu Y (by simp[Y.len]) huA (by simp[hK2,hK1]) (.inl rfl) rfl hI.symm
  ·rw[if_neg (by simp[h1])]at hI;simp-dsimp[go_sem,hN];refine qcw Y (by simp[Y.len]) huA (by simp[hK2,hK1]) (f:=f1) (l:=lv1) ?_ (by simp;omega) (by omega) hI.symm;have h4:=hvm.ext Y2.len hjl (MO::L3);rw[hK2,hK1]at h4;simpa using h4
 ·dsimp only at ho;subst ho;have hfr2:j'=n0+1+L.length∨n0+1+L.length+1≤j':=by simpa using hfr'
  have hjl':j'<n0+1+L.length+1+L3.length:=by simpa using hj'
  simp-dsimp[go_sem,hN,Y2.lp'];refine cnd (fun h1=>?_) (fun h1=>?_)
  ·rw[if_pos h1]at hI;simp-dsimp[go_sem,hN];exact qbu Y (by simp[Y.len]) huA (by simp[hK2,hK1]) (.inl rfl) rfl hI.symm
  ·rw[if_neg (by simp[h1])]at hI;simp-dsimp[go_sem,hN];have h4:=hvm.ext Y2.len hjl (MO::L3);have h5:VM (fun q=>K2 q++MO::L3) j' f' lv':=by simpa using hV'
   refine qaj (c_pr_join lv1 lv' hvm.nod (K2 x2++MO::L3) j j' (by omega) (h4.lm x2) (h5.lm x2)) ?_;rintro r h' ⟨l2,hperm2,rfl,rfl⟩;simp-dsimp[go_sem,hN,hw];have hu5:hUnder (n0+1+(L++(MO::L3)).length + [AObj.map (kAV qc7 l2)].length) [AObj.map (kAV qc7 l2)]=true:=by simp[hUnder,qds]
   have hu6:=qb6 huM hu5;refine⟨by omega,⟨joinF f1 f',n0+1+L.length+(L3.length+1),l2,x2,(L++(MO::L3))++[AObj.map (kAV qc7 l2)]⟩,⟨⟨?_,by simp;omega,hu6,hrng.join,by dsimp only;omega⟩,?_⟩,Wk.mk (by simp[hh,Y1.len,Y.len];omega) (by simp[hK2,hwk.refl]) (und_cat Y1 x2 hu6) ?_⟩
   ·refine VM.join hperm2 hvm.nod hvm.get hV'.get fun q=>?_;show(K1 q++((L++(MO::L3))++[AObj.map (kAV qc7 l2)]))[_]?=_;rw[←List.append_assoc,List.getElem?_append_right (by simp[Y1.len];omega)];simp[Y1.len,Nat.add_assoc]
   ·rw[show t.max.toNat - (n+1)=k by omega];exact hI
   ·simp[go_sem,Y1.len,Y2.len];omega
end Go.Proofs.YtilhejdbiionhaaGreatDoor

set_option maxRecDepth 4000
set_option maxHeartbeats 4000000
namespace Go.Proofs.YtilhejdbiionhaaGreatDoor
open Go Go.Abs Go.Cw
attribute [local go_sem] AX.c
variable {tT:TypeId} {tx:Nat×Nat} {g p ir iw:Nat}
def brR(t:St)(a:AX)(f:MV)(x:XS):Option MV×XS :=
 if a.known=true∧a.v.n=1 then exBl qbc t.body f x else if a.known=true then exBl qbc t.els f x else brX (exBl qbc t.body f x) fun x=>exBl qbc t.els f x
theorem c_pr_branch(t:St)(hB:BlSpec tT tx g p ir iw t.body)(hE:BlSpec tT tx g p ir iw t.els)(hRb:∀s∈t.body,rngS s)(hRe:∀s∈t.els,rngS s){K:XS→qab}{n0:Nat}(Y:PHs tT tx g p ir iw K n0)(x:XS){i:Nat}{f:MV}{lv:List (qac×AX)}(hV:VM K i f lv)(hi:i<n0)(hF:rngF f)(a:AX) :
  ACalls Tryz.prog 107 [.ptr p 0,.agg t.x,.agg a.c,.mapr i] (K x) (ResX K n0 i (brR t a f x) fun m=>m=nilM):=by
 refine qaz Tryz.func107 Tryz.ntmps107 rfl (by kernel_rfl) rfl fun E hN hh hu hb hb' hua=>?_;have hp:=Y.hp;obtain⟨R0,hR0⟩:∃R0,brR t a f x=R0:=⟨_,rfl⟩
 rw[hR0];unfold brR at hR0;simp-dsimp[go_sem,hN,Y.len,Y.loc,Y.loc0];have hub:hUnder (n0 + [AObj.cells t.x,.cells a.c].length) [.cells t.x,.cells a.c]=true:=by simp[hUnder,AObj.under,AV.under,qao,AX.c]
 have Y1:=Y.ext [.cells t.x,.cells a.c] hub;have hV1:=hV.ext Y.len hi [.cells t.x,.cells a.c]
 repeat refine⟨by grind,?_⟩
 refine cnd ?_ ?_<;>intro h1<;>simp at h1
 ·rw[if_pos h1]at hR0;simp-dsimp[go_sem,hN,Y.len,Y.loc,Y.loc0];have hcall:=hB Y1 x hV1 (by simp;omega) hF;rw[hR0]at hcall;refine qaj hcall ?_;intro r h' hres;obtain⟨L,rfl,hu,h3⟩:=hres;have hM:=qb6 hub hu;rcases h3 with⟨ho,m,rfl,rfl⟩|⟨f',j',lv',ho,rfl,hj',hV',hfr'⟩
  ·simp-dsimp[go_sem,hN,Y.len];exact qbu Y (by simp[Y.len]) hM (by simp[AX.c]) (.inl rfl) rfl (Prod.ext ho rfl)
  ·simp at hj' hfr';simp-dsimp[go_sem,hN,Y.len];exact qcw Y (by simp[Y.len]) hM (by simp[AX.c]) hV'.assoc (by simp;omega) (by omega) (Prod.ext ho rfl)
 rw[if_neg (by simp;exact h1)]at hR0;simp-dsimp[go_sem,hN,Y.len,Y.loc,Y.loc0];refine cnd (fun h2=>?_) (fun h2=>?_)
 ·rw[if_pos h2]at hR0;simp-dsimp[go_sem,hN,Y.len,Y.loc,Y.loc0];have hcall:=hE Y1 x hV1 (by simp;omega) hF;rw[hR0]at hcall;refine qaj hcall ?_;intro r h' hres;obtain⟨L,rfl,hu,h3⟩:=hres;have hM:=qb6 hub hu;rcases h3 with⟨ho,m,rfl,rfl⟩|⟨f',j',lv',ho,rfl,hj',hV',hfr'⟩
  ·simp-dsimp[go_sem,hN,Y.len];exact qbu Y (by simp[Y.len]) hM (by simp[AX.c]) (.inl rfl) rfl (Prod.ext ho rfl)
  ·simp at hj' hfr';simp-dsimp[go_sem,hN,Y.len];exact qcw Y (by simp[Y.len]) hM (by simp[AX.c]) hV'.assoc (by simp;omega) (by omega) (Prod.ext ho rfl)
 rw[if_neg (by simp[h2])]at hR0;simp-dsimp[go_sem,hN,Y.len,Y.loc,Y.loc0];obtain⟨T0,hT0⟩:∃T0:qab,T0=[.cells t.x,.cells a.c]:=⟨_,rfl⟩
 have hT0l:T0.length=2:=by rw[hT0];rfl
 rw[←hT0]at hub Y1 hV1;obtain⟨K1,hK1⟩:∃K1:XS→qab,K1=fun q=>K q++T0:=⟨_,rfl⟩
 have hK1q:∀q,K q++[.cells t.x,.cells [Bo a.known,I a.v.k,I a.v.n,S a.v.s]]=K1 q:=fun q=>by rw[hK1,hT0];rfl
 rw[←hK1,hT0l]at Y1;rw[←hK1]at hV1;have hbx:∀q (l:qab),(K1 q++l)[n0]?=some (.cells t.x):=fun q l=>by rw[hK1,hT0];simp[Y.loc0]
 have hbx0:∀q (h:n0<(K1 q).length),(K1 q)[n0]=.cells t.x:=fun q h=>by
  have:=hbx q [];rw[List.append_nil,List.getElem?_eq_getElem h]at this;exact Option.some.inj this
 simp only[hK1q];refine awp_drawCC 10 4 [0,1,2] mixed (by kernel_rfl) ?_;simp-dsimp[go_sem,hN,Y1.len,Y1.loc,Y1.loc0,hbx,hbx0];refine qaj (c_pr_clone lv hV.nod (K1 x) i (hV1.lm x)) ?_;rintro r h' ⟨l',hperm,rfl,rfl⟩;simp-dsimp[go_sem,hN,Y1.len,Y1.loc,Y1.loc0,hbx,hbx0];obtain⟨M1,hM1⟩:∃M1,AObj.map (kAV qc7 l')=M1:=⟨_,rfl⟩
 have hMu1:∀n,M1.under n=true:=fun n=>by rw[←hM1];exact qds n _
 simp only[hM1];have hu1:hUnder (n0+2 + [M1].length) [M1]=true:=by simp[hUnder,hMu1]
 have Y2:=Y1.ext [M1] hu1;have hV2:VM (fun q=>K1 q++[M1]) (n0+2) f l':=⟨fun q=>by
  show(K1 q++[M1])[_]?=_;rw[hM1];exact Y1.loc0 q [M1],(hperm.map _).nodup_iff.2 hV.nod,fun k=>by rw[kGet_perm hperm hV.nod,hV.get]⟩
 have hcall:=hB Y2 x hV2 (by simp) hF;have hr1:=exBl_rng (fmt:=qbc) qcp t.body f x hRb hF;obtain⟨⟨o1,x1⟩,hx1⟩:∃R,exBl qbc t.body f x=R:=⟨_,rfl⟩
 rw[hx1]at hcall hr1 hR0;refine qaj hcall ?_;rintro r h' ⟨L1,rfl,hu2,h3⟩;have huA:hUnder (n0+2+(M1::L1).length) (M1::L1)=true:=qb6 (A:=[M1]) hu1 hu2;have huA':hUnder (n0+(T0++(M1::L1)).length) (T0++(M1::L1))=true:=qb6 hub (by rw[hT0l];exact huA);have Y3:=Y1.ext (M1::L1) huA;have hl1:(M1::L1).length=L1.length+1:=rfl;have hV3:=hV1.ext Y1.len (by omega) (M1::L1);obtain⟨K2,hK2⟩:∃K2:XS→qab,K2=fun q=>K1 q++(M1::L1):=⟨_,rfl⟩
 have hK2q:∀q,K1 q++(M1::L1)=K2 q:=fun q=>by rw[hK2]
 rw[←hK2]at Y3 hV3;have hbx2:∀q (l:qab),(K2 q++l)[n0]?=some (.cells t.x):=fun q l=>by rw[hK2];simp only[List.append_assoc];exact hbx q _
 have hbx4:∀q,(K2 q)[n0]?=some (.cells t.x):=fun q=>by simpa using hbx2 q []
 have hbx3:∀q (h:n0<(K2 q).length),(K2 q)[n0]=.cells t.x:=fun q h=>by
  have:=hbx2 q [];rw[List.append_nil,List.getElem?_eq_getElem h]at this;exact Option.some.inj this
 rw[hl1]at Y3;have hlp0:∀q (h:p<(K2 q).length),(K2 q)[p]=.cells (xC ir iw q.f):=fun q h=>by
  have:=Y3.lp q;rw[List.getElem?_eq_getElem h]at this;exact Option.some.inj this
 rcases h3 with⟨ho,m,rfl,rfl⟩|⟨f1,j1,lv1,ho,rfl,hj1,hVr1,hfr1⟩
 ·dsimp only at ho;subst ho;simp-dsimp[go_sem,hN,Y1.len,Y1.loc,Y1.loc0,hbx,hbx0,hK2q,hlp0,Y3.lp];refine cnd (fun h4=>?_) (fun h4=>?_)
  ·have hR2:R0=(none,x1):=by rw[←hR0,brX,if_pos h4]
   simp-dsimp[go_sem,hN,Y3.len];exact qbu Y (by simp[Y.len]) huA' (by simp[hK2,hK1]) (.inl rfl) rfl hR2
  simp-dsimp[go_sem,hN,Y3.len,hbx3,hbx4];refine awp_drawCC 10 4 [0,1,2] mixed (by kernel_rfl) ?_;simp-dsimp[go_sem,hN,Y3.len,Y3.loc,Y3.loc0,hbx2,hbx3,hbx4];refine qaj (c_pr_clone lv hV.nod (K2 x1) i (hV3.lm x1)) ?_;rintro r h' ⟨l'',hperm',rfl,rfl⟩;simp-dsimp[go_sem,hN,Y3.len,Y3.loc,Y3.loc0,hbx2,hbx3,hbx4];obtain⟨M2,hM2⟩:∃M2,AObj.map (kAV qc7 l'')=M2:=⟨_,rfl⟩
  have hMu2:∀n,M2.under n=true:=fun n=>by rw[←hM2];exact qds n _
  simp only[hM2];have hu3:hUnder (n0+2+(L1.length+1) + [M2].length) [M2]=true:=by simp[hUnder,hMu2]
  have Y4:=Y3.ext [M2] hu3;have hV4:VM (fun q=>K2 q++[M2]) (n0+2+(L1.length+1)) f l'':=⟨fun q=>by
   show(K2 q++[M2])[_]?=_;rw[hM2];exact Y3.loc0 q [M2],(hperm'.map _).nodup_iff.2 hV.nod,fun k=>by rw[kGet_perm hperm' hV.nod,hV.get]⟩
  have hcall2:=hE Y4 x1 hV4 (by simp) hF;obtain⟨⟨o2,x2⟩,hx2⟩:∃R,exBl qbc t.els f x1=R:=⟨_,rfl⟩
  have hR1:R0=if x2.f=true then(none,x2)else(match (none:Option MV),o2 with
   |none,o=>o
   |some f,none=>some f
   |some f,some g=>some (joinF f g),x2):=by
   rw[←hR0,brX,if_neg (by simp[h4])];dsimp only;rw[hx2]
   all_goals rfl
  rw[hx2]at hcall2;refine qaj hcall2 ?_;rintro r h' ⟨L2,rfl,hu4,h5⟩;have huB:hUnder (n0+((T0++(M1::L1))++(M2::L2)).length) ((T0++(M1::L1))++(M2::L2))=true:=qb6 huA' (by
   have:=qb6 (A:=[M2]) hu3 hu4;simp[hT0l]at this⊢;simpa[Nat.add_assoc]using this)
  have hlp2:∀q,(K2 q++M2::L2)[p]?=some (.cells (xC ir iw q.f)):=fun q=>Y3.lp' q _;rcases h5 with⟨ho,m,rfl,rfl⟩|⟨f2,j2,lv2,ho,rfl,hj2,hVr2,hfr2⟩
  ·dsimp only at ho;subst ho;cases h6:x2.f with
   |true =>
    have hR2:R0=(none,x2):=by rw[hR1,if_pos h6]
    simp-dsimp[go_sem,hN,Y3.len,hlp2,h6];exact qbu Y (by simp[Y.len]) huB (by simp[hK2,hK1]) (.inl rfl) rfl hR2
   |false =>
    have hR2:R0=(none,x2):=by rw[hR1,if_neg (by simp[h6])]
    simp-dsimp[go_sem,hN,Y3.len,hlp2,h6]
    try simp-dsimp[go_sem,hN,Y3.len]
    exact qbu Y (by simp[Y.len]) huB (by simp[hK2,hK1]) (.inl rfl) rfl hR2
  ·dsimp only at ho;subst ho;have hfr2':j2=n0+2+(L1.length+1)∨n0+2+(L1.length+1)+1≤j2:=by simpa using hfr2
   have hjl2:j2<n0+2+(L1.length+1)+1+L2.length:=by simpa using hj2
   have hX2:VM (fun q=>K2 q++M2::L2) j2 f2 lv2:=by simpa using hVr2
   have hW2:VM (fun q=>K q++((T0++(M1::L1))++(M2::L2))) j2 f2 lv2:=by
    rw[hK2,hK1]at hX2;simpa using hX2
   cases h6:x2.f with
   |true =>
    have hR2:R0=(none,x2):=by rw[hR1,if_pos h6]
    simp-dsimp[go_sem,hN,Y3.len,hlp2,h6];exact qbu Y (by simp[Y.len]) huB (by simp[hK2,hK1]) (.inl rfl) rfl hR2
   |false =>
    have hR2:R0=(some f2,x2):=by rw[hR1,if_neg (by simp[h6])]
    simp-dsimp[go_sem,hN,Y3.len,hlp2,h6]
    try simp-dsimp[go_sem,hN,Y3.len]
    exact qcw Y (by simp[Y.len]) huB (by simp[hK2,hK1]) hW2 (by simp[hT0l];omega) (by omega) hR2
 ·dsimp only at ho;subst ho;have hfr1':j1=n0+2∨n0+2+1≤j1:=by simpa using hfr1
  have hjl1:j1<n0+2+1+L1.length:=by simpa using hj1
  have hX0:VM K2 j1 f1 lv1:=by
   rw[hK2];simpa using hVr1
  simp-dsimp[go_sem,hN,Y1.len,Y1.loc,Y1.loc0,hbx,hbx0,hK2q,hlp0,Y3.lp];refine cnd (fun h4=>?_) (fun h4=>?_)
  ·have hR2:R0=(none,x1):=by rw[←hR0,brX,if_pos h4]
   simp-dsimp[go_sem,hN,Y3.len];exact qbu Y (by simp[Y.len]) huA' (by simp[hK2,hK1]) (.inl rfl) rfl hR2
  simp-dsimp[go_sem,hN,Y3.len,hbx3,hbx4];refine awp_drawCC 10 4 [0,1,2] mixed (by kernel_rfl) ?_;simp-dsimp[go_sem,hN,Y3.len,Y3.loc,Y3.loc0,hbx2,hbx3,hbx4];refine qaj (c_pr_clone lv hV.nod (K2 x1) i (hV3.lm x1)) ?_;rintro r h' ⟨l'',hperm',rfl,rfl⟩;simp-dsimp[go_sem,hN,Y3.len,Y3.loc,Y3.loc0,hbx2,hbx3,hbx4];obtain⟨M2,hM2⟩:∃M2,AObj.map (kAV qc7 l'')=M2:=⟨_,rfl⟩
  have hMu2:∀n,M2.under n=true:=fun n=>by rw[←hM2];exact qds n _
  simp only[hM2];have hu3:hUnder (n0+2+(L1.length+1) + [M2].length) [M2]=true:=by simp[hUnder,hMu2]
  have Y4:=Y3.ext [M2] hu3;have hV4:VM (fun q=>K2 q++[M2]) (n0+2+(L1.length+1)) f l'':=⟨fun q=>by
   show(K2 q++[M2])[_]?=_;rw[hM2];exact Y3.loc0 q [M2],(hperm'.map _).nodup_iff.2 hV.nod,fun k=>by rw[kGet_perm hperm' hV.nod,hV.get]⟩
  have hcall2:=hE Y4 x1 hV4 (by simp) hF;obtain⟨⟨o2,x2⟩,hx2⟩:∃R,exBl qbc t.els f x1=R:=⟨_,rfl⟩
  have hR1:R0=if x2.f=true then(none,x2)else(match (some f1:Option MV),o2 with
   |none,o=>o
   |some f,none=>some f
   |some f,some g=>some (joinF f g),x2):=by
   rw[←hR0,brX,if_neg (by simp[h4])];dsimp only;rw[hx2]
   all_goals rfl
  rw[hx2]at hcall2;refine qaj hcall2 ?_;rintro r h' ⟨L2,rfl,hu4,h5⟩;have huB:hUnder (n0+((T0++(M1::L1))++(M2::L2)).length) ((T0++(M1::L1))++(M2::L2))=true:=qb6 huA' (by
   have:=qb6 (A:=[M2]) hu3 hu4;simp[hT0l]at this⊢;simpa[Nat.add_assoc]using this)
  have hlp2:∀q,(K2 q++M2::L2)[p]?=some (.cells (xC ir iw q.f)):=fun q=>Y3.lp' q _;have hX1:=hX0.ext Y3.len (by omega) (M2::L2);have hW1:VM (fun q=>K q++((T0++(M1::L1))++(M2::L2))) j1 f1 lv1:=by
   rw[hK2,hK1]at hX1;simpa using hX1
  rcases h5 with⟨ho,m,rfl,rfl⟩|⟨f2,j2,lv2,ho,rfl,hj2,hVr2,hfr2⟩
  ·dsimp only at ho;subst ho;cases h6:x2.f with
   |true =>
    have hR2:R0=(none,x2):=by rw[hR1,if_pos h6]
    simp-dsimp[go_sem,hN,Y3.len,hlp2,h6];exact qbu Y (by simp[Y.len]) huB (by simp[hK2,hK1]) (.inl rfl) rfl hR2
   |false =>
    have hR2:R0=(some f1,x2):=by rw[hR1,if_neg (by simp[h6])]
    simp-dsimp[go_sem,hN,Y3.len,hlp2,h6]
    try simp-dsimp[go_sem,hN,Y3.len]
    exact qcw Y (by simp[Y.len]) huB (by simp[hK2,hK1]) (f:=f1) (l:=lv1) hW1 (by simp[hT0l];omega) (by omega) hR2
  ·dsimp only at ho;subst ho;have hfr2':j2=n0+2+(L1.length+1)∨n0+2+(L1.length+1)+1≤j2:=by simpa using hfr2
   have hjl2:j2<n0+2+(L1.length+1)+1+L2.length:=by simpa using hj2
   have hX2:VM (fun q=>K2 q++M2::L2) j2 f2 lv2:=by simpa using hVr2
   have hW2:VM (fun q=>K q++((T0++(M1::L1))++(M2::L2))) j2 f2 lv2:=by
    rw[hK2,hK1]at hX2;simpa using hX2
   cases h6:x2.f with
   |true =>
    have hR2:R0=(none,x2):=by rw[hR1,if_pos h6]
    simp-dsimp[go_sem,hN,Y3.len,hlp2,h6];exact qbu Y (by simp[Y.len]) huB (by simp[hK2,hK1]) (.inl rfl) rfl hR2
   |false =>
    have hR2:R0=(some (joinF f1 f2),x2):=by rw[hR1,if_neg (by simp[h6])]
    simp-dsimp[go_sem,hN,Y3.len,hlp2,h6]
    try simp-dsimp[go_sem,hN,Y3.len]
    refine qaj (c_pr_join lv1 lv2 hVr1.nod (K2 x2++M2::L2) j1 j2 (by omega) (hX1.lm x2) (hX2.lm x2)) ?_;rintro r h' ⟨l2,hperm2,rfl,rfl⟩;simp-dsimp[go_sem,hN,Y3.len];have hu5:hUnder (n0+((T0++(M1::L1))++(M2::L2)).length + [AObj.map (kAV qc7 l2)].length) [AObj.map (kAV qc7 l2)]=true:=by simp[hUnder,qds]
    have hu6:=qb6 huB hu5;refine qcw Y (by simp[Y.len]) hu6 (by simp[hK2,hK1]) (f:=joinF f1 f2) (l:=l2) ?_ (by simp[hT0l];omega) (by omega) hR2;refine VM.join hperm2 hVr1.nod hVr1.get hVr2.get fun q=>?_;show(K q++(((T0++(M1::L1))++(M2::L2))++[AObj.map (kAV qc7 l2)]))[_]?=_;rw[←List.append_assoc,List.getElem?_append_right (by simp[Y.len,hT0l];omega)];rw[show ∀(z:AObj) (k:Nat),k=0→[z][k]?=some z from fun z k e=>by subst e;rfl];simp[Y.len,hT0l];omega
end Go.Proofs.YtilhejdbiionhaaGreatDoor
