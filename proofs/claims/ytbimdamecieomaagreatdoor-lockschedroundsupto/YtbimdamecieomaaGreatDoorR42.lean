/- Part 42 of a proof. -/
import Derived.Test.YtbimdamecieomaaGreatDoorProg
import Derived.Shelf.Slices.In.SortNone
import Derived.Shelf.Sort.Plain
import Derived.Shelf.Slices.CompactI
import Derived.Lib.SlicesCompact
import Derived.Test.YtbimdamecieomaaGreatDoorR19
import Derived.Test.YtbimdamecieomaaGreatDoorR41
set_option linter.all false
set_option maxRecDepth 4000
set_option maxHeartbeats 2000000
namespace Go.Proofs.YtbimdamecieomaaGreatDoor
open Go Go.Abs Go.Cw Tryz
section
theorem joi(x:Proc)(h:gz)(i:Nat)(t:Txn)(hi:h[i]?=some (.cells t.c)):ACalls prog 83 [.agg x.c,.ptr i 0] h fun r h'=>r=.ret (Bo (decide (x.name=t.proc)))∧h'=h:=by
 refine lw func83 ntmps83 rfl ac rfl fun E hN hh hu hb il kr=>?_;have ke:i<h.length:=(cq.1 hi).1;have a1:∀l,(h++l)[i]?=some (.cells t.c):=fun l=>by rw[cu ke];exact hi
 simp-dsimp[go_sem,hN,a1,hu,Txn.c];exact⟨_,.refl _,h,af,af,ae,aq,rfl,rfl⟩
theorem jcu(l:List Proc)(f:FuncId)(caps:List AV)(q:Proc→Bool)(h:gz)(hcn:kc h caps=caps)(hp:∀x:Proc,ACalls prog f ([.agg x.c]++caps) h fun r h'=>r=.ret (Bo (q x))∧h'=h) :
  ACalls prog 82 [.slice (l.map Proc.c),.fn (.func f) [] caps] h fun r h'=>r=.ret (I (ni q l))∧h'=h:=by
 refine lw func82 ntmps82 rfl ac rfl fun E hN hh hu hb il kr=>?_;simp[go_sem]at hb;simp-dsimp[go_sem,hN];refine jl l.length (fun n=>pp q n (l.drop n)=ni q l) (fun n=>⟨[(0,.slice (l.map Proc.c)),(1,.fn (.func f) [] caps),(7,I l.length),(8,I n)],h⟩) qid (Wk.mk bi ae qje qfp) ?_;intro n hn hI;have hw:=iv hn hb.1;simp-dsimp[go_sem,hN];refine gy ?_ ?_<;>intro hc<;>simp at hc
 ·rw[ji hc,pp]at hI;simp-dsimp[go_sem,hN,hc,hcn];refine it (hp l[n]) ?_;rintro r h' ⟨rfl,rfl⟩;simp-dsimp[go_sem,hN];refine gy ?_ ?_<;>intro hg<;>try simp at hg
  ·simp-dsimp[go_sem,hN];rw[if_pos hg]at hI;rw[hI];exact⟨_,.refl _,h',af,af,ae,aq,rfl,rfl⟩
  ·simp-dsimp[go_sem,hN,hw];exact⟨hc,br,Wk.mk bi ae qje qfp⟩
 ·rw[cv aa,pp]at hI;simp-dsimp[go_sem,hN,←hI];exact⟨_,.refl _,h,af,af,ae,aq,rfl,rfl⟩
theorem xq8{α:Type}(q:α→Bool):∀(l:List α) (n:Nat),(pp q n l = -1∧l.find? q=none)∨∃(m:Nat) (hm:m<l.length),pp q n l=((n+m:Nat):Int)∧l.find? q=some l[m]
 | [],n=>.inl ⟨by rw[pp],rfl⟩
 |x::l,n=>by
  rw[pp];by_cases h:q x=true
  ·right;exact⟨0,ae,co,co⟩
  ·rw[if_neg h];rcases xq8 q l (n+1)with⟨h1,h2⟩|⟨m,hm,h1,h2⟩
   ·exact .inl ⟨h1,by simp[h,h2]⟩
   ·refine .inr ⟨m+1,am,?_,?_⟩
    ·rw[h1];congr 1;omega
    ·simp[h,h2]
theorem jmz{α:Type}(q:α→Bool)(l:List α):(ni q l = -1∧l.find? q=none)∨∃(m:Nat) (hm:m<l.length),ni q l=(m:Int)∧l.find? q=some l[m]:=by
 have:=xq8 q l 0;simpa[ni]using this
def qxb:Proc:=⟨em,[],[]⟩
theorem jdu(procs:List Proc)(t:Txn):APure prog 50 [.slice (procs.map Proc.c),.agg t.c] (.tuple [.agg ((qqa procs t).getD qxb).c,Bo (qqa procs t).isSome]):=by
 refine ik func50 ntmps50 rfl ac rfl rfl fun E h hN hh hu hb=>?_;simp[go_sem]at hb;obtain⟨R,hR⟩:∃R,qqa procs t=R:=⟨_,rfl⟩
 rw[hR];unfold qqa qvv at hR;simp-dsimp[go_sem,hN];refine it (jcu procs _ _ (fun x=>decide (x.name=t.proc)) _ qi6 (fun x=>joi x _ _ t (by simp[Txn.c]))) ?_;rintro r h' ⟨rfl,rfl⟩;rcases jmz (fun x:Proc=>decide (x.name=t.proc)) procs with⟨h1,h2⟩|⟨m,hm,h1,h2⟩
 ·rw[h2]at hR;simp only at hR;subst hR;rw[h1];simp-dsimp[go_sem,hN];refine kf 9 mixed ac ac ?_;simp-dsimp[go_sem,hN];refine qdx ?_;simp-dsimp[go_sem,hN,qxb]
 ·rw[h2]at hR;simp only at hR;rw[h1];simp-dsimp[go_sem,hN];refine kf 9 mixed ac ac ?_;simp-dsimp[go_sem,hN,hm,Txn.c];refine ka (xoj procs[m] t.args) ae ?_;simp-dsimp[go_sem,hN];refine gy ?_ ?_<;>intro h3<;>simp at h3
  ·rw[if_neg aa]at hR;subst hR;simp-dsimp[go_sem,hN,qxb]
  ·rw[if_pos aa]at hR;subst hR;simp-dsimp[go_sem,hN,hm]
variable {tT:TypeId} {tx:Nat×Nat} {g:Nat}
theorem xr5(procs:List Proc)(s:List Pr)(t:Txn)(h:gz)(hg:h[g]?=some (uu tT tx))(hI:∀p,qqa procs t=some p→RunIn jh p t.args s)(hL:s.length≤60000000000) :
  ACalls prog 24 [.slice (procs.map Proc.c),.slice (s.map Pr.c),.agg t.c] h fun r h'=>r=.ret (.tuple [.slice ((ov jh procs s t).1.map Pr.c),.agg (ov jh procs s t).2.c])∧h'=h:=by
 refine lw func24 ntmps24 rfl ac rfl fun E hN hh hu hb il kr=>?_;have x8:g<h.length:=(cq.1 hg).1;have jf:∀l:gz,(h++l)[g]?=some (uu tT tx):=fun l=>by rw[cu x8];exact hg
 simp[go_sem]at hb;obtain⟨R,hR⟩:∃R,ov jh procs s t=R:=⟨_,rfl⟩
 rw[hR];unfold ov at hR;simp-dsimp[go_sem,hN,Txn.c];refine ia (jdu procs t) ?_;rcases hF:qqa procs t with _|p
 ·rw[hF]at hR;simp only at hR;subst hR;simp-dsimp[go_sem,hN,qxb];refine ia (xxa s) ?_;simp-dsimp[go_sem,hN,u4];exact⟨_,.refl _,h,af,hwk.app0 _,ct _,hu,rfl,rfl⟩
 ·rw[hF]at hR;simp only at hR;have qyw:=hI p hF;have mq:=fun h=>xmj (fmt:=jh) (p:=p) (args:=t.args) (s:=s) (ft:=t.ft) h;have ox:=fun h=>(xcz (ft:=t.ft) qyw h).2.2;have hlw:=xiz (ft:=t.ft) qyw;have qpw:=fun H hH=>jno (g:=g) (tT:=tT) (tx:=tx) p t.args s t.ft H hH qyw;obtain⟨e,he⟩:∃e,mz jh p t.args s t.ft=e:=⟨_,rfl⟩
  rw[he]at hR mq ox hlw;simp only[he]at qpw;simp-dsimp[go_sem,hN];refine it (qpw _ (jf _)) ?_;rintro r h' ⟨rfl,rfl⟩;simp-dsimp[go_sem,hN];refine gy ?_ ?_<;>intro h0<;>simp at h0
  ·rw[if_pos h0]at hR;subst hR;have hA:=jlc s e.writes aa;rw[mq h0,ox h0]at hA;simp only[Bool.and_self,if_true]at hA;simp-dsimp[go_sem,hN];refine ia hA ?_;simp-dsimp[go_sem,hN];refine kf 3 mixed ac ac ?_;simp-dsimp[go_sem,hN];exact⟨_,.refl _,h,af,hwk.app0 _,ct _,hu,rfl,rfl⟩
  ·rw[if_neg h0]at hR;subst hR;simp-dsimp[go_sem,hN];refine kf 4 mixed ac ac ?_;simp-dsimp[go_sem,hN];refine ku (xxa s) ae ?_;simp-dsimp[go_sem,hN];exact⟨_,.refl _,h,af,hwk.app0 _,ct _,hu,rfl,rfl⟩
end
section
theorem jb1{tT:TypeId}{tx:Nat×Nat}{g:Nat}{f:FuncId}{args:List AV}{r:AV}{h:gz}(H:∀h,h[g]?=some (uu tT tx)→ACalls prog f args h fun e h'=>e=.ret r∧h'=h)(hg:h[g]?=some (uu tT tx)):xbf prog f args r h:=fun h' hs=>H h' (hs g _ rfl hg)
variable {tT:TypeId} {tx:Nat×Nat} {g:Nat}
abbrev lsH(h:gz)(procs:List Proc)(l:List Txn)(T:LT)(s:List Pr)(Es:List Eff)(O:List Int):gz :=
 h++[.cells [.slice (procs.map Proc.c)],.cells [.slice (l.map Txn.c)],.cells T.c,.none,.cells [.slice (s.map Pr.c)],.uarr 63 8 (Es.map Eff.c),.cells [.own (h.length+5) Es.length],.cells [.own (h.length+8) O.length],.arr 3 1 (O.map iw)]
theorem jia(procs:List Proc)(s:List Pr)(l:List Txn)(j:Nat)(T:LT)(Es:List Eff)(O:List Int)(h:gz)(hg:h[g]?=some (uu tT tx))(hj:j<l.length)(hje:j<Es.length)
  (hI:∀p,qqa procs l[j]=some p→RunIn jh p l[j].args s) (hL:s.length≤60000000000) (hO:O.length<68719476736) (hv:zf T=true) (hix:0≤ni (r6 (j:Int)) T.glob) (hl:T.glob.length<68719476736) (hq:T.qs.length<68719476736) (hr:∀x∈T.qs,x.reqs.length<68719476736) :
  ACalls prog 23 [I j,.ptr h.length 0,.ptr (h.length+4) 0,.ptr (h.length+1) 0,.ptr (h.length+6) 0,.ptr (h.length+2) 0,.ptr (h.length+7) 0] (lsH h procs l T s Es O) fun r h'=>r=.ret (.tuple [])∧h'=lsH h procs l (qtf j T) (ov jh procs s l[j]).1 (Es.set j (ov jh procs s l[j]).2) (O++[(j:Int)]):=by
 refine lw func23 ntmps23 rfl ac rfl fun E hN hh hu hb il kr=>?_;have x8:g<h.length:=(cq.1 hg).1;have jf:∀l:gz,(h++l)[g]?=some (uu tT tx):=fun l=>by rw[cu x8];exact hg
 have m7:=fun H hH=>xr5 (g:=g) (tT:=tT) (tx:=tx) procs s l[j] H hH hI hL;have jz:=jj4 T j hv hix hl hq hr;obtain⟨R,hR⟩:∃R,ov jh procs s l[j]=R:=⟨_,rfl⟩
 simp only[hR]at m7⊢;obtain⟨gl,qs⟩:=T;have hes:(Es.map Eff.c).set j [I R.2.status,I R.2.code,.slice (R.2.out.map V.c),.slice (R.2.reads.map im),.slice (R.2.puts.map im),.slice (R.2.writes.map Pr.c),S R.2.miss,I R.2.steps]=(Es.set j R.2).map Eff.c:=by rw[List.map_set];rfl
 simp-dsimp[go_sem,hN,LT.c];refine tk 13 mixed ac ?_;simp-dsimp[go_sem,hN,hj,Txn.c];refine xxw (fun _=>jb1 (fun h hg=>m7 h hg) (jf _)) ae ?_;simp-dsimp[go_sem,hN,hj,hje,Txn.c,Eff.c,LT.c];refine⟨by simp[pm,List.zipIdx];kernel_rfl,?_⟩;refine ia jz ?_;simp-dsimp[go_sem,hN,LT.c,hO];have hu0:hUnder (h.length+9) h=true:=by
  have:=hu;simp[lsH,go_sem,hUnder,tn]at this;exact this.1
 refine⟨aa,_,.refl _,_,af,?_,ae,?_,rfl,rfl⟩
 ·simp only[lsH,LT.c,cz,List.length_set,Go.f8,dz,←hes];exact hwk.refl _
 ·simp[lsH,LT.c,go_sem,hu0,hUnder,tn]
end
end Go.Proofs.YtbimdamecieomaaGreatDoor
set_option maxRecDepth 8000
namespace Go.Proofs.YtbimdamecieomaaGreatDoor
open Go Go.Abs Go.Shelf Go.Lib Tryz
def xoy:Ren:=⟨fun
 | 125=>143| 128=>184| 129=>185| 189=>104| 215=>223| 216=>181| 257=>142| 294=>175| 295=>176
 | 296=>177| 297=>178| 298=>179| 299=>180| 300=>182| 301=>183| 328=>218
 | 329=>219| 330=>220| 331=>221| 332=>222| 343=>270|x=>x,
 fun| 0=>0| 3=>3| 4=>4| 5=>5| 9=>9| 28=>27| 46=>167| 51=>218| 53=>220| 131=>123| 182=>210| 183=>211| 218=>256| 222=>260| 228=>294| 229=>295|x=>x,fun x=>x⟩
theorem jco:Lays.n189 prog xoy:=by
 constructor<;>first|exact fun _=>by kernel_rfl|kernel_rfl
def xuk:Ren:=⟨fun| 20=>105|x=>x,fun| 0=>0| 3=>3| 4=>4| 22=>27|x=>x,fun x=>x⟩
theorem jdq:Lays2.n20 prog xuk:=by
 constructor<;>first|exact fun _=>by kernel_rfl|kernel_rfl
end Go.Proofs.YtbimdamecieomaaGreatDoor
set_option maxRecDepth 4000
namespace Go.Proofs.YtbimdamecieomaaGreatDoor
open Go Go.Abs Go.Cw Tryz
abbrev xcm(l:List Int):List Int:=l.mergeSort fun x y=>decide (x≤y)
theorem jbk{h:gz}{i:Nat}{l:List Int}(hi:h[i]?=some (.uarr 3 1 (l.map iw))) :
  ACalls prog 104 [.own i l.length] h fun r h'=>r=.ret (.tuple [])∧h'=h.set i (.uarr 3 1 ((xcm l).map iw)) :=
 xz5 (ρ:=xoy) jco ⟨Tryz.f104,func104,ac,ac⟩ hi
theorem jcr{h:gz}{i n:Nat}{l:List Int}(hn:n=l.length)(hi:h[i]?=some (.uarr 3 1 (l.map iw))) :
  ACalls prog 105 [.own i n] h fun r h'=>r=.ret (.slice ((Lib.compact l).map iw))∧h'=h.set i (.arr 3 1 ((Lib.compact l++List.replicate (l.length - (Lib.compact l).length) 0).map iw)):=by
 subst hn;exact jjc (ρ:=xuk) jdq ⟨Tryz.f105,func105,ac,ac⟩ hi
def xeh(T:LT)(t:Int):List Int:=Lib.compact (xcm (pb T t))
theorem xzk(T:LT)(t:Int)(hl:T.glob.length+qa T.qs<68719476736):APure prog 54 [.agg T.c,I t] (.slice ((xeh T t).map iw)):=by
 refine qbn func54 rfl ac (by simp[ntmps54]) rfl ?_;intro E h hN hh hu hb;rw[ntmps54]at hN;simp[go_sem,LT.c]at hb;refine ln (ub ?_);simp[go_sem,hN,LT.c];refine ln (yf [_,_,_] _ ?_);simp[go_sem,hN];intro c a w s k;refine xql s k rfl rfl aa rfl af (x:=.own (h.length+1) (rh t T.glob).length) (h2:=h++[.cells [.slice (T.glob.map LReq.c),.slice (T.qs.map LQ.c)],.uarr 3 1 ((rh t T.glob).map iw)]) ?_ ?_
 ·have hc:=xtr 3 1 (h:=h++[.cells [.slice (T.glob.map LReq.c),.slice (T.qs.map LQ.c)]]) (xu9 (h++[AObj.cells [.slice (T.glob.map LReq.c),.slice (T.qs.map LQ.c)]]).length [] T.glob t (H:=h++[.cells [.slice (T.glob.map LReq.c),.slice (T.qs.map LQ.c)]]++[.uarr 3 1 []]) ae am);simpa[go_sem]using hc
 intro c' a' w' s' k';refine xf _ [_,_,_,_] _ rfl ?_ c' a' w' s' k';simp[go_sem,hN];apply na;simp-dsimp[go_sem,hN];obtain⟨F,hF⟩:∃F:Nat→List Int,F=fun n=>rh t T.glob++(T.qs.take n).flatMap fun q=>rh t q.reqs:=⟨_,rfl⟩
 have hF0:rh t T.glob=F 0:=qgm;have w6:∀n (hn:n<T.qs.length),F n++rh t T.qs[n].reqs=F (n+1):=fun n hn=>by
  rw[hF];simp only[eg hn,List.flatMap_append,List.flatMap_cons,List.flatMap_nil,e8,dr]
 have zu:∀n,(F n).length≤T.glob.length+qa (T.qs.take n):=fun n=>by
  rw[hF];have h1:=xdg t T.glob;have h2:=xk4 t (T.qs.take n);simp only[cz];omega
 have xh:F T.qs.length=pb T t:=by rw[hF];simp[pb]
 have hs3:∀X Y Z W:AObj,(h++[X,Y,Z]).set (h.length+1) W=h++[X,W,Z]:=fun X Y Z W=>by simp
 have wy:∀X Y W:AObj,(h++[X,Y]).set (h.length+1) W=h++[X,W]:=fun X Y W=>by simp
 rw[hF0];clear s' k' s k;refine jl T.qs.length (fun _=>True) (fun n=>⟨[(1,I t),(5,.own (h.length+1) (F n).length),(13,.slice (T.qs.map LQ.c)),(14,I T.qs.length),(15,I n)],h++[.cells [.slice (T.glob.map LReq.c),.slice (T.qs.map LQ.c)],.uarr 3 1 ((F n).map iw)]⟩) trivial (Wk.slots bb) ?_;intro n hn _;have hw:=iv hn hb.2.1;simp-dsimp[go_sem,hN];refine gy ?_ ?_<;>intro hc<;>simp at hc
 ·simp-dsimp[go_sem,hN,hc,LQ.c];have h1:=zu n;have h2:=xn1 hc;refine it (xu9 (h.length+1) (F n) T.qs[n].reqs t ae aa) ?_;rintro r h' ⟨rfl,rfl⟩;rw[w6 n hc];simp-dsimp[go_sem,hN,hw,hs3];exact⟨hc,ic⟩
 ·have ii:n=T.qs.length:=aa;subst ii;simp-dsimp[go_sem,hN];rw[xh];refine it (jbk (l:=pb T t) (h:=h++[.cells [.slice (T.glob.map LReq.c),.slice (T.qs.map LQ.c)],.uarr 3 1 ((pb T t).map iw)]) (i:=h.length+1) ae) ?_;rintro r h' ⟨rfl,rfl⟩;simp-dsimp[go_sem,hN,wy];refine it (jcr (n:=(pb T t).length) (l:=xcm (pb T t)) (h:=h++[.cells [.slice (T.glob.map LReq.c),.slice (T.qs.map LQ.c)],.uarr 3 1 ((xcm (pb T t)).map iw)]) (i:=h.length+1) ae ae) ?_;rintro r h' ⟨rfl,rfl⟩;simp-dsimp[go_sem,hN,wy];rfl
theorem jbi{l:List Int}:(Lib.compact l).length=0↔l=[]:=by
 constructor
 ·intro h;cases l with
  |nil=>rfl
  |cons x l =>
   exfalso;have h0:(0:Nat)∈(List.range (x::l).length).filter (Lib.keeps (x::l).toArray):=fe.2 ⟨eh.2 ae,Lib.keeps_lt_one _ 0 aa⟩;have h1:=List.length_pos_of_mem h0;unfold Lib.compact Lib.compactUpTo at h;rw[ew]at h;omega
 ·rintro rfl;rfl
theorem jmv(T:LT)(t:Int):(xeh T t).length=0↔pb T t=[]:=by
 unfold xeh;rw[jbi];constructor
 ·intro h;have:=congrArg List.length h;rw[List.length_mergeSort]at this;exact fk this
 ·intro h;rw[h];simp[xcm]
theorem xzm(T:LT)(hl:T.glob.length+qa T.qs<68719476736)(hv:zf T=true):APure prog 26 [.agg T.c] (.slice ((qwn T).map iw)):=by
 refine ik func26 ntmps26 rfl ac rfl rfl fun E h hN hh hu hb=>?_;simp[go_sem,LT.c]at hb;simp-dsimp[go_sem,hN,LT.c];refine ia (xiu T) ?_;simp-dsimp[go_sem,hN,hv];obtain⟨F,hF⟩:∃F:Nat→List Int,F=fun n=>((T.glob.take n).filter fun r=>(pb T r.t).isEmpty).map (·.t):=⟨_,rfl⟩
 have hF0:F 0=[]:=qgm;have w6:∀n (hn:n<T.glob.length),F (n+1)=F n++if (pb T T.glob[n].t).isEmpty then [T.glob[n].t]else []:=fun n hn=>by
  rw[hF];simp only[eg hn,gw,dz];congr 1;rcases h:(pb T T.glob[n].t).isEmpty with _|_<;>simp[h]
 have zu:∀n,(F n).length≤n:=fun n=>by
  rw[hF,ew];refine d9 (qlf _ _) ?_;rw[du];omega
 have xh:F T.glob.length=qwn T:=by rw[hF];simp[qwn]
 refine jl T.glob.length (fun _=>True) (fun n=>⟨[(1,P0 h.length),(3,.own (h.length+1) (F n).length),(10,.slice (T.glob.map LReq.c)),(11,I T.glob.length),(12,I n)],h++[.cells [.slice (T.glob.map LReq.c),.slice (T.qs.map LQ.c)],.arr 3 1 ((F n).map iw)]⟩) trivial ((qm4 E _ 3 3 1 af).trans qfu) ?_;intro n hn _;have hw:=iv hn hb.1.1;simp-dsimp[go_sem,hN];refine gy ?_ ?_<;>intro hc<;>simp at hc
 ·simp-dsimp[go_sem,hN,hc,LReq.c];refine ia (xzk T T.glob[n].t hl) ?_;simp-dsimp[go_sem,hN];have hwn:xeh T T.glob[n].t=[]↔pb T T.glob[n].t=[]:=by rw[←jmv,ql8]
  have h9:=zu n;refine gy (fun hg=>?_) (fun hg=>?_)<;>simp[hwn]at hg
  ·have tj:F (n+1)=F n++[T.glob[n].t]:=qih;simp-dsimp[go_sem,hN,hw];refine⟨aa,hc,?_⟩;rw[tj,dz,cz];exact ic
  ·have tj:F (n+1)=F n:=qih;simp-dsimp[go_sem,hN,hw];refine⟨hc,?_⟩;rw[tj];exact ic
 ·have ii:n=T.glob.length:=aa;subst ii;simp-dsimp[go_sem,hN];simp[xh]
section
variable {tT:TypeId} {tx:Nat×Nat} {g:Nat}
theorem jba(procs:List Proc)(s:List Pr)(l:List Txn)(choices:List Int)(h:gz)(hg:h[g]?=some (uu tT tx))(hB:BatchIn jh procs l)(hs:p9 s)(hL:s.length+192 * l.length≤60000000000)(hl:l.length≤1048576) :
  ACalls prog 8 [.slice (procs.map Proc.c),.slice (s.map Pr.c),.slice (l.map Txn.c),.slice (choices.map iw)] h fun r h'=>r=.ret (.tuple [.slice ((nc jh procs s l).1.map Pr.c),.own (h.length+5) l.length,.slice ((qr6 l choices l.length).map iw)])∧h'=h++[.none,.none,.none,.none,.none,.uarr 63 8 ((nc jh procs s l).2.map Eff.c)]:=by
 refine qda func8 rfl ac (by simp[ntmps8]) ?_;intro E hN hh hu hb il kr;rw[ntmps8]at hN;have x8:g<h.length:=(cq.1 hg).1;have jf:∀l:gz,(h++l)[g]?=some (uu tT tx):=fun l=>by rw[cu x8];exact hg
 simp[go_sem]at hb;have hfl:=xcg l;refine ln (ub ?_);simp[go_sem,hN];refine ln (ub ?_);simp[go_sem,hN];refine zy (e1:=⟨[(1,.slice (s.map Pr.c)),(3,.slice (choices.map iw)),(4,P0 h.length),(6,P0 (h.length+1)),(11,P0 (h.length+2))],h++[.cells [.slice (procs.map Proc.c)],.cells [.slice (l.map Txn.c)],.cells (ta (kz l) l.length).c]⟩) ?_ ?_
 ·simp-dsimp[go_sem,hN];refine jl l.length (fun n=>True) (fun n=>⟨[(1,.slice (s.map Pr.c)),(3,.slice (choices.map iw)),(4,P0 h.length),(6,P0 (h.length+1)),(11,P0 (h.length+2)),(20,.slice (l.map Txn.c)),(21,I l.length),(22,I n)],h++[.cells [.slice (procs.map Proc.c)],.cells [.slice (l.map Txn.c)],.cells (ta (kz l) n).c]⟩) trivial ((xhm E _ (p:=h.length+2) (xs:=[.nils,.nils]) ae).trans ?_) ?_
  ·exact(Wk.mk bi (by simp[go_sem,ta,LT.c,kc,AV.norm]) (by simp[hu,vf hu,go_sem,ta,LT.c]) af)
  intro n hn _;have hw:=iv hn (show _≤68719476736 by omega);have hT:=xmu (kz l) n aa;obtain⟨qd,u9⟩:=xp0 (kz l) n;simp-dsimp[go_sem,hN,LT.c];refine gy ?_ ?_<;>intro hc<;>simp at hc
  ·have hnx:ta (kz l) (n+1)=⟨(ta (kz l) n).glob++[⟨(n:Int),(nw l[n].ft).all⟩],qqj n (nw l[n].ft) (ta (kz l) n).qs⟩:=by
    simp only[ta];rw[xit aa];simp
   rw[hnx];obtain⟨T,hTe⟩:∃T,ta (kz l) n=T:=⟨_,rfl⟩
   rw[hTe]at hT qd u9;simp only[hTe];obtain⟨gl,qs⟩:=T;have h1:=hT.globLen;have h2:=hT.qsLen;have h3:=hT.reqsLen;rw[hfl]at h1 h2 h3;have hk:=xau (qy4 l[n].ft);have hreq:=jfo gl qs n (nw l[n].ft) (128 * l.length) hT.valid (qy4 _) aa qd (fun m hm _=>u9 _ (c9 hm)) (by simp only at h1;omega) h2 h3 aa;simp-dsimp[go_sem,hN,hc,Txn.c];refine tk 10 mixed ac ?_;simp-dsimp[go_sem,hN,hc,Txn.c];refine ku (xgz l[n].ft) ae ?_;simp-dsimp[go_sem,hN];refine ku hreq ae ?_;simp-dsimp[go_sem,hN,hw,LT.c];exact⟨by simp[pm,List.zipIdx]<;>kernel_rfl,ic⟩
  ·have pq:n=l.length:=aa;subst pq;simp-dsimp[go_sem,hN];exact Wk.slots bb
 refine ln (na _ _ _ ?_);simp-dsimp[go_sem,hN];refine⟨aa,?_⟩;refine ln (yf [_,_] _ ?_);simp[go_sem,hN];intro c a w sm k;refine qy1 sm k (el:=63) (x:=.tmp 40) (d1:=41) (n:=l.length) (sz:=8) (zr:=[I 0,I 0,.slice [],.slice [],.slice [],.slice [],S em,I 0]) rfl rfl aa rfl af af af aa af af qg3 af af aa fun c' a' w' s' k'=>?_;refine xf _ [_,_,_] _ rfl ?_ c' a' w' s' k';simp[go_sem,hN];clear s' k' sm k;apply na;simp-dsimp[go_sem,hN];refine jl l.length (fun n=>True) (fun n=>⟨[(3,.slice (choices.map iw)),(11,P0 (h.length+2)),(14,P0 (h.length+4)),(15,P0 (h.length+6)),(16,P0 (h.length+7)),(17,.fn (.func 23) [] [P0 h.length,P0 (h.length+4),P0 (h.length+1),P0 (h.length+6),P0 (h.length+2),P0 (h.length+7)]),(43,.slice (l.map Txn.c)),(44,I l.length),(45,I n)],
  lsH h procs l (Cw.stepT (kz l) (p7 (kz l) choices n)) (lsX jh procs s l choices n).1 (lsX jh procs s l choices n).2 (qr6 l choices n)⟩) trivial ((xhm E _ (p:=h.length+4) (xs:=[.own (h.length+3) s.length]) ae).trans ((qwi E _ (p:=h.length+7) (j:=0) (t:=3) (sz:=1) (xs:=[.nils]) ae ae).trans ?_)) ?_
 ·rw[xpx];exact(Wk.mk bi (by simp[go_sem,kc,AV.norm,qw9,Eff.c,em,qpg,p7,Cw.stepT,hfl,LT.c]) qja af)
 intro n hn _;have hw:=iv hn (show _≤68719476736 by omega);obtain⟨x1,x2,x3,x4⟩:=xht (choices:=choices) hB hs n hn;have hT:=xjo (kz l) (p7 (kz l) choices n);have wo:=xrw (kz l) (p7 (kz l) choices n);simp-dsimp[go_sem,hN,LT.c];refine gy ?_ ?_<;>intro hc<;>simp at hc
 ·obtain⟨j,q,hS⟩:=xp4 (fs:=kz l) (choices:=choices) (n:=n) aa;have se:j<l.length:=by have:=hS.lt;omega
  have hxs:=xrd (fmt:=jh) (procs:=procs) (s:=s) hS se;have hix:=(xmr hT.tab j).2 hS.left;obtain⟨z1,z2,z3,z4,z5,z6,z7⟩:=hS;rw[hxs,z7,xlv];have h1:=hT.globLen;have h2:=hT.qsLen;have h3:=hT.reqsLen;have h4:=hT.sz;rw[hfl]at h1 h2 h3 h4;have zm:=hT.valid;obtain⟨T,hTe⟩:∃T,Cw.stepT (kz l) (p7 (kz l) choices n)=T:=⟨_,rfl⟩
  rw[hTe]at h1 h2 h3 h4 zm hix wo;simp only[hTe];obtain⟨X,hX⟩:∃X,lsX jh procs s l choices n=X:=⟨_,rfl⟩
  rw[hX]at x1 x2 x3;simp only[hX];have hlo:qr6 l choices n=(p7 (kz l) choices n).map Int.ofNat:=rfl;have hlo1:qr6 l choices (n+1)=(p7 (kz l) choices n).map Int.ofNat++[(j:Int)]:=by show(p7 (kz l) choices (n+1)).map Int.ofNat=_;rw[z7,dz];rfl
  simp only[hlo,hlo1];clear hlo hlo1;obtain⟨O,hO⟩:∃O,p7 (kz l) choices n=O:=⟨_,rfl⟩
  simp only[hO]at x4 z1 z2 z3 z4 z6 z7 wo⊢;obtain⟨c,hcd⟩:∃c,qoa (kz l) O=c:=⟨_,rfl⟩
  simp only[hcd]at z1 z2 z3 z4 wo;have hgc:c[q]=j:=(cq.1 z4).2;have xa9:=xzm T aa zm;rw[wo]at xa9;have hch:=jkh choices n c.length z1;rw[z2]at hch;have jx:=jia (g:=g) (tT:=tT) (tx:=tx) procs X.1 l j T X.2 (O.map Int.ofNat) h hg se aa (xfe hB x1 (c9 se)) aa am zm hix aa aa (fun x hx=>by have:=h3 x hx;omega);obtain⟨Y,hY⟩:∃Y,ov jh procs X.1 l[j]=Y:=⟨_,rfl⟩
  rw[hY]at jx⊢;simp-dsimp[go_sem,hN,LT.c];refine ia xa9 ?_;simp-dsimp[go_sem,hN];refine gy ?_ ?_<;>intro hz<;>simp at hz
  ·rw[hz]at z1;simp at z1
  simp-dsimp[go_sem,hN];refine ia hch ?_;simp-dsimp[go_sem,hN,z3,hgc,iw];refine it jx ?_;rintro r h' ⟨rfl,rfl⟩;simp-dsimp[go_sem,hN,hw];exact⟨hc,Wk.slots bb⟩
 ·have pq:n=l.length:=aa;subst pq;rw[xqq hB hs]at x3⊢;simp-dsimp[go_sem,hN];refine kf 5 mixed ac ac ?_;simp-dsimp[go_sem,hN,x3,x4];exact⟨_,.refl _,h++[.none,.none,.none,.none,.none,.uarr 63 8 ((nc jh procs s l).2.map Eff.c)],af,by simp[lsH,go_sem],ae,by simp[vf hu,go_sem],rfl,rfl⟩
theorem xc9(procs:List Proc)(s:List Pr)(l:List Txn)(choices:List Int)(h:gz)(hg:h[g]?=some (uu tT tx))(hB:BatchIn jh procs l)(hs:p9 s)(hL:s.length+192 * l.length≤60000000000)(hl:l.length≤1048576) :
  ACalls prog 8 [.slice (procs.map Proc.c),.slice (s.map Pr.c),.slice (l.map Txn.c),.slice (choices.map iw)] h fun r h'=>r=.ret (.tuple [.slice ((nc jh procs s l).1.map Pr.c),.slice ((nc jh procs s l).2.map Eff.c),.slice ((qr6 l choices l.length).map iw)])∧h'=h:=by
 have jr:(nc jh procs s l).2.length=l.length:=qzu l;have core:=jba (g:=g) (tT:=tT) (tx:=tx) procs s l choices h hg hB hs hL hl;refine⟨core.1,fun cx wx vx hsx hax=>?_⟩;have hu:=hsx.hUnder;refine(xhx (fun E hE=>?_) core).2 cx wx vx hsx hax;refine(zt E _ (i:=h.length+5) (t:=63) (sz:=8) (rows:=(nc jh procs s l).2.map Eff.c) ae).trans ?_;simp;refine(qzr E _).trans ?_;exact Wk.mk (by simp[hE]) qix qj5 (by simp[go_sem,AV.norm,kc,wkT,jr])
end
def qvh:Option (List Int)→AV
 |none=>.tuple [.slice [],Bo false]
 |some m=>.tuple [.slice (m.map iw),Bo true]
theorem jl4(order:List Int)(N:Nat)(hl:N≤1048576):APure prog 40 [I N,.slice (order.map iw)] (qvh (qv3 order N)):=by
 refine qbn func40 rfl ac (by simp[ntmps40]) (by unfold qvh;split<;>rfl) ?_;intro E h hN hh hu hb;rw[ntmps40]at hN;simp[go_sem]at hb;obtain⟨r,hr⟩:∃r,qv3 order N=r:=⟨_,rfl⟩
 rw[hr];unfold qv3 at hr;refine ln (ub ?_);simp[go_sem,hN];refine ln (na _ _ _ ?_);simp-dsimp[go_sem,hN];refine gy ?_ ?_<;>intro h0<;>simp at h0
 ·have qc:¬order.length=N:=aa;rw[if_neg qc]at hr;subst hr;simp-dsimp[go_sem,hN,qvh]
 have qc:order.length=N:=aa;rw[if_pos qc]at hr;simp-dsimp[go_sem,hN];refine ln (yf [_] _ ?_);simp[go_sem,hN];intro c a w sm k;refine qy1 sm k (el:=3) (x:=.tmp 14) (d1:=15) (n:=N) (sz:=1) (zr:=[I 0]) rfl rfl aa rfl af af af aa af af qg3 af af aa fun c' a' w' s' k'=>?_;refine xf _ [_,_] _ rfl ?_ c' a' w' s' k';simp[go_sem,hN];clear s' k' sm k;refine zy (e1:=⟨[(0,I N),(1,.slice (order.map iw)),(6,.own h.length N)],h++[.uarr 3 1 ((List.replicate N (-1:Int)).map iw)]⟩) ?_ ?_
 ·simp-dsimp[go_sem,hN];refine jl N (fun n=>True) (fun n=>⟨[(0,I N),(1,.slice (order.map iw)),(6,.own h.length N),(17,I N),(18,I n)],h++[.uarr 3 1 ((mN N n).map iw)]⟩) trivial ?_ ?_
  ·rw[jhq,List.map_replicate];exact(Wk.mk bi (by simp[go_sem,iw]) bj af)
  intro n hn _;have hw:=iv hn (show _≤68719476736 by omega);have wu:=jnx hn;simp-dsimp[go_sem,hN];refine gy ?_ ?_<;>intro hc<;>simp at hc
  ·have ss:=jmh hc;simp-dsimp[go_sem,hN,hc,wu,hw,←ss,iw];exact ic
  have pq:n=N:=aa;subst pq;rw[jdt];simp-dsimp[go_sem,hN];exact Wk.slots bb
 refine xer (ι:=List Int) (fun m=>m.length=N∧some m=r) (fun m=>⟨[(6,.own h.length N)],h++[.uarr 3 1 (m.map iw)]⟩) ?_ ?_
 rotate_left
 ·rintro m ⟨hm,rfl⟩;refine AWp.wk (zt E ⟨[(6,.own h.length N)],h++[.uarr 3 1 (m.map iw)]⟩ (i:=h.length) (t:=3) (sz:=1) (rows:=m.map iw) ae) ?_;apply na;simp-dsimp[go_sem,hN,qvh,hm]
 simp-dsimp[go_sem,hN];refine pa (α:=List Int) order.length (fun j m=>m.length=N∧atF N (order.drop j) j m=r) (fun j m=>⟨[(0,I N),(6,.own h.length N),(25,.slice (order.map iw)),(26,I order.length),(27,I j)],h++[.uarr 3 1 (m.map iw)]⟩) (List.replicate N (-1)) ⟨ae,qf0⟩ ?_ ?_
 ·exact ic
 rintro i m hi ⟨hm,hI⟩;have hw:=iv hi (show _≤68719476736 by omega);simp-dsimp[go_sem,hN];refine gy ?_ ?_<;>intro hc<;>simp at hc
 ·rw[ji hc,atF]at hI;obtain⟨k,hk⟩:∃k,order[i]=k:=⟨_,rfl⟩
  rw[hk]at hI;by_cases h1:k<0
  ·rw[if_pos (.inl h1)]at hI;subst hI;simp-dsimp[go_sem,hN,hc,iw,hk,h1,qvh]
  obtain⟨j,rfl⟩:=qmu (show 0≤k by omega);rw[qld]at hI;by_cases h2:(N:Int)≤(j:Int)
  ·rw[if_pos (.inr (.inl h2))]at hI;subst hI;simp-dsimp[go_sem,hN,hc,iw,hk,h1,h2,qvh]
  have hj:j<N:=aa;have hjm:j<m.length:=aa;have hg:m.getD j (-1)=m[j]:=by rw[fg,da hjm];rfl
  by_cases h3:0≤m[j]
  ·rw[if_pos (.inr (.inr (by rw[hg];exact h3)))]at hI;subst hI;simp-dsimp[go_sem,hN,hc,iw,hk,h1,h2,hj,hjm,hm,h3,qvh]
  rw[if_neg (by rw[hg];simp only[not_or];exact⟨h1,h2,h3⟩)]at hI;simp-dsimp[go_sem,hN,hc,iw,hk,h1,h2,hj,hjm,hm,h3,hw];exact⟨m.set j (i:Int),⟨by simp[hm],hI⟩,Wk.mk bi (by simp[go_sem,iw]) bj af⟩
 ·rw[cv aa,atF]at hI;subst hI;simp-dsimp[go_sem,hN];exact⟨m,⟨hm,rfl⟩,Wk.slots bb⟩
theorem xh5(fs:List Foot)(order:List Int)(hl:fs.length≤1048576):APure prog 15 [.slice (fs.map Foot.c),.slice (order.map iw)] (Bo (v7 fs order)):=by
 refine ik func15 ntmps15 rfl ac rfl rfl fun E h hN hh hu hb=>?_;rw[jlg];have ve:=@jg0 order;obtain⟨r,hr⟩:∃r,qv3 order fs.length=r:=⟨_,rfl⟩
 simp-dsimp[go_sem,hN];refine ia (jl4 order fs.length hl) ?_;rw[hr];rcases r with _|m
 ·simp-dsimp[go_sem,hN,qvh]
 have hm:=ve hr;simp-dsimp[go_sem,hN,qvh];have hC:=fun j i (hj:j<fs.length) (hi:i<fs.length)=>show pk fs i j=th fs[i] fs[j]by
  unfold pk;rw[da hj,da hi]
 refine jl fs.length (fun j=>qr0 m (pk fs) j=0) (fun j=>⟨[(0,.slice (fs.map Foot.c)),(5,.slice (m.map iw)),(19,I fs.length),(20,I j)],h⟩) (jit _ _) ic ?_;intro j hj hI;have hw:=iv hj (show _≤68719476736 by omega);simp-dsimp[go_sem,hN];refine gy ?_ ?_<;>intro hc<;>simp at hc
 ·simp-dsimp[go_sem,hN];refine jl j (fun i=>cI m (pk fs) j i=0) (fun i=>⟨[(0,.slice (fs.map Foot.c)),(5,.slice (m.map iw)),(7,I j),(19,I fs.length),(20,I j),(23,I j),(24,I i)],h⟩) (jm8 _ _ _) ic ?_;intro i hi mt;have oi:=iv hi (show _≤68719476736 by omega);simp-dsimp[go_sem,hN];refine gy ?_ ?_<;>intro hd<;>simp at hd
  ·have nq:i<fs.length:=aa;have hjm:j<m.length:=aa;have zb:i<m.length:=aa;have hg1:m.getD j (-1)=m[j]:=by rw[fg,da hjm];rfl
   have v6:m.getD i (-1)=m[i]:=by rw[fg,da zb];rfl
   have ma:=xj4 m (pk fs) j i;have heh:=@xys m (pk fs) i j fs.length hd hc;rw[hC j i hc nq,hg1,v6]at ma heh;simp-dsimp[go_sem,hN,hc,nq,hjm,zb,hm,iw];refine kf 18 mixed ac ac ?_;simp-dsimp[go_sem,hN,hc,nq,hjm,zb,hm,iw,Foot.c];refine ka (jkv fs[i] fs[j]) ae ?_;simp-dsimp[go_sem,hN];refine gy (fun h1=>?_) (fun h1=>?_)
   ·have h2:=heh av;simp-dsimp[go_sem,hN];simp[h2]
   ·rw[if_neg av,mt]at ma;simp-dsimp[go_sem,hN,oi];exact⟨hd,ma,ic⟩
  ·have e:i=j:=aa;subst e;simp-dsimp[go_sem,hN,hw];refine⟨hc,?_,ic⟩;rw[xhe,hI,mt]
 ·have hj2:j=fs.length:=aa;subst hj2;simp-dsimp[go_sem,hN];simp[hI]
theorem xkd(fs:List Foot)(order:List Int)(hl:fs.length≤1048576):APure prog 19 [.slice (fs.map Foot.c),.slice (order.map iw)] (Bo (v7 fs order)):=by
 refine ik func19 ntmps19 rfl ac rfl rfl fun E h hN hh hu hb=>?_;have hL:=xx3 fs order;obtain⟨r,hr⟩:∃r,v7 fs order=r:=⟨_,rfl⟩
 rw[hr]at hL⊢;have bad:¬(order.length=fs.length∧(∀i,i<fs.length→0≤vi order i)∧∀a b,a<b→b<fs.length→pk fs a b=true→vi order a≤vi order b)→r=false:=fun h=>by
  cases r with
  |false=>rfl
  |true=>exact(h (hL.1 rfl)).elim
 simp-dsimp[go_sem,hN];refine gy ?_ ?_<;>intro h0<;>simp at h0
 ·have:=bad fun h=>by have:=h.1;omega
  subst this;simp-dsimp[go_sem,hN]
 have qc:order.length=fs.length:=aa;simp-dsimp[go_sem,hN];refine jl fs.length (fun n=>∀i,i<n→0≤vi order i) (fun n=>⟨[(0,.slice (fs.map Foot.c)),(1,.slice (order.map iw)),(5,I n)],h⟩) (fun i hi=>by omega) ic ?_;intro n hn hI;have hw:=iv hn (show _≤68719476736 by omega);simp-dsimp[go_sem,hN];refine gy ?_ ?_<;>intro hc<;>simp at hc
 ·simp-dsimp[go_sem,hN];refine ia (xgu order n) ?_;simp-dsimp[go_sem,hN];refine gy ?_ ?_<;>intro hg<;>simp at hg
  ·have:=bad fun h=>by have:=h.2.1 n hc;simp only[vi]at this;omega
   subst this;simp-dsimp[go_sem,hN]
  ·simp-dsimp[go_sem,hN,hw];refine⟨hc,fun i hi=>?_,ic⟩;rcases d8 i n with h1|h1
   ·exact hI i h1
   ·have:i=n:=aa;subst this;exact hg
 ·have ii:n=fs.length:=aa;subst ii;simp-dsimp[go_sem,hN];refine jl fs.length (fun a=>∀i j,i<a→i<j→j<fs.length→pk fs i j=true→vi order i≤vi order j) (fun a=>⟨[(0,.slice (fs.map Foot.c)),(1,.slice (order.map iw)),(6,I a)],h⟩) (fun i j hi=>by omega) ic ?_;intro a ha hA;have hwa:=iv ha (show _≤68719476736 by omega);simp-dsimp[go_sem,hN];refine gy ?_ ?_<;>intro ox<;>simp at ox
  ·simp-dsimp[go_sem,hN,hwa];refine jl (fs.length - (a+1)) (fun k=>∀j,a<j→j<a+1+k→pk fs a j=true→vi order a≤vi order j) (fun k=>⟨[(0,.slice (fs.map Foot.c)),(1,.slice (order.map iw)),(6,I a),(7,I ((a+1+k:Nat)))],h⟩) (fun j h1 h2=>by omega) ic ?_;intro k hk hK;obtain⟨b,li⟩:∃b,a+1+k=b:=⟨_,rfl⟩
   rw[show a+1+(k+1)=b+1 by omega];rw[li]at hK⊢;have hwb:=iv (n:=b) (L:=fs.length) aa (show _≤68719476736 by omega);simp-dsimp[go_sem,hN];refine gy ?_ ?_<;>intro hd<;>simp at hd
   ·have hC:pk fs a b=th fs[a] fs[b]:=by
     unfold pk;rw[da hd,da ox]
    simp-dsimp[go_sem,hN,ox,hd,iw,Foot.c];refine kf 15 mixed ac ac ?_;simp-dsimp[go_sem,hN,ox,hd,iw,Foot.c];refine ku (jfd fs[a] fs[b]) ae ?_;simp-dsimp[go_sem,hN];refine ku (xgu order a) ae ?_;simp-dsimp[go_sem,hN];refine ka (xgu order b) ae ?_;simp-dsimp[go_sem,hN];refine gy (fun hg=>?_) (fun hg=>?_)
    ·have jf:pk fs a b=true∧vi order b<vi order a:=by rw[hC];simpa using hg
     have:=bad fun h=>by have:=h.2.2 a b aa hd jf.1;omega
     subst this;simp-dsimp[go_sem,hN]
    ·have jf:pk fs a b=true→vi order a≤vi order b:=by
      intro h9;rw[hC]at h9;simpa[h9]using hg
     simp-dsimp[go_sem,hN,hwb];refine⟨aa,fun j h1 h2 h3=>?_,ic⟩;rcases d8 j b with h4|h4
     ·exact hK j h1 h4 h3
     ·have:j=b:=aa;subst this;exact jf h3
   ·simp-dsimp[go_sem,hN,hwa];refine⟨aa,fun i j h1 h2 h3 h4=>?_,ic⟩;rcases d8 i a with h5|h5
    ·exact hA i j h5 h2 h3 h4
    ·have:i=a:=aa;subst this;exact hK j h2 aa h4
  ·have ii:a=fs.length:=aa;subst ii;have:r=true:=hL.2 ⟨qc,hI,fun i j h1 h2 h3=>hA i j aa h1 h2 h3⟩;subst this;simp-dsimp[go_sem,hN]
end Go.Proofs.YtbimdamecieomaaGreatDoor
