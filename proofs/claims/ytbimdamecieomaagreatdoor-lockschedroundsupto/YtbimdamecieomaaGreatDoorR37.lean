/- Part 37 of a proof. -/
import Derived.Test.YtbimdamecieomaaGreatDoorR36
set_option linter.all false
set_option maxRecDepth 4000
set_option maxHeartbeats 2000000
namespace Go.Proofs.YtbimdamecieomaaGreatDoor
open Go Go.Abs Go.Cw Tryz
def wkS(t:List (Nat×AV)):List (Nat×AV)→Prop
 | []=>True
 |(i,x)::l=>(kj t i).Wk x∧wkS t l
theorem wkS.look{t:List (Nat×AV)}:∀{l:List (Nat×AV)},wkS t l→∀i,(kj t i).Wk (kj l i)
 | [],_,i=>.top _
 |(j,x)::l,h,i=>by
  by_cases hj:j=i
  ·subst hj;simp only[kj,beq_self_eq_true,cond_true];exact h.1
  ·have:(j == i)=false:=bf;simp only[kj,this,cond_false];exact wkS.look h.2 i
theorem Wk.slots{E:Ent}{t t1:List (Nat×AV)}{h:gz}(ht:wkS t t1):Wk E ⟨t,h⟩ ⟨t1,h⟩:=fun c a w s o=>⟨c,⟨s.defers,s.size,fun i=>ht.look i c _ (s.tmps i),s.hs⟩,o⟩
theorem xnp:∀{X h:gz},(∀(i:Nat) (o:AObj),h[i]?=some o→X[i]?=some o)→hwk X h
 |X,[],_=>by cases X<;>trivial
 | [],o::l,k=>by have:=k 0 o rfl;simp at this
 |x::X,o::l,k=>by
  have h0:=k 0 o rfl;simp at h0;subst h0;exact⟨.refl _,xnp fun i o' hi=>by have:=k (i+1) o' qf1;simpa using this⟩
def qtx:AObj→AObj
 | .uarr t sz rows=>.arr t sz rows
 |o=>o
theorem xu3(n0:Nat):∀(l:gz) (k i:Nat),(vu n0 k l)[i]?=(l[i]?).map fun o=>if n0≤k+i then qtx o else o
 | [],k,i=>by simp[vu]
 |o::l,k,0=>by
  by_cases h:n0≤k
  ·have h2:Nat.ble n0 k=true:=Nat.ble_eq_true_of_le h;cases o<;>simp[vu,qtx,h,h2]
  ·have h2:Nat.ble n0 k=false:=by
    cases hb:Nat.ble n0 k with
    |false=>rfl
    |true=>exact(h (Nat.le_of_ble_eq_true hb)).elim
   cases o<;>simp[vu,qtx,h,h2]
 |o::l,k,i+1=>by
  have:=xu3 n0 l (k+1) i;rw[show k+1+i=k+(i+1)by omega]at this;cases o<;>simpa[vu]using this
theorem xqx(n0:Nat):∀(l:gz) (k:Nat),(vu n0 k l).length=l.length
 | [],_=>rfl
 |o::l,k=>by cases o<;>simp[vu,xqx n0 l (k+1)]
theorem TabH.freeze(E:Ent){B:Nat}{t:List (Nat×AV)}{H:gz}{o g q:Nat}{ks:List Nat}{T:LT}(h:TabH B H o g q ks T) :
  ∃X,Wk E ⟨t,H⟩ ⟨t,X⟩∧X.length=H.length∧X[o]?=some (.cells [.own g T.glob.length,.own q T.qs.length])∧X[g]?=some (.arr 95 2 (T.glob.map LReq.c))∧X[q]?=some (.arr 107 2 (T.qs.map LQ.c)) ∧
   (∀i:Nat,i<B→X[i]?=H[i]?)∧∀(i:Nat) (x:List AV),H[i]?=some (AObj.cells x)→X[i]?=some (AObj.cells x):=by
 obtain⟨n1,n2,n3⟩:=h.gne;have d1:=jjl E B ⟨t,H⟩;have dl:=xqx B H 0;have dg:∀i,(vu B 0 H)[i]?=(H[i]?).map fun ob=>if B≤i then qtx ob else ob:=fun i=>by simpa using xu3 B H 0 i
 have eq1:(vu B 0 H)[q]?=some (.oarr 107 2 (qy ks T.qs)):=by rw[dg,h.hq];simp[qtx]
 have eg1:(vu B 0 H)[g]?=some (.arr 95 2 (T.glob.map LReq.c)):=by rw[dg,h.hg];simp[qtx,h.bg]
 have eo1:(vu B 0 H)[o]?=some (.cells [.own g T.glob.length,.own q T.qs.length]):=by rw[dg,h.ho];simp[qtx]
 have ek1:∀p,p∈ks.zip T.qs→(vu B 0 H)[p.1]?=some (.arr 95 2 (p.2.reqs.map LReq.c)):=fun p hp=>by
  have hB:=h.bk p.1 (List.of_mem_zip hp).1;rcases h.hk p hp with h3|h3
  ·rw[dg,h3];simp[qtx,hB]
  ·rw[dg,h3];simp[qtx]
 have xbs:(qy ks T.qs).map (kc (vu B 0 H))=T.qs.map LQ.c:=by
  apply fy;intro n;rw[dq,dq];rcases d8 n T.qs.length with hn|hn
  ·have h1:ks[n]?=some (ks[n]'(by rw[h.hkl];exact hn)):=da _;have h2:T.qs[n]?=some T.qs[n]:=da _;rw[xmm h1 h2,h2];have h3:=ek1 (_,T.qs[n]) (c7 (i:=n) (by rw[qmt];exact⟨h1,h2⟩));simp only[fx,kc,AV.norm,h3,ew,if_true];rfl
  ·rw[fa hn,fa (by rw[xd2 h.hkl];exact hn)];rfl
 have w2:=ji4 E ⟨t,vu B 0 H⟩ eq1 (fun r hr=>by
  have:kc (vu B 0 H) r∈T.qs.map LQ.c:=by rw[←xbs];exact ql4 hr
  obtain⟨x,_,hx⟩:=dk.1 this;rw[←hx];rfl)
 rw[xbs]at w2;have hql:q<(vu B 0 H).length:=(cq.1 eq1).1;have w3:=zt E ⟨t,(vu B 0 H).set q (.uarr 107 2 (T.qs.map LQ.c))⟩ (i:=q) (ep hql);refine⟨_,(d1.trans w2).trans w3,by simp[dl],?_,?_,?_,fun i hi=>?_,fun i x hx=>?_⟩
 ·simp only[gq];rw[dm n3];exact eo1
 ·simp only[gq];rw[dm (Ne.symm n2)];exact eg1
 ·simp only[gq];exact ep hql
 ·have h5:=h.bq;simp only[gq];rw[dm aa,dg];simp[Nat.not_le.2 hi]
 ·have h6:i≠q:=fun e=>by rw[e,h.hq]at hx;cases hx
  simp only[gq];rw[dm (Ne.symm h6),dg,hx];simp[qtx]
theorem xn5{k:g9}{r:LReq}:∀(l:List LQ),(mp k r l).length≤l.length+1
 | []=>by simp[mp]
 |q::l=>by
  rw[mp];split
  ·have:=xn5 (k:=k) (r:=r) l;simp;omega
  ·split<;>simp
theorem xp3{k:g9}{r:LReq}{M:Nat}:∀{l:List LQ},(∀x∈l,x.reqs.length≤M)→∀x∈mp k r l,x.reqs.length≤M+1
 | [],_,x,hx=>by simp[mp]at hx;subst hx;simp
 |q::l,h,x,hx=>by
  rw[mp]at hx;split at hx
  ·rcases cw.1 hx with rfl|hx
   ·have:=h x ae;omega
   ·exact xp3 (fun y hy=>h y cm) x hx
  ·split at hx
   ·rcases cw.1 hx with rfl|hx
    ·have:=h q ae;simp;omega
    ·have:=h x bt;omega
   ·rcases cw.1 hx with rfl|hx
    ·simp
    ·have:=h x hx;omega
theorem xwy:∀(k:Nat) (qs:List LQ),v2 k qs=qy ((List.range qs.length).map fun j=>k+2 * j) qs
 |k,[]=>by simp[v2,qy]
 |k,q::l=>by
  rw[v2,xwy (k+2) l,d5,List.range_succ_eq_map];simp only[c8,qlt,qy,List.zipWith_cons_cons];congr 2;apply qmd;intro j _;simp only[Function.comp];omega
theorem xpv(tR:TypeId):∀(qs:List LQ) (j:Nat) (h:j<qs.length),(qnj tR qs)[2 * j+1]?=some (.uarr tR 2 (qs[j].reqs.map LReq.c))
 |q::l,0,_=>rfl
 |q::l,j+1,h=>by
  have:=xpv tR l j bh;rw[show 2 * (j+1)+1=(2 * j+1)+1+1 by omega];simpa[qnj]using this
theorem xrr{g:List LReq}:∀{k:Option g9} {l:List LQ},yd g k l=true→(∀p,k=some p→∀x∈ko l,ju p x=true)∧jp (ko l)
 |k,[],_=>⟨fun _ _ x hx=>by simp at hx,List.Pairwise.nil⟩
 |k,q::l,h=>by
  rw[yd,c0,c0,c0,c0,c0]at h;obtain⟨i1,i2⟩:=xrr h.2;have h3:=i1 q.key rfl;refine⟨fun p hp x hx=>?_,ef.2 ⟨h3,i2⟩⟩;subst hp;have h4:ju p q.key=true:=h.1.1.1.1.2;rcases cw.1 hx with rfl|hx
  ·exact h4
  ·exact qdz h4 (h3 x hx)
theorem TabH.setG{B:Nat}{H:gz}{o g q:Nat}{ks:List Nat}{T:LT}(h:TabH B H o g q ks T)(G:List LReq):TabH B ((H.set g (.uarr 95 2 (G.map LReq.c))).set o (.cells [.own g G.length,.own q T.qs.length])) o g q ks ⟨G,T.qs⟩:=by
 obtain⟨n1,n2,n3⟩:=h.gne;have ho:=(cq.1 h.ho).1;have hg:=(cq.1 h.hg).1;have key:∀{i:Nat} {x:AObj},i≠o→i≠g→H[i]?=some x→((H.set g (.uarr 95 2 (G.map LReq.c))).set o (.cells [.own g G.length,.own q T.qs.length]))[i]?=some x:=fun {i x} h1 h2 h3=>by rw[dm (Ne.symm h1),dm (Ne.symm h2)];exact h3
 refine⟨ep qgp,?_,key n3 (Ne.symm n2) h.hq,h.hkl,fun p hp=>?_,h.nd,h.gk,h.bo,h.bg,h.bq,h.bk⟩
 ·rw[dm (Ne.symm n1)];exact ep hg
 ·have h3:=h.kne (List.of_mem_zip hp).1;exact(h.hk p hp).imp (key h3.2.1 h3.2.2.2) (key h3.2.1 h3.2.2.2)
theorem jcb{h:gz}{gl:List LReq}{qs:List LQ}{c1 c2 c3:AObj}{H:gz}(hH:h++[c1,c2,c3]++([AObj.none,.none,.uarr 95 2 (gl.map LReq.c),.none,.oarr 107 2 (v2 (h.length+9) qs)]++qnj 95 qs)=H) :
  TabH (h.length+3) (H++[.cells [.own (h.length+5) gl.length,.own (h.length+7) qs.length]]) H.length (h.length+5) (h.length+7) ((List.range qs.length).map fun j=>h.length+9+2 * j) ⟨gl,qs⟩:=by
 have hl:H.length=h.length+8+2 * qs.length:=qkd;have e5:H[h.length+5]?=some (.uarr 95 2 (gl.map LReq.c)):=qhm;have e7:H[h.length+7]?=some (.oarr 107 2 (v2 (h.length+9) qs)):=qhm;have ek:∀(j:Nat) (hj:j<qs.length),H[h.length+9+2 * j]?=some (.uarr 95 2 (qs[j].reqs.map LReq.c)):=fun j hj=>by
  rw[←hH,cy am,cy am];rw[←xpv 95 qs j hj];congr 1;simp;omega
 refine⟨ae,by rw[cu aa];exact e5,by rw[cu aa,e7,xwy],ae,fun p hp=>?_,?_,?_,aa,aa,aa,?_⟩
 ·obtain⟨j,hj⟩:=dv hp;rw[qmt]at hj;obtain⟨j1,j2⟩:=hj;have ib:j<qs.length:=(cq.1 j2).1;rw[dq,List.getElem?_range ib]at j1;have e1:p.1=h.length+9+2 * j:=(gh j1).symm;have e2:p.2=qs[j]:=by rw[da ib]at j2;exact(gh j2).symm
  refine .inl ?_;rw[e1,e2,cu aa];exact ek j ib
 ·rw[List.nodup_iff_pairwise_ne,List.pairwise_map];exact List.pairwise_lt_range.imp (fun h=>by omega)
 ·intro hg;obtain⟨j,_,hj⟩:=dk.1 hg;omega
 ·intro k hk;obtain⟨j,_,rfl⟩:=dk.1 hk;omega
abbrev xl1(n:Int)(l:List LQ)(k:g9):List LQ:=mp k ⟨n,true⟩ l
abbrev xhz(n:Int)(w:List g9)(l:List LQ)(k:g9):List LQ:=if jk w k=true then l else mp k ⟨n,false⟩ l
structure Adds(B:Nat)(X1:gz)(o g q:Nat)(gl:List LReq)(M:Nat)(X:gz)(ks:List Nat)(qs:List LQ):Prop where
 tab:TabH B X o g q ks ⟨gl,qs⟩
 len:X1.length≤X.length
 fr:∀i,i<B→X[i]?=X1[i]?
 asc:jp (ko qs)
 ql:qs.length≤M
 rl:∀x∈qs,x.reqs.length≤M
theorem zy{P:Program}{E:Ent}{x y:Code}{Q:AExit→Env→Prop}{e e1:Env}(h:wpC P E x (AExit.then (fun e'=>Wk E e' e1) Q) e)(h2:AWp P E y Q e1):AWp P E (.seq x y) Q e :=
 ln ((na _ _ _ h).mono fun z e' hz=>by
  cases z with
  |normal=>exact AWp.wk hz h2
  |_=>exact hz)
theorem xer{P:Program}{E:Ent}{x y:Code}{Q:AExit→Env→Prop}{e:Env}{ι:Type}(J:ι→Prop)(K:ι→Env)(h:wpC P E x (AExit.then (fun e'=>∃i,J i∧Wk E e' (K i)) Q) e)(h2:∀i,J i→AWp P E y Q (K i)):AWp P E (.seq x y) Q e :=
 ln ((na _ _ _ h).mono fun z e' hz=>by
  cases z with
  |normal=>obtain⟨i,hi,hw⟩:=hz;exact AWp.wk hw (h2 i hi)
  |_=>exact hz)
theorem qwj{k:g9}{r:LReq}:∀{l:List LQ} {x:g9},x∈ko (mp k r l)→x=k∨x∈ko l
 | [],x,h=>by simp[mp]at h;exact .inl h
 |q::l,x,h=>by
  rw[mp]at h;split at h
  ·simp only[c8,cw]at h⊢;rcases h with h|h
   ·exact .inr (.inl h)
   ·exact(qwj h).imp id .inr
  ·split at h
   ·simp only[c8,cw]at h⊢;exact h.imp id .inr
   ·simp only[c8,cw]at h⊢;exact h
theorem qwo{k:g9}{r:LReq}:∀{l:List LQ},jp (ko l)→jp (ko (mp k r l))
 | [],_=>by simp[mp,jp]
 |q::l,h=>by
  simp only[c8]at h;obtain⟨h1,h2⟩:=ef.1 h;rw[mp];split
  ·rename_i h3;simp only[c8];refine ef.2 ⟨fun x hx=>?_,qwo h2⟩;rcases qwj hx with rfl|hx
   ·exact h3
   ·exact h1 x hx
  ·rename_i h3;split
   ·rename_i h4;subst h4;simpa only[c8]using h
   ·rename_i h4;have h5:ju k q.key=true:=by
     rcases gn (ju k q.key)with g|g
     ·exact g
     ·exact(h4 (qv9 h3 qhw)).elim
    simp only[c8];refine ef.2 ⟨fun x hx=>?_,ef.2 ⟨h1,h2⟩⟩;rcases cw.1 hx with rfl|hx
    ·exact h5
    ·exact qdz h5 (h1 x hx)
theorem Adds.add{B:Nat}{X1 X X':gz}{o g q:Nat}{gl:List LReq}{M:Nat}{ks:List Nat}{qs:List LQ}{k:g9}{r:LReq}(h:Adds B X1 o g q gl M X ks qs)(h1:∃ks',TabH B X' o g q ks' ⟨gl,mp k r qs⟩)(h2:X.length≤X'.length)(h3:∀i,i<B→X'[i]?=X[i]?):∃ks',Adds B X1 o g q gl (M+1) X' ks' (mp k r qs):=by
 obtain⟨ks',h1⟩:=h1;exact⟨ks',h1,d9 h.len h2,fun i hi=>(h3 i hi).trans (h.fr i hi),qwo h.asc,d9 (xn5 qs) (by have:=h.ql;omega),xp3 h.rl⟩
theorem Adds.up{B:Nat}{X1 X:gz}{o g q:Nat}{gl:List LReq}{M:Nat}{ks:List Nat}{qs:List LQ}(h:Adds B X1 o g q gl M X ks qs):Adds B X1 o g q gl (M+1) X ks qs :=
 ⟨h.tab,h.len,h.fr,h.asc,by have:=h.ql;omega,fun x hx=>by have:=h.rl x hx;omega⟩
theorem xjr{α β:Type}(f:β→α→β)(b:β){l:List α}{n:Nat}(h:n<l.length):(l.take (n+1)).foldl f b=f ((l.take n).foldl f b) l[n]:=by
 rw[eg h,ql0];rfl
theorem jfo(gl:List LReq)(qs:List LQ)(n:Int)(f:Foot)(M:Nat)(hv:zf ⟨gl,qs⟩=true)(hf:my f.all f.reads f.writes=true)(h0:0≤n)(hix:ni (r6 n) gl = -1)(yj:∀(m:Nat) (hm:m<gl.length),m+1=gl.length→gl[m].t≤n)
  (x8:gl.length<68719476736) (hq:qs.length≤M) (hr:∀x∈qs,x.reqs.length≤M) (hM:M+f.writes.length+f.reads.length<68719476736) :
  APure prog 21 [.agg (LT.c ⟨gl,qs⟩),I n,.agg f.c] (.tuple [.agg (LT.c ⟨gl++[⟨n,f.all⟩],qqj n f qs⟩),I 0]):=by
 refine qbn func21 rfl ac (by simp[ntmps21]) rfl ?_;intro E h hN hh hu hb;rw[ntmps21]at hN;simp[go_sem,LT.c]at hb;have qxx:jp (ko qs):=by
  unfold zf at hv;rw[c0]at hv;exact(xrr hv.2).2
 refine ln (ub ?_);simp[go_sem,hN,LT.c,Foot.c];refine zy (e1:=⟨[(1,I n),(3,P0 h.length),(5,P0 (h.length+1)),(6,P0 (h.length+2)),(7,I 0)],h++[.cells [.slice (gl.map LReq.c),.slice (qs.map LQ.c)],.cells [Bo f.all,.slice (f.reads.map im),.slice (f.writes.map im)],.cells [.nils,.nils]]⟩) ?_ ?_
 ·simp-dsimp[go_sem,hN];refine ia (xiu ⟨gl,qs⟩) ?_;simp-dsimp[go_sem,hN,hv];refine ka (xew f) ae ?_;simp-dsimp[go_sem,hN,hf,h0];refine gy ?_ ?_<;>intro hc<;>simp at hc
  ·omega
  simp-dsimp[go_sem,hN];refine ia (xb7 gl n) ?_;rw[hix];rcases Nat.eq_zero_or_pos gl.length with hg0|hg0
  ·simp-dsimp[go_sem,hN,hg0];exact ic
  ·obtain⟨m,hm⟩:∃m,gl.length=m+1:=⟨gl.length - 1,aa⟩
   have hw:IntKind.i64.wrap (m:Int)=(m:Int):=qe6 aa aa;have sp:m<gl.length:=aa;have hl:=yj m sp hm.symm;have hgm:gl[m]?=some gl[m]:=da sp;simp-dsimp[go_sem,hN,hm,hw,hgm,LReq.c];refine gy ?_ ?_<;>intro hc<;>simp at hc
   ·omega
   simp-dsimp[go_sem,hN];exact ic
 clear hb;obtain⟨H,hH⟩:∃H,h++[.cells [.slice (gl.map LReq.c),.slice (qs.map LQ.c)],.cells [Bo f.all,.slice (f.reads.map im),.slice (f.writes.map im)],.cells [.nils,.nils]]++([AObj.none,.none,.uarr 95 2 (gl.map LReq.c),.none,.oarr 107 2 (v2 (h.length+9) qs)]++qnj 95 qs)=H:=⟨_,rfl⟩
 have hT0:=jcb hH;refine zy (e1:=⟨[(1,I n),(5,P0 (h.length+1)),(6,P0 (h.length+2)),(7,I 0),(8,P0 H.length)],H++[.cells [.own (h.length+5) gl.length,.own (h.length+7) qs.length]]⟩) ?_ ?_
 ·simp-dsimp[go_sem,hN];refine it (jb3 ⟨gl,qs⟩ _) ?_;rintro r h' ⟨rfl,rfl⟩;simp only[cz,d5,ee];rw[hH];simp-dsimp[go_sem,hN];exact Wk.slots bb
 have hHl:H.length=h.length+8+2 * qs.length:=qkd;have fr0:∀i,i<h.length+3→(H++[AObj.cells [.own (h.length+5) gl.length,.own (h.length+7) qs.length]])[i]?=(h++[AObj.cells [.slice (gl.map LReq.c),.slice (qs.map LQ.c)],.cells [Bo f.all,.slice (f.reads.map im),.slice (f.writes.map im)],.cells [.nils,.nils]])[i]?:=fun i hi=>by
  rw[cu aa,←hH,cu am]
 obtain⟨Y,hY⟩:∃Y,H++[AObj.cells [.own (h.length+5) gl.length,.own (h.length+7) qs.length]]=Y:=⟨_,rfl⟩
 rw[hY]at hT0 fr0⊢;have hYl:Y.length=H.length+1:=by rw[←hY];simp
 have y1:Y[h.length+1]?=some (AObj.cells [Bo f.all,.slice (f.reads.map im),.slice (f.writes.map im)]):=by rw[fr0 _ aa];simp
 have yo:=hT0.ho;have yg:=hT0.hg;have hT1:=hT0.setG (gl++[⟨n,f.all⟩]);refine zy (e1:=⟨[(1,I n),(5,P0 (h.length+1)),(6,P0 (h.length+2)),(7,I 0),(8,P0 H.length)],(Y.set (h.length+5) (.uarr 95 2 ((gl++[(⟨n,f.all⟩:LReq)]).map LReq.c))).set H.length (.cells [.own (h.length+5) (gl++[(⟨n,f.all⟩:LReq)]).length,.own (h.length+7) qs.length])⟩) ?_ ?_
 ·have yo2:∀Z,(Y.set (h.length+5) Z)[H.length]?=some (.cells [.own (h.length+5) gl.length,.own (h.length+7) qs.length]):=fun Z=>by rw[dm aa];exact yo
  simp-dsimp[go_sem,hN,yo,yg,y1,yo2,x8,LReq.c];exact⟨aa,Wk.slots bb⟩
 obtain⟨X1,hX1⟩:∃X1,(Y.set (h.length+5) (.uarr 95 2 ((gl++[(⟨n,f.all⟩:LReq)]).map LReq.c))).set H.length (.cells [.own (h.length+5) (gl++[(⟨n,f.all⟩:LReq)]).length,.own (h.length+7) qs.length])=X1:=⟨_,rfl⟩
 simp only[hX1]at hT1⊢;have fr1:∀i,i<h.length+3→X1[i]?=Y[i]?:=fun i hi=>by rw[←hX1,dm aa,dm aa]
 have x1:X1[h.length+1]?=some (AObj.cells [Bo f.all,.slice (f.reads.map im),.slice (f.writes.map im)]):=by rw[fr1 _ aa];exact y1
 have hX1l:X1.length=H.length+1:=by rw[←hX1];simp[hYl]
 clear hX1 hT0 yo yg;have hA0:Adds (h.length+3) X1 H.length (h.length+5) (h.length+7) (gl++[⟨n,f.all⟩]) (M+0) X1 ((List.range qs.length).map fun j=>h.length+9+2 * j) qs:=⟨hT1,ct _,fun _ _=>rfl,qxx,hq,hr⟩
 have hwl:∀(X:gz),(∀i,i<h.length+3→X[i]?=X1[i]?)→X[h.length+1]?=some (AObj.cells [Bo f.all,.slice (f.reads.map im),.slice (f.writes.map im)]):=fun X hX=>by rw[hX _ aa];exact x1
 refine xer (ι:=gz×List Nat) (fun a=>Adds (h.length+3) X1 H.length (h.length+5) (h.length+7) (gl++[⟨n,f.all⟩]) (M+f.writes.length) a.1 a.2 (f.writes.foldl (xl1 n) qs))
  (fun a=>⟨[(1,I n),(5,P0 (h.length+1)),(6,P0 (h.length+2)),(7,I 0),(8,P0 H.length)],a.1⟩) ?_ ?_
 ·simp-dsimp[go_sem,hN,x1];refine pa (α:=gz×List Nat) f.writes.length (fun m a=>Adds (h.length+3) X1 H.length (h.length+5) (h.length+7) (gl++[⟨n,f.all⟩]) (M+m) a.1 a.2 ((f.writes.take m).foldl (xl1 n) qs))
   (fun m a=>⟨[(1,I n),(5,P0 (h.length+1)),(6,P0 (h.length+2)),(7,I 0),(8,P0 H.length),(65,.slice (f.writes.map im)),(66,I f.writes.length),(67,I m)],a.1⟩) (X1,(List.range qs.length).map fun j=>h.length+9+2 * j) (by simpa using hA0) (Wk.slots bb) ?_
  rintro m ⟨X,ks⟩ hm hI;dsimp only at hI;have hw:=iv hm aa;simp-dsimp[go_sem,hN];refine gy ?_ ?_<;>intro hc<;>simp at hc
  ·have h1:=hI.ql;simp-dsimp[go_sem,hN,hc];refine it (xvi (r:=⟨n,true⟩) hI.tab _ hI.asc cc (fun x hx=>by have:=hI.rl x hx;omega)) ?_;rintro r h' ⟨rfl,h2,h3,h4⟩;simp-dsimp[go_sem,hN,hw];obtain⟨ks',h5⟩:=hI.add h2 h3 h4;refine⟨hc,h',⟨ks',?_⟩,Wk.slots bb⟩;rw[xjr _ _ hc];exact h5
  ·have hme:m=f.writes.length:=aa;subst hme;simp-dsimp[go_sem,hN];refine⟨X,⟨ks,?_⟩,Wk.slots bb⟩;simpa using hI
 rintro⟨X2,ks2⟩ hA2;dsimp only at hA2⊢;have x2:=hwl X2 hA2.fr;refine xer (ι:=gz×List Nat) (fun a=>Adds (h.length+3) X1 H.length (h.length+5) (h.length+7) (gl++[⟨n,f.all⟩]) (M+f.writes.length+f.reads.length) a.1 a.2 (qqj n f qs))
  (fun a=>⟨[(5,P0 (h.length+1)),(6,P0 (h.length+2)),(7,I 0),(8,P0 H.length)],a.1⟩) ?_ ?_
 ·simp-dsimp[go_sem,hN,x2];refine pa (α:=gz×List Nat) f.reads.length (fun m a=>Adds (h.length+3) X1 H.length (h.length+5) (h.length+7) (gl++[⟨n,f.all⟩]) (M+f.writes.length+m) a.1 a.2 ((f.reads.take m).foldl (xhz n f.writes) (f.writes.foldl (xl1 n) qs)))
   (fun m a=>⟨[(1,I n),(5,P0 (h.length+1)),(6,P0 (h.length+2)),(7,I 0),(8,P0 H.length),(77,.slice (f.reads.map im)),(78,I f.reads.length),(79,I m)],a.1⟩) (X2,ks2) (by simpa using hA2) (Wk.slots bb) ?_
  rintro m ⟨X,ks⟩ hm hI;dsimp only at hI;have hw:=iv hm aa;have x3:=hwl X hI.fr;simp-dsimp[go_sem,hN];refine gy ?_ ?_<;>intro hc<;>simp at hc
  ·have h1:=hI.ql;simp-dsimp[go_sem,hN,hc,x3];refine ia (xk9 f.writes _) ?_;simp-dsimp[go_sem,hN];refine gy ?_ ?_<;>intro hk<;>simp at hk
   ·simp-dsimp[go_sem,hN];refine it (xvi (r:=⟨n,false⟩) hI.tab _ hI.asc cc (fun x hx=>by have:=hI.rl x hx;omega)) ?_;rintro r h' ⟨rfl,h2,h3,h4⟩;simp-dsimp[go_sem,hN,hw];obtain⟨ks',h5⟩:=hI.add h2 h3 h4;refine⟨hc,h',⟨ks',?_⟩,Wk.slots bb⟩;rw[xjr _ _ hc];simp only[xhz,hk,fw,if_false];exact h5
   ·simp-dsimp[go_sem,hN,hw];refine⟨hc,X,⟨ks,?_⟩,Wk.slots bb⟩;rw[xjr _ _ hc];simp only[xhz,hk,if_true];exact hI.up
  ·have hme:m=f.reads.length:=aa;subst hme;simp-dsimp[go_sem,hN];refine⟨X,⟨ks,?_⟩,Wk.slots bb⟩;simpa[qqj]using hI
 rintro⟨X3,ks3⟩ hA3;dsimp only at hA3⊢;obtain⟨Z,z1,z2,z3,z4,z5,z6,z7⟩:=hA3.tab.freeze E (t:=[(5,P0 (h.length+1)),(6,P0 (h.length+2)),(7,I 0),(8,P0 H.length)]);have x4:Z[h.length+2]?=some (.cells [.nils,.nils]):=by rw[z6 _ aa,hA3.fr _ aa,fr1 _ aa,fr0 _ aa];simp
 refine AWp.wk z1 (na _ _ _ ?_);simp-dsimp[go_sem,hN,z3,x4];obtain⟨W,hW⟩:∃W,Z.set (h.length+2) (AObj.cells [AV.own (h.length+5) (gl.length+1),AV.own (h.length+7) (qqj n f qs).length])=W:=⟨_,rfl⟩
 have hz:=(cq.1 x4).1;have w2:W[h.length+2]?=some (AObj.cells [AV.own (h.length+5) (gl.length+1),AV.own (h.length+7) (qqj n f qs).length]):=by rw[←hW];exact ep hz
 have w5:W[h.length+5]?=some (AObj.arr 95 2 ((gl++[(⟨n,f.all⟩:LReq)]).map LReq.c)):=by rw[←hW,dm aa];exact z4
 have w7:W[h.length+7]?=some (AObj.arr 107 2 ((qqj n f qs).map LQ.c)):=by rw[←hW,dm aa];exact z5
 have wl:W.length=X3.length:=by rw[←hW];simp[z2]
 have wi:∀i,i<h.length→W[i]?=h[i]?:=fun i hi=>by
  rw[←hW,dm aa,z6 _ aa,hA3.fr _ aa,fr1 _ aa,fr0 _ aa,cu hi]
 rw[hW];simp[go_sem,w2,w5,w7,LT.c];exact xnp fun i o hi=>by rw[wi i (cq.1 hi).1];exact hi
theorem xu9{H:gz}(k:Nat)(iu:List Int)(q:List LReq)(t:Int)(hk:H[k]?=some (.uarr 3 1 (iu.map iw)))(hl:iu.length+q.length<68719476736) :
  ACalls prog 103 [.own k iu.length,.slice (q.map LReq.c),I t] H fun r H'=>r=.ret (.own k (iu++rh t q).length)∧H'=H.set k (.uarr 3 1 ((iu++rh t q).map iw)):=by
 refine qda func103 rfl ac (by simp[ntmps103]) ?_;intro E hN hh hu hb il kr;rw[ntmps103]at hN;simp[go_sem]at hb;have hkl:=(cq.1 hk).1;refine na _ _ _ ?_;simp-dsimp[go_sem,hN];refine ia (xb7 q t) ?_;have fin:∀L,hUnder (H.set k (.uarr 3 1 (List.map iw L))).length (H.set k (.uarr 3 1 (List.map iw L)))=true:=fun L=>by
  rw[qcb];intro ob hob;obtain⟨i,hi⟩:=dv hob;by_cases e:i=k
  ·subst e;rw[ep hkl]at hi;cases hi;rfl
  ·rw[dm (Ne.symm e)]at hi;have:=qcb.1 hu ob (c7 hi);simpa using this
 rcases xdw t q with⟨h1,h2⟩|⟨m,hm,h1,h2⟩
 ·rw[h2,e8];rw[show ni (r6 t) q = -1 from h1];have ss:H.set k (.uarr 3 1 (iu.map iw))=H:=by
   apply fy;intro i;by_cases e:i=k
   ·subst e;rw[ep hkl,hk]
   ·rw[dm (Ne.symm e)]
  rw[ss];simp-dsimp[go_sem,hN];refine jl 0 (fun _=>True) (fun n=>⟨[(0,.own k iu.length),(13,I 0),(14,I n)],H⟩) trivial (Wk.slots bb) ?_;intro n hn _;have:n=0:=aa;subst this;simp-dsimp[go_sem,hN];refine⟨_,.refl _,H,?_,hwk.refl _,ct _,hu,?_,rfl⟩
  ·rw[hk];simpa[AV.under]using hkl
  ·rw[hk]
 ·rw[h2];rw[show ni (r6 t) q=(m:Int)from h1];have hmx:(if 0<m then(m:Int)else 0)=(m:Int):=by split<;>omega
  simp-dsimp[go_sem,hN,hmx];obtain⟨F,hF⟩:∃F:Nat→List Int,F=fun n=>iu++((q.take n).filter fun x=>x.w||q[m].w).map (·.t):=⟨_,rfl⟩
  have hFm:∀n,n≤m→(F n).length≤iu.length+n:=fun n hn=>by
   rw[hF];simp only[cz,ew];have:=qlf (fun x=>x.w||q[m].w) (q.take n);rw[du]at this;omega
  have w6:∀n (hn:n<q.length),F (n+1)=F n++if q[n].w||q[m].w then [q[n].t]else []:=fun n hn=>by
   rw[hF];simp only[eg hn,gw,dz,dr];congr 2;rcases h:q[n].w||q[m].w with _|_<;>simp[h]
  have ss:H.set k (.uarr 3 1 (List.map iw (F 0)))=H:=by
   apply fy;intro i;by_cases e:i=k
   ·subst e;rw[ep hkl,hk,hF];simp
   ·rw[dm (Ne.symm e)]
  have hF0:(F 0).length=iu.length:=qgm;refine jl m (fun _=>True) (fun n=>⟨[(0,.own k (F n).length),(1,.slice (q.map LReq.c)),(7,I m),(13,I m),(14,I n)],H.set k (.uarr 3 1 ((F n).map iw))⟩) trivial (by rw[ss,hF0];exact Wk.slots (by simp[wkS,go_sem,hmx])) ?_;intro n hn _;have hw:=iv hn aa;have hset2:∀A B,(H.set k A).set k B=H.set k B:=fun A B=>by simp
  simp-dsimp[go_sem,hN];refine gy ?_ ?_<;>intro hc<;>simp at hc
  ·have hnq:n<q.length:=aa;have h9:=hFm n hn;simp-dsimp[go_sem,hN,hnq,hm,LReq.c];refine gy ?_ ?_<;>intro hg<;>try simp at hg
   ·simp-dsimp[go_sem,hN,hw,hnq,hkl,LReq.c];have tj:F (n+1)=F n++[q[n].t]:=qhu;refine⟨aa,hc,?_⟩;rw[tj,dz,cz];exact Wk.slots bb
   ·simp-dsimp[go_sem,hN,hw];have tj:F (n+1)=F n:=qgn;refine⟨hc,?_⟩;rw[tj];exact Wk.slots bb
  ·have:n=m:=aa;subst this;simp-dsimp[go_sem,hN];have hFn:F n=iu++((q.take n).filter fun x=>x.w||q[n].w).map (·.t):=by rw[hF]
   have yj:=fin (F n);refine⟨_,.refl _,H.set k (.uarr 3 1 (List.map iw (F n))),?_,?_,?_,yj,?_,?_⟩
   all_goals first
    |exact hwk.refl _
    |(simp[hkl,AV.under,hFn])
theorem jkj(x:LReq)(h:gz)(i:Nat)(t:Int)(hi:h[i]?=some (.cells [I t])):ACalls prog 102 [.agg x.c,.ptr i 0] h fun r h'=>r=.ret (Bo (decide (x.t=t)))∧h'=h:=by
 refine lw func102 ntmps102 rfl ac rfl fun E hN hh hu hb il kr=>?_;have ke:i<h.length:=(cq.1 hi).1;have a1:∀l,(h++l)[i]?=some (.cells [I t]):=fun l=>by rw[cu ke];exact hi
 simp-dsimp[go_sem,hN,a1,hu,LReq.c];exact⟨_,.refl _,h,af,af,ae,aq,rfl,rfl⟩
theorem jla(x:LReq)(t:Int):APure prog 102 [.agg x.c,.eptr [I t]] (Bo (decide (x.t=t))):=by
 refine ik func102 ntmps102 rfl ac rfl rfl fun E h hN hh hu hb=>?_;simp-dsimp[go_sem,hN,LReq.c]
theorem qb1{N i:Nat}{H:gz}{ob:AObj}(h:hUnder N H=true)(ho:ob.under N=true):hUnder N (H.set i ob)=true:=by
 rw[qcb];intro o hob;rcases qmk hob with h1|h1
 ·exact qcb.1 h o h1
 ·rw[h1];exact ho
theorem jg9{H:gz}{i:Nat}{ob:AObj}(h:H[i]?=some ob):H.set i ob=H:=by
 apply fy;intro k;by_cases e:k=i
 ·subst e;rw[ep (cq.1 h).1,h]
 ·rw[dm (Ne.symm e)]
def ua(t:Int)(l:List LReq):List LReq:=l.filter fun x=>!r6 t x
theorem jm3{H:gz}{i ci:Nat}(l:List LReq)(t:Int)(hi:H[i]?=some (.uarr 95 2 (l.map LReq.c)))(hci:H[ci]?=some (.cells [I t]))(hl:l.length<68719476736) :
  ACalls prog 101 [.own i l.length,.fn (.func 102) [] [.ptr ci 0]] H fun r H'=>r=.ret (.slice ((ua t l).map LReq.c))∧∃X,H'=H.set i (.arr 95 2 X):=by
 refine qda func101 rfl ac (by simp[ntmps101]) ?_;intro E hN hh hu hb il kr;rw[ntmps101]at hN;have nq:=(cq.1 hi).1;have l9:=(cq.1 hci).1;have ii:i≠ci:=fun e=>by rw[e,hci]at hi;cases hi
 refine ln (ub ?_);simp[go_sem,hN];refine ln (yf [_,_] _ ?_);simp[go_sem,hN];intro c a w s k;refine xuy s k (f:=.func 75) (args:=#[.tmp 8,.tmp 9]) rfl qj1 rfl af (fid:=75) af
  (fun y=>match y with| .tmp 8=>.slice (l.map LReq.c)|_=>.fn (.func 102) [] [.eptr [I t]]) ?_ (x:=I (ni (r6 t) l)) (fun h=>xu2 l _ _ (r6 t) h qi6 fun x=>jla x t h) rfl ?_
 ·intro y hy v hr;simp only[cw,ql5,or_false]at hy;rcases hy with rfl|rfl
  ·exact jh3 (n:=l.length) s.hs hi ae qg5
  ·exact jch (fun u hu=>jiv s.hs hci (by simp[AV.isData];rfl) hu) qg5
 intro a' w' s' k';refine xf _ [_,_,_] _ rfl ?_ _ a' w' s' k';simp[go_sem,hN];have hfe:ua t l=l.filter fun x=>!r6 t x:=rfl;clear s' k' s k;rcases qzt (r6 t) l with⟨h1,h2⟩|⟨m,hm,h1,h2⟩
 ·rw[h1];refine AWp.wk (zt E _ (i:=i) hi) ?_;apply na;have hi2:(H.set i (.arr 95 2 (l.map LReq.c)))[i]?=some (.arr 95 2 (l.map LReq.c)):=ep nq;simp-dsimp[go_sem,hN,hi2];have hd:ua t l=l:=List.filter_eq_self.2 fun x hx=>by
   have:=qms.1 h2 x hx;simpa using this
  exact⟨_,.refl _,H.set i (.arr 95 2 (l.map LReq.c)),rfl,hwk.refl _,ae,qgo,by rw[hd],_,rfl⟩
 ·rw[h1];have hw1':IntKind.i64.wrap ((m:Int)+1)=((m+1:Nat):Int):=by rw[iv (fp hm) aa];omega
  refine zy (e1:=⟨[(0,.own i l.length),(1,.fn (.func 102) [] [.ptr ci 0]),(5,I m)],H⟩) ?_ ?_
  ·simp-dsimp[go_sem,hN];exact Wk.slots bb
  refine xer (ι:=List LReq) (fun A=>A.length=l.length∧A.take (ua t l).length=ua t l) (fun A=>⟨[(0,.own i l.length),(5,I (ua t l).length)],H.set i (.uarr 95 2 (A.map LReq.c))⟩) ?_ ?_
  rotate_left
  ·rintro A ⟨a1,a2⟩;have hi3:(H.set i (.uarr 95 2 (A.map LReq.c)))[i]?=some (.uarr 95 2 (A.map LReq.c)):=ep nq;refine ln (yf [_,_] _ ?_);simp[go_sem,hN];intro c a w s k;refine ji8 s k (T:=53) (el:=95) (x:=.tmp 36) (y:=.tmp 37) (d1:=38) (n:=l.length) (j:=(ua t l).length) (i:=i) (sz:=2) (zr:=[I 0,Bo false]) (rows:=A.map LReq.c) rfl rfl rfl aa rfl rfl rfl af af af aa af (by simp[go_sem];exact⟨rfl,rfl⟩) af af af hi3 (by simp[a1]) (by rw[←a2,du];omega) ?_;intro a' w' s' k';refine xf _ [_,_,_,_] _ rfl ?_ c a' w' s' k';simp[go_sem,hN];clear s' k' s k;have se:(ua t l).length≤l.length:=qlf _ _;obtain⟨R,hR⟩:∃R,List.take (ua t l).length (List.map LReq.c A)++List.replicate (l.length - (ua t l).length) [I 0,Bo false]=R:=⟨_,rfl⟩
   have hRl:R.length=l.length:=by rw[←hR];simp[a1];omega
   have hRt:R.take (ua t l).length=(ua t l).map LReq.c:=by rw[←hR,qlx (by simp[a1];omega),List.take_take,Nat.min_self,←qlm,a2]
   rw[hR];refine AWp.wk (zt E _ (i:=i) (t:=95) (sz:=2) (rows:=R) (by simpa using ep nq)) ?_;have hi5:(H.set i (.arr 95 2 R))[i]?=some (.arr 95 2 R):=ep nq;apply na;simp only[gq];simp-dsimp[go_sem,hN,hi5,hRl,hRt,se];refine⟨fun r hr=>?_,?_⟩
   ·rw[←hR]at hr;rcases dt.1 hr with h9|h9
    ·obtain⟨x,_,rfl⟩:=dk.1 (gc h9);rfl
    ·rw[List.eq_of_mem_replicate h9];rfl
   exact⟨_,.refl _,H.set i (.arr 95 2 R),rfl,hwk.refl _,ae,qgo,rfl,_,rfl⟩
  simp-dsimp[go_sem,hN];rw[hw1'];have pg:ua t (l.take (m+1))=l.take m:=by
   unfold ua;rw[eg hm,gw];have e1:(l.take m).filter (fun x=>!r6 t x)=l.take m:=List.filter_eq_self.2 fun x hx=>by
    rw[←xlf (r6 t) l 0 m (by rw[db];exact h1)]at hx;exact dw.1 List.all_takeWhile x hx
   have e2:r6 t l[m]=true:=List.find?_some h2;rw[e1];simp[e2]
  refine pa (α:=List LReq) (l.length - (m+1)) (fun n A=>A.length=l.length∧A.take (ua t (l.take (m+1+n))).length=ua t (l.take (m+1+n))∧A.drop (m+1+n)=l.drop (m+1+n)∧(ua t (l.take (m+1+n))).length≤m+n)
   (fun n A=>⟨[(0,.own i l.length),(1,.fn (.func 102) [] [.ptr ci 0]),(5,I ((ua t (l.take (m+1+n))).length)),(6,I ((m+1+n:Nat)))],H.set i (.uarr 95 2 (A.map LReq.c))⟩) l ?_ ?_ ?_
  ·rw[d6,pg];have:(l.take m).length=m:=qfn;exact⟨rfl,by rw[this],rfl,aa⟩
  ·rw[jg9 hi,d6,pg];have:(l.take m).length=m:=qfn;rw[this];exact Wk.slots bb
  rintro n A hn ⟨a1,a2,a3,a4⟩;obtain⟨k,hk⟩:∃k,m+1+n=k:=⟨_,rfl⟩
  obtain⟨j,hj⟩:∃j,(ua t (l.take k)).length=j:=⟨_,rfl⟩
  rw[show m+1+(n+1)=k+1 by omega];rw[hk]at a2 a3 a4⊢;rw[hj]at a2 a4⊢;have hi3:(H.set i (.uarr 95 2 (A.map LReq.c)))[i]?=some (.uarr 95 2 (A.map LReq.c)):=ep nq;have hi4:∀Z,(H.set i (.uarr 95 2 (A.map LReq.c))++Z)[i]?=some (.uarr 95 2 (A.map LReq.c)):=fun Z=>by rw[cu qfw];exact hi3
  have hc4:∀Z,(H.set i (.uarr 95 2 (A.map LReq.c))++Z)[ci]?=some (.cells [I t]):=fun Z=>by rw[cu (by simpa using l9),dm ii];exact hci
  have hw:=iv (n:=k) (L:=l.length) aa aa;have hwj:=iv (n:=j) (L:=l.length) aa aa;have hkl:k≤l.length:=aa;simp-dsimp[go_sem,hN,hi3,a1];refine gy ?_ ?_<;>intro hc<;>simp at hc
  ·have hAk:∀h,A[k]'h=l[k]:=fun h=>by
    have:(A.drop k)[0]?=(l.drop k)[0]?:=by rw[a3]
    rw[ez,ez,d6,da h,da hc]at this;exact gh this
   have hd2:ua t (l.take (k+1))=ua t (l.take k)++if r6 t l[k]then []else [l[k]]:=by
    unfold ua;rw[eg hc,gw];congr 1;rcases h:r6 t l[k]with _|_<;>simp[h]
   have hdk:A.drop (k+1)=l.drop (k+1):=by
    have:=congrArg (List.drop 1) a3
    rwa [List.drop_drop,List.drop_drop]at this
   have s9:j<l.length:=aa;simp-dsimp[go_sem,hN,hi3,hi4,a1,hc,hAk,LReq.c];refine it (jkj l[k] _ ci t (hc4 _)) ?_;rintro r h' ⟨rfl,rfl⟩;simp-dsimp[go_sem,hN];refine gy ?_ ?_<;>intro hg<;>simp at hg
   ·simp-dsimp[go_sem,hN,hi3,hi4,a1,s9,hw,hwj,LReq.c];have hd3:ua t (l.take (k+1))=ua t (l.take k)++[l[k]]:=by rw[hd2];simp[hg]
    have hl3:(ua t (l.take (k+1))).length=j+1:=by rw[hd3];simp[hj]
    refine⟨aa,A.set j l[k],⟨by simp[a1],?_,?_,aa⟩,?_⟩
    ·rw[hl3,hd3,←a2,eg (by rw[List.length_set];omega),List.getElem_set_self,List.take_set_of_le (ct _)]
    ·rw[List.drop_set,if_pos aa];exact hdk
    ·rw[hl3,e9 _ _ qfw,gq,List.map_set];exact Wk.mk bi (hwk.app0 _) qgo (by simp[go_sem,LReq.c,nq,l9])
   ·simp-dsimp[go_sem,hN,hw];have hd3:ua t (l.take (k+1))=ua t (l.take k):=by rw[hd2];simp[hg]
    refine⟨aa,A,⟨a1,by rw[hd3,hj];exact a2,hdk,by rw[hd3];omega⟩,?_⟩;rw[hd3,hj];exact Wk.mk bi (hwk.app0 _) qgo (by simp[go_sem,LReq.c,nq,l9])
  ·have oh:k=l.length:=aa;simp-dsimp[go_sem,hN];refine⟨A,⟨a1,?_⟩,?_⟩
   ·rw[oh,qly]at a2 hj;rw[hj];exact a2
   ·rw[oh,qly]at hj;rw[hj];exact Wk.slots bb
theorem xob(q:List LReq)(t:Int)(hl:q.length<68719476736):APure prog 53 [.slice (q.map LReq.c),I t] (.slice ((re t q).map LReq.c)):=by
 refine ik func53 ntmps53 rfl ac rfl rfl fun E h hN hh hu hb=>?_;simp[go_sem]at hb;simp-dsimp[go_sem,hN];refine it (xhk q _) ?_;rintro r h' ⟨rfl,rfl⟩;simp-dsimp[go_sem,hN];refine it (jm3 (H:=h++[.cells [I t],.uarr 95 2 (q.map LReq.c)]) (i:=h.length+1) (ci:=h.length) q t ae ae hl) ?_;rintro r h' ⟨rfl,X,rfl⟩;have e1:(h++[AObj.cells [I t],.uarr 95 2 (q.map LReq.c)]).set (h.length+1) (.arr 95 2 X)=h++[AObj.cells [I t],.arr 95 2 X]:=ae;rw[e1];simp-dsimp[go_sem,hN];rfl
theorem xln(t:Int)(q:LQ):∀l,ud t (l++[q])=ud t l++if (re t q.reqs).length=0 then []else [⟨q.key,re t q.reqs⟩]
 | []=>by
  rw[ej,ud,ud,ud];rcases re t q.reqs with _|⟨x,l⟩<;>simp
 |x::l=>by
  have ih:=xln t q l;rw[qlg,ud,ih,ud];rcases re t x.reqs with _|⟨y,m⟩<;>simp
theorem xj7(t:Int):∀l,(ud t l).length≤l.length
 | []=>ct _
 |x::l=>by
  have ih:=xj7 t l;rw[ud];split<;>simp<;>omega
theorem jj4(T:LT)(t:Int)(hv:zf T=true)(hix:0≤ni (r6 t) T.glob)(hl:T.glob.length<68719476736)(hq:T.qs.length<68719476736)(hr:∀x∈T.qs,x.reqs.length<68719476736) :
  APure prog 25 [.agg T.c,I t] (.tuple [.agg (qtf t T).c,I 0]):=by
 refine ik func25 ntmps25 rfl ac rfl rfl fun E h hN hh hu hb=>?_;simp[go_sem,LT.c]at hb;simp-dsimp[go_sem,hN,LT.c];refine ia (xiu T) ?_;simp-dsimp[go_sem,hN,hv];refine ia (xb7 T.glob t) ?_;have hix2:¬ni (r6 t) T.glob<0:=aa;simp-dsimp[go_sem,hN,hix2];refine ia (xob T.glob t hl) ?_;simp-dsimp[go_sem,hN];obtain⟨F,hF⟩:∃F:Nat→List LQ,F=fun n=>ud t (T.qs.take n):=⟨_,rfl⟩
 have hF0:F 0=[]:=by rw[hF];simp[ud]
 have w6:∀n (hn:n<T.qs.length),F (n+1)=F n++if (re t T.qs[n].reqs).length=0 then []else [⟨T.qs[n].key,re t T.qs[n].reqs⟩]:=fun n hn=>by
  rw[hF];simp only[eg hn,xln]
 have zu:∀n,(F n).length≤n:=fun n=>by
  rw[hF];refine d9 (xj7 t _) ?_;rw[du];omega
 have xh:F T.qs.length=ud t T.qs:=qgm;refine jl T.qs.length (fun _=>True) (fun n=>⟨[(1,I t),(4,P0 (h.length+1)),(6,P0 (h.length+2)),(28,.slice (T.qs.map LQ.c)),(29,I T.qs.length),(30,I n)],h++[.cells [.slice (T.glob.map LReq.c),.slice (T.qs.map LQ.c)],.cells [.nils,.nils],.cells [.slice ((re t T.glob).map LReq.c),.own (h.length+3) (F n).length],.arr 107 2 ((F n).map LQ.c)]⟩) trivial
  ((qwi E _ (p:=h.length+2) (j:=1) (t:=107) (sz:=2) (xs:=[.slice ((re t T.glob).map LReq.c),.nils]) ae ae).trans qfu) ?_
 intro n hn _;have hw:=iv hn aa;simp-dsimp[go_sem,hN];refine gy ?_ ?_<;>intro hc<;>simp at hc
 ·simp-dsimp[go_sem,hN,hc,LQ.c];refine ia (xob T.qs[n].reqs t (hr _ (c9 hc))) ?_;simp-dsimp[go_sem,hN];have h9:=zu n;refine gy ?_ ?_<;>intro hg<;>simp at hg
  ·have tj:F (n+1)=F n++[⟨T.qs[n].key,re t T.qs[n].reqs⟩]:=by rw[w6 n hc,if_neg aa]
   simp-dsimp[go_sem,hN,hw,LQ.c];refine⟨aa,hc,?_⟩;rw[tj,dz,cz,c8,e6,show LQ.c ⟨T.qs[n].key,re t T.qs[n].reqs⟩=[S T.qs[n].key,.slice ((re t T.qs[n].reqs).map LReq.c)]from rfl];exact(ic qi7)
  ·have tj:F (n+1)=F n:=qih;simp-dsimp[go_sem,hN,hw];refine⟨hc,?_⟩;rw[tj];exact(ic qi7)
 ·have ii:n=T.qs.length:=aa;subst ii;simp-dsimp[go_sem,hN];simp[xh,qtf,LT.c]
theorem xv5(l:List g9):APure prog 108 [.slice (l.map im)] (Bo (ui none l)):=by
 refine ik func108 ntmps108 rfl ac rfl rfl fun E h hN hh hu hb=>?_;simp[go_sem]at hb;simp-dsimp[go_sem,hN];refine jl l.length (fun n=>ui (nv l n) (l.drop n)=ui none l) (fun n=>⟨[(0,.slice (l.map im)),(3,I n)],h⟩) qg6 ic ?_;intro n hn hI;have hw:=iv hn hb.1;simp-dsimp[go_sem,hN];refine gy ?_ ?_<;>intro hc<;>simp at hc
 ·rw[ji hc,ui]at hI;simp-dsimp[go_sem,hN,hc];refine kf 19 mixed ac ac ?_;simp-dsimp[go_sem,hN,hc];refine ku (qeb _) ae ?_;cases n with
  |zero =>
   simp-dsimp[go_sem,hN];refine gy ?_ ?_<;>intro hg<;>try simp at hg
   ·simp-dsimp[go_sem,hN];grind[nv,after]
   ·simp-dsimp[go_sem,hN,hw];exact⟨hc,qfs,ic⟩
  |succ m =>
   have hm:m<l.length:=aa;have oi:=qve (fp hm) hb.1;simp at hw;simp-dsimp[go_sem,hN,oi,hm,hc];refine⟨fun hk=>⟨hk,aa⟩,gy (fun hg=>?_) (fun hg=>?_)⟩<;>simp at hg
   ·simp-dsimp[go_sem,hN];rw[←hI];rcases hg with h1|h1<;>simp[nv,hm,after,h1]
   ·simp-dsimp[go_sem,hN,hw];simp[hg,nv,hm,after]at hI;exact⟨hc,qfx,ic⟩
 ·rw[cv aa,ui]at hI;simp-dsimp[go_sem,hN,←hI]
theorem qfd(f:Foot):APure prog 56 [.agg f.c] (Bo (my f.all f.reads f.writes)):=by
 refine ik func56 ntmps56 rfl ac rfl rfl fun E h hN hh hu hb=>?_;simp-dsimp[go_sem,hN,Foot.c];refine gy ?_ ?_<;>intro h0<;>try simp at h0
 all_goals simp-dsimp[go_sem,hN,my,h0]
 refine ka (xv5 f.reads) ae ?_;simp-dsimp[go_sem,hN];refine ka (xv5 f.writes) ae ?_;simp-dsimp[go_sem,hN,my,h0];grind
end Go.Proofs.YtbimdamecieomaaGreatDoor
