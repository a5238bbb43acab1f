/- Part 34 of a proof. -/
import Derived.Test.YtbimdamecieomaaGreatDoorR33
set_option linter.all false
set_option maxRecDepth 4000
set_option maxHeartbeats 2000000
namespace Go.Proofs.YtbimdamecieomaaGreatDoor
open Go Go.Abs Go.Cw Tryz
theorem xuq{k:g9}{r:LReq}:∀{l:List LQ},(ko l)[jv k (ko l)]?=some k→∃(h:jv k (ko l)<l.length),l[jv k (ko l)].key=k∧mp k r l=l.set (jv k (ko l)) ⟨k,l[jv k (ko l)].reqs++[r]⟩
 | [],h=>by simp at h
 |q::l,h=>by
  simp only[c8,jv]at h⊢;by_cases h1:ju q.key k=true
  ·rw[if_pos h1]at h;simp only[if_pos h1,mp];obtain⟨g1,g2,g3⟩:=xuq (r:=r) (l:=l) bh;exact⟨by simpa using g1,by simpa using g2,by simpa using g3⟩
  ·rw[if_neg h1]at h;simp only[if_neg h1,mp];have h2:q.key=k:=bh;rw[if_pos h2];exact⟨ae,ca,ae⟩
theorem xng{k:g9}{r:LReq}:∀{l:List LQ},¬(ko l)[jv k (ko l)]?=some k→mp k r l=l.take (jv k (ko l))++⟨k,[r]⟩::l.drop (jv k (ko l))
 | [],h=>by simp[mp,jv]
 |q::l,h=>by
  simp only[c8,jv]at h⊢;by_cases h1:ju q.key k=true
  ·rw[if_pos h1]at h;simp only[if_pos h1,mp];rw[xng (r:=r) (l:=l) bh];simp
  ·rw[if_neg h1]at h;simp only[if_neg h1,mp];have h2:¬q.key=k:=bh;rw[if_neg h2];simp
def qy(ks:List Nat)(qs:List LQ):List (List AV):=List.zipWith (fun k (q:LQ)=>[S q.key,.own k q.reqs.length]) ks qs
theorem xd2{ks:List Nat}{qs:List LQ}(h:ks.length=qs.length):(qy ks qs).length=qs.length:=by simp[qy,h]
theorem xmm{ks:List Nat}{qs:List LQ}{n k:Nat}{q:LQ}(h1:ks[n]?=some k)(h2:qs[n]?=some q):(qy ks qs)[n]?=some [S q.key,.own k q.reqs.length]:=by
 unfold qy;rw[List.getElem?_zipWith,h1,h2]
def isQ(H:gz)(k:Nat)(l:List LReq):Prop:=H[k]?=some (.uarr 95 2 (l.map LReq.c))∨H[k]?=some (.arr 95 2 (l.map LReq.c))
structure TabH(B:Nat)(H:gz)(o g q:Nat)(ks:List Nat)(T:LT):Prop where
 ho:H[o]?=some (.cells [.own g T.glob.length,.own q T.qs.length])
 hg:H[g]?=some (.uarr 95 2 (T.glob.map LReq.c))
 hq:H[q]?=some (.oarr 107 2 (qy ks T.qs))
 hkl:ks.length=T.qs.length
 hk:∀p,p∈ks.zip T.qs→isQ H p.1 p.2.reqs
 nd:ks.Nodup
 gk:g∉ks
 bo:B≤o
 bg:B≤g
 bq:B≤q
 bk:∀k∈ks,B≤k
theorem TabH.hkI{B:Nat}{H:gz}{o g q:Nat}{ks:List Nat}{T:LT}(h:TabH B H o g q ks T)(j k:Nat)(x:LQ)(h1:ks[j]?=some k)(h2:T.qs[j]?=some x):isQ H k x.reqs :=
 h.hk (k,x) (c7 (i:=j) (by rw[qmt];exact⟨h1,h2⟩))
theorem jf9{H:gz}{k:Nat}{l:List LReq}(h:isQ H k l):k<H.length:=h.elim (fun h=>(cq.1 h).1) (fun h=>(cq.1 h).1)
theorem TabH.kin{B:Nat}{H:gz}{o g q:Nat}{ks:List Nat}{T:LT}(h:TabH B H o g q ks T){k:Nat}(hk:k∈ks):∃x,(k,x)∈ks.zip T.qs∧isQ H k x.reqs:=by
 obtain⟨j,hj⟩:=dv hk;have ib:j<T.qs.length:=by rw[←h.hkl];exact(cq.1 hj).1
 have h2:T.qs[j]?=some T.qs[j]:=da ib;exact⟨_,c7 (i:=j) (by rw[qmt];exact⟨hj,h2⟩),h.hkI j k _ hj h2⟩
theorem TabH.kne{B:Nat}{H:gz}{o g q:Nat}{ks:List Nat}{T:LT}(h:TabH B H o g q ks T){k:Nat}(hk:k∈ks):k<H.length∧k≠o∧k≠q∧k≠g:=by
 obtain⟨x,_,hq⟩:=h.kin hk;refine⟨jf9 hq,fun e=>?_,fun e=>?_,fun e=>h.gk (e▸hk)⟩
 ·rw[e]at hq;rcases hq with hq|hq<;>(rw[h.ho]at hq;cases hq)
 ·rw[e]at hq;rcases hq with hq|hq<;>(rw[h.hq]at hq;cases hq)
theorem TabH.gne{B:Nat}{H:gz}{o g q:Nat}{ks:List Nat}{T:LT}(h:TabH B H o g q ks T):g≠o∧g≠q∧q≠o:=by
 refine⟨fun e=>?_,fun e=>?_,fun e=>?_⟩
 ·have h1:=h.hg;rw[e,h.ho]at h1;cases h1
 ·have h1:=h.hg;rw[e,h.hq]at h1;cases h1
 ·have h1:=h.hq;rw[e,h.ho]at h1;cases h1
theorem je3{ks:List Nat}{qs:List LQ}{pos k:Nat}{q:LQ}(h:ks.length=qs.length):qy (ks.take pos++k::ks.drop pos) (qs.take pos++q::qs.drop pos)=(qy ks qs).take pos++[S q.key,.own k q.reqs.length]::(qy ks qs).drop pos:=by
 unfold qy;rw[List.zipWith_append co,List.zipWith_cons_cons,List.take_zipWith,List.drop_zipWith]
theorem jk8{ks:List Nat}{k:Nat}{q:LQ}:∀{qs:List LQ} {pos:Nat},ks[pos]?=some k→qy ks (qs.set pos q)=(qy ks qs).set pos [S q.key,.own k q.reqs.length]:=by
 induction ks with
 |nil=>intro qs pos h;simp at h
 |cons x ks ih =>
  intro qs pos h;cases qs with
  |nil=>simp[qy]
  |cons y qs =>
   cases pos with
   |zero=>simp at h;subst h;simp[qy]
   |succ pos =>
    have:=ih (qs:=qs) (pos:=pos) bh;simp only[qy,List.set_cons_succ,List.zipWith_cons_cons]at this⊢;rw[this]
theorem jar{α β:Type}(l:List α)(m:List β)(n:Nat):(l.take n).zip (m.take n)=(l.zip m).take n:=by unfold List.zip;exact List.take_zipWith.symm
theorem jd9{α β:Type}(l:List α)(m:List β)(n:Nat):(l.drop n).zip (m.drop n)=(l.zip m).drop n:=by unfold List.zip;exact List.drop_zipWith.symm
theorem jjb{α:Type}(A Z:List α)(x y:α){n:Nat}(h:A.length=n):(A++x::Z).set n y=A++y::Z:=by
 subst h;rw[fq _ _ (ct _),ff];rfl
theorem xmt{N:Nat}:∀{ks:List Nat} {qs:List LQ},(∀k∈ks,k<N)→∀r,r∈qy ks qs→nb N r=true
 | [],_,_,r,h=>by simp[qy]at h
 |_::_,[],_,r,h=>by simp[qy]at h
 |k::ks,q::qs,hk,r,h=>by
  rw[qy,List.zipWith_cons_cons]at h;rcases cw.1 h with rfl|h
  ·have:=hk k ae;simp[nb,AV.under,this]
  ·exact xmt (fun x hx=>hk x bt) r h
theorem TabH.view{B:Nat}{H:gz}{o g q:Nat}{ks:List Nat}{T:LT}(h:TabH B H o g q ks T):(∀r,r∈qy ks T.qs→∀x,x∈r→(qq8 H x).isData=true)∧(qy ks T.qs).map (fun r=>r.map (qq8 H))=T.qs.map LQ.c:=by
 have key:∀(n k:Nat) (x:LQ),ks[n]?=some k→T.qs[n]?=some x→qq8 H (.own k x.reqs.length)=.slice (x.reqs.map LReq.c):=fun n k x h1 h2=>by
  rcases h.hkI n k x h1 h2 with h3|h3<;>simp[qq8,h3]
 constructor
 ·intro r hr x hx;obtain⟨n,hn⟩:=dv hr;unfold qy at hn;rw[List.getElem?_zipWith]at hn;split at hn
  ·rename_i k y hk hy;cases hn;rcases cw.1 hx with rfl|hx
   ·rfl
   ·rcases cw.1 hx with rfl|hx
    ·rw[key n k y hk hy];rfl
    ·cases hx
  ·cases hn
 ·apply fy;intro n;rw[dq,dq];rcases d8 n T.qs.length with hn|hn
  ·have h1:ks[n]?=some (ks[n]'(by rw[h.hkl];exact hn)):=da _;have h2:T.qs[n]?=some T.qs[n]:=da _;rw[xmm h1 h2,h2];simp only[fx,c8,e6,key n _ _ h1 h2];rfl
  ·rw[fa hn,fa (by rw[xd2 h.hkl];exact hn)];rfl
theorem TabH.app{B:Nat}{H:gz}{o g q:Nat}{ks:List Nat}{T:LT}(h:TabH B H o g q ks T)(l:gz):TabH B (H++l) o g q ks T:=by
 have key:∀{i:Nat} {x:AObj},H[i]?=some x→(H++l)[i]?=some x:=fun {i x} h=>by rw[cu (cq.1 h).1];exact h
 exact⟨key h.ho,key h.hg,key h.hq,h.hkl,fun p hp=>(h.hk p hp).imp key key,h.nd,h.gk,h.bo,h.bg,h.bq,h.bk⟩
theorem jjt{c c':Ctx}{f:Fn}{v:Value}(h:Rel c (.fn f [] []) v):Rel c' (.fn f [] []) v:=by
 cases h with
 |data h=>cases h
 |fn _ _ _ us vs pf hl h' h=>exact .fn f [] [] us vs pf hl (fun j x v hx=>by simp at hx) (fun j x v hx=>by simp at hx)
theorem xvi{B:Nat}{H:gz}{o g q:Nat}{ks:List Nat}{T:LT}(hT:TabH B H o g q ks T)(key:g9)(r:LReq)(ha:jp (ko T.qs))(hl:T.qs.length<68719476736)(hlr:∀x∈T.qs,x.reqs.length<68719476736) :
  ACalls prog 48 [P0 o,S key,.agg r.c] H fun r' H'=>r'=.ret (.tuple [])∧(∃ks',TabH B H' o g q ks' ⟨T.glob,mp key r T.qs⟩)∧H.length≤H'.length∧∀i,i<B→H'[i]?=H[i]?:=by
 refine qda func48 rfl ac (by simp[ntmps48]) ?_;intro E hN hh hu hb il kr;rw[ntmps48]at hN;have ky:=(cq.1 hT.ho).1;have xm:=(cq.1 hT.hq).1;have jf:=(cq.1 hT.hg).1;have bo:∀l,(H++l)[o]?=some (.cells [.own g T.glob.length,.own q T.qs.length]):=fun l=>by rw[cu ky];exact hT.ho
 have bq:∀l,(H++l)[q]?=some (.oarr 107 2 (qy ks T.qs)):=fun l=>by rw[cu xm];exact hT.hq
 refine ln (ub ?_);simp[go_sem,hN];refine ln (yf [_,_,_,_,_] _ ?_);simp[go_sem,hN,bo];intro c a w sm k;have hT1:=hT.app [.cells r.c];refine xuy sm k (f:=.func 78) (args:=#[.tmp 12,.tmp 13,.func 79]) rfl qj1 rfl af (fid:=78) af
  (fun y=>match y with| .tmp 12=>.slice (T.qs.map LQ.c)| .tmp 13=>S key|_=>.fn (.func 79) [] []) ?_ (x:=.tuple [I (jv key (ko T.qs)),Bo (decide ((ko T.qs)[jv key (ko T.qs)]?=some key))]) (jl5 T.qs key ha) rfl ?_
 ·intro y hy v hr;simp only[cw,ql5,or_false]at hy;rcases hy with rfl|rfl|rfl
  ·have h9:=xz2 sm.hs hT1.hq (xd2 hT.hkl) qg5 hT1.view.1
   rwa [hT1.view.2]at h9
  ·exact xg8 rfl qg5
  ·exact jjt (c:=c) qg5
 intro a' w' s' k';refine xf _ [_,_,_,_,_,_] _ rfl ?_ _ a' w' s' k';simp[go_sem,hN];have hps:=qt4 key (ko T.qs);rw[show(ko T.qs).length=T.qs.length by simp]at hps;have hF:=@xuq key r T.qs;have hN':=@xng key r T.qs;refine ln (ln (ub ?_));simp[go_sem,hN];generalize kq:jv key (ko T.qs)=pos at hps hF hN'⊢;have hzl:(qy ks T.qs).length=T.qs.length:=xd2 hT.hkl;by_cases hc:∃a,T.qs[pos]?=some a∧a.key=key
 ·refine xah (b:=false) (by simp[go_sem];exact hc) (fun h=>by cases h) (fun _=>?_);refine xd8 ?_;simp;obtain⟨ve,qyt,hqs⟩:=hF (by obtain⟨a,ha,hb⟩:=hc;simp[ha,hb]);have hkp:ks[pos]?=some (ks[pos]'(by rw[hT.hkl];exact ve)):=da _;have hqp:T.qs[pos]?=some T.qs[pos]:=da ve;obtain⟨k,hk⟩:∃k,ks[pos]'(by rw[hT.hkl];exact ve)=k:=⟨_,rfl⟩
  rw[hk]at hkp;have hkm:k∈ks:=c7 hkp;obtain⟨k1,k2,k3,k4⟩:=hT.kne hkm;obtain⟨n1,n2,n3⟩:=hT.gne;have hrq:=hlr _ (c9 ve);obtain⟨R,hR⟩:∃R,qy ks T.qs=R:=⟨_,rfl⟩
  have hRp:R[pos]?=some [S T.qs[pos].key,.own k T.qs[pos].reqs.length]:=by rw[←hR];exact xmm hkp hqp
  rw[hR]at hzl;have hRg:∀h,R[pos]'h=[S T.qs[pos].key,.own k T.qs[pos].reqs.length]:=fun h=>by have h9:=hRp;rw[da h]at h9;exact gh h9
  have xq':∀l,(H++l)[q]?=some (.oarr 107 2 R):=fun l=>by rw[bq,hR]
  have fin:∀(Y:gz) (nr:AObj),Y.length=H.length+1→Y[q]?=some (.oarr 107 2 (R.set pos [S T.qs[pos].key,.own k (T.qs[pos].reqs.length+1)]))→Y[k]?=some nr→nr.under Y.length=true→isQ Y k (T.qs[pos].reqs++[r]) →
    (∀i,i<H.length→i≠q→i≠k→Y[i]?=H[i]?)→Y[H.length]?=some (.cells r.c) →
    hUnder Y.length Y=true∧TabH B Y o g q ks ⟨T.glob,mp key r T.qs⟩∧∀i,i<B→Y[i]?=H[i]?:=by
   intro Y nr hYl yq yk hnu yK ye yr;have qwh:R.set pos [S T.qs[pos].key,AV.own k (T.qs[pos].reqs.length+1)]=qy ks (mp key r T.qs):=by
    rw[hqs,jk8 hkp,hR,qyt];simp
   refine⟨?_,⟨?_,?_,by rw[yq,qwh],?_,fun p hp=>?_,hT.nd,hT.gk,hT.bo,hT.bg,hT.bq,hT.bk⟩,fun i hi=>?_⟩
   ·rw[qcb];intro ob hob;obtain⟨i,hi⟩:=dv hob;have nq:i<Y.length:=(cq.1 hi).1;by_cases e1:i=q
    ·subst e1;rw[yq]at hi;cases hi;simp only[AObj.under,dw];rw[qwh];exact fun r' je=>xmt (fun k hk=>by have:=(hT.kne hk).1;omega) r' je
    ·by_cases e2:i=k
     ·subst e2;rw[yk]at hi;cases hi;exact hnu
     ·by_cases e3:i=H.length
      ·subst e3;rw[yr]at hi;cases hi;rfl
      ·rw[ye i aa e1 e2]at hi;exact qcb.1 (ww (by omega:H.length≤Y.length) hu) ob (c7 hi)
   ·rw[ye o ky (Ne.symm n3) (Ne.symm k2),hT.ho,hqs];simp
   ·rw[ye g jf n2 (Ne.symm k4)];exact hT.hg
   ·rw[hqs];simp[hT.hkl]
   ·obtain⟨j,hj⟩:=dv hp;rw[qmt]at hj;obtain⟨j1,j2⟩:=hj;simp only[hqs]at j2;by_cases e:j=pos
    ·subst e;rw[hkp]at j1;rw[ep ve]at j2;have e1:p.1=k:=(gh j1).symm;have e2:p.2=⟨key,T.qs[j].reqs++[r]⟩:=(gh j2).symm;rw[e1,e2];exact yK
    ·rw[dm (Ne.symm e)]at j2;have h2:=hT.hkI j p.1 p.2 j1 j2;have h3:=hT.kne (c7 j1);have h4:p.1≠k:=fun e3=>by
      obtain⟨a1,a2⟩:=cq.1 j1;obtain⟨b1,b2⟩:=cq.1 hkp;have h6:ks[j]=ks[pos]:=by rw[a2,b2,e3]
      rcases Nat.lt_or_gt_of_ne e with h7|h7
      ·exact qmp.1 hT.nd j pos a1 b1 h7 h6
      ·exact qmp.1 hT.nd pos j b1 a1 h7 h6.symm
     unfold isQ;rw[ye p.1 h3.1 h3.2.2.1 h4];exact h2
   ·have h1:=hT.bo;have h2:=hT.bq;have h3:=hT.bk k hkm;exact ye i aa aa aa
  rcases hT.hkI pos k _ hkp hqp with hkk|hkk
  all_goals
   have xk':∀l,(H++l)[k]?=_:=fun l=>by rw[cu k1]
   have xk2:∀l Z,((H++l).set k Z)[q]?=some (.oarr 107 2 R):=fun l Z=>by rw[dm k3];exact xq' l
   have xk3:∀l Z,((H++l).set k Z)[o]?=some (.cells [.own g T.glob.length,.own q T.qs.length]):=fun l Z=>by rw[dm k2];exact bo l
  ·refine xc1 16 15 [0,1,2,3,4] mixed ac ?_;simp-dsimp[go_sem,hN,bo,xq',xk',xk2,xk3,hkk,hzl,ve,hRp,hRg,hrq,LReq.c];refine⟨aa,?_⟩;obtain⟨Y,hY⟩:∃Y,((H++[AObj.cells [I r.t,Bo r.w]]).set k (AObj.uarr 95 2 (T.qs[pos].reqs.map LReq.c++[[AV.val (Value.int IntKind.i64 r.t),AV.val (Value.bool r.w)]]))).set q (AObj.oarr 107 2 (R.set pos [S T.qs[pos].key,AV.own k (T.qs[pos].reqs.length+1)]))=Y:=⟨_,rfl⟩
   have hYl:Y.length=H.length+1:=by rw[←hY];simp
   have yk:Y[k]?=some (AObj.uarr 95 2 ((T.qs[pos].reqs++[r]).map LReq.c)):=by rw[←hY,dm (Ne.symm k3),ep am,dz];rfl
   obtain⟨f1,f2,f3⟩:=fin Y _ hYl (by rw[←hY];exact ep am) yk rfl (by first|exact .inl yk|exact .inr yk) (fun i h1 h2 h3=>by rw[←hY,dm (Ne.symm h2),dm (Ne.symm h3),cu h1])
    (by rw[←hY,dm aa,dm aa,cy (ct _),ff];rfl)
   rw[hY];exact⟨_,.refl _,Y,rfl,hwk.refl _,aa,f1,rfl,⟨ks,f2⟩,aa,f3⟩
  ·refine xc1 16 15 [0,1,2,3,4] mixed ac ?_;simp-dsimp[go_sem,hN,bo,xq',xk',xk2,xk3,hkk,hzl,ve,hRp,hRg,hrq,LReq.c];refine⟨aa,?_⟩;obtain⟨Y,hY⟩:∃Y,((H++[AObj.cells [I r.t,Bo r.w]]).set k (AObj.arr 95 2 (T.qs[pos].reqs.map LReq.c++[[AV.val (Value.int IntKind.i64 r.t),AV.val (Value.bool r.w)]]))).set q (AObj.oarr 107 2 (R.set pos [S T.qs[pos].key,AV.own k (T.qs[pos].reqs.length+1)]))=Y:=⟨_,rfl⟩
   have hYl:Y.length=H.length+1:=by rw[←hY];simp
   have yk:Y[k]?=some (AObj.arr 95 2 ((T.qs[pos].reqs++[r]).map LReq.c)):=by rw[←hY,dm (Ne.symm k3),ep am,dz];rfl
   obtain⟨f1,f2,f3⟩:=fin Y _ hYl (by rw[←hY];exact ep am) yk rfl (by first|exact .inl yk|exact .inr yk) (fun i h1 h2 h3=>by rw[←hY,dm (Ne.symm h2),dm (Ne.symm h3),cu h1])
    (by rw[←hY,dm aa,dm aa,cy (ct _),ff];rfl)
   rw[hY];exact⟨_,.refl _,Y,rfl,hwk.refl _,aa,f1,rfl,⟨ks,f2⟩,aa,f3⟩
 ·refine xah (b:=true) (by simp[go_sem];simpa using hc) (fun _=>?_) (fun h=>by cases h);refine yf [_,_,_,_,_,_,_,_] _ ?_;simp[go_sem,hN,bo];intro c a w sm k;refine jf6 sm k (T:=54) (el:=107) (sz:=2) (x:=.tmp 26) (xa:=.tmp 23) (xb:=.tmp 24) (f:=.func 80) (d1:=27) (y:=.agg [S key,.nils]) (fid:=80) jaq rfl rfl rfl aa qj1 rfl rfl af af af aa aa af af rfl rfl (i:=q) (n:=T.qs.length) af (pos:=pos) af ae ae rfl
   ⟨Tryz.f80,func80,ac,ac⟩ (bq _) hzl hps aa fun c' a' w' s' k'=>?_
  refine xf _ [_,_,_,_,_,_,_,_,_,_] _ rfl ?_ c' a' w' s' k';have hqo:q≠o:=fun e=>by have h1:=hT.hq;rw[e,hT.ho]at h1;cases h1
  have bo2:∀X:AObj,((H++[AObj.cells r.c]).set q X)[o]?=some (.cells [.own g T.glob.length,.own q T.qs.length]):=fun X=>by rw[dm hqo];exact bo _
  simp[go_sem,hN,bo2];obtain⟨R,hR⟩:∃R,(qy ks T.qs).take pos++[S key,.nils]::(qy ks T.qs).drop pos=R:=⟨_,rfl⟩
  rw[hR];have hRl:R.length=T.qs.length+1:=by rw[←hR];simp[hzl];omega
  have hRp:R[pos]?=some [S key,.nils]:=by rw[←hR,cy (by rw[du,hzl];omega),du,hzl,gj hps,ff];rfl
  have ve:pos<T.qs.length+1:=aa;obtain⟨X,hX⟩:∃X,((H++[AObj.cells r.c]).set q (.oarr 107 2 R)).set o (.cells [.own g T.glob.length,.own q (T.qs.length+1)])=X:=⟨_,rfl⟩
  rw[hX];have hXl:X.length=H.length+1:=by rw[←hX];simp
  have xo:X[o]?=some (.cells [.own g T.glob.length,.own q (T.qs.length+1)]):=by rw[←hX];exact ep am
  have xq:X[q]?=some (.oarr 107 2 R):=by rw[←hX,dm (Ne.symm hqo)];exact ep am
  have xr:X[H.length]?=some (.cells r.c):=by rw[←hX,dm aa,dm aa];simp
  have xe:∀i,i<H.length→i≠o→i≠q→X[i]?=H[i]?:=fun i h1 h2 h3=>by rw[←hX,dm (Ne.symm h2),dm (Ne.symm h3),cu h1]
  have xo':∀l,(X++l)[o]?=some (.cells [.own g T.glob.length,.own q (T.qs.length+1)]):=fun l=>by rw[cu aa];exact xo
  have xq':∀l,(X++l)[q]?=some (.oarr 107 2 R):=fun l=>by rw[cu aa];exact xq
  have hRg:∀h,R[pos]'h=[S key,.nils]:=fun h=>by have h9:=hRp;rw[da h]at h9;exact gh h9
  have xrg:∀h,X[H.length]'h=.cells r.c:=fun h=>by have h9:=xr;rw[da h]at h9;exact gh h9
  refine xc1 16 15 [0,1,2,3,4] mixed ac ?_;simp-dsimp[go_sem,hN,xo,xq,xr,xo',xq',hRl,hRp,hRg,xrg,ve,hXl,LReq.c];have hqs:=hN' qf2;obtain⟨n1,n2,n3⟩:=hT.gne;obtain⟨Y,hY⟩:∃Y,(X++[AObj.arr 95 2 [[AV.val (Value.int IntKind.i64 r.t),AV.val (Value.bool r.w)]]]).set q (.oarr 107 2 (R.set pos [S key,AV.own (H.length+1) 1]))=Y:=⟨_,rfl⟩
  rw[hY];have hYl:Y.length=H.length+2:=by rw[←hY];simp[hXl]
  have yq:Y[q]?=some (.oarr 107 2 (R.set pos [S key,AV.own (H.length+1) 1])):=by rw[←hY];exact ep (by simp[hXl];omega)
  have ye:∀i,i<H.length+1→i≠q→Y[i]?=X[i]?:=fun i h1 h2=>by rw[←hY,dm (Ne.symm h2),cu aa]
  have yn:Y[H.length+1]?=some (.arr 95 2 [r.c]):=by rw[←hY,dm aa,cy aa,hXl,ff];rfl
  have qwh:R.set pos [S key,AV.own (H.length+1) 1]=qy (ks.take pos++(H.length+1)::ks.drop pos) (mp key r T.qs):=by
   rw[hqs,je3 hT.hkl,←hR,jjb _ _ _ _ (by rw[du,hzl];omega)];rfl
  have hksl:∀k∈ks.take pos++(H.length+1)::ks.drop pos,k=H.length+1∨k∈ks:=fun k hk=>by
   rcases dt.1 hk with h1|h1
   ·exact .inr (gc h1)
   ·rcases cw.1 h1 with h1|h1
    ·exact .inl h1
    ·exact .inr (qla h1)
  refine⟨_,.refl _,Y,rfl,hwk.refl _,aa,?_,rfl,⟨ks.take pos++(H.length+1)::ks.drop pos,?_⟩,aa,fun i hi=>?_⟩
  ·rw[qcb];intro ob hob;obtain⟨i,hi⟩:=dv hob;have nq:i<Y.length:=(cq.1 hi).1;by_cases e1:i=q
   ·subst e1;rw[yq]at hi;cases hi;simp only[AObj.under,dw];rw[qwh];exact fun r' je=>xmt (fun k hk=>by
     rcases hksl k hk with rfl|h1
     ·omega
     ·have:=(hT.kne h1).1;omega) r' je
   ·by_cases e2:i=H.length+1
    ·subst e2;rw[yn]at hi;cases hi;rfl
    ·rw[ye i aa e1]at hi;by_cases e3:i=H.length
     ·subst e3;rw[xr]at hi;cases hi;rfl
     ·by_cases e4:i=o
      ·subst e4;rw[xo]at hi;cases hi;simp[AObj.under,nb,AV.under];omega
      ·rw[xe i aa e4 e1]at hi;have:=qcb.1 (ww (by omega:H.length≤Y.length) hu) ob (c7 hi);exact this
  ·refine⟨?_,?_,by rw[yq,qwh],?_,fun p hp=>?_,?_,?_,hT.bo,hT.bg,hT.bq,fun k hk=>?_⟩
   ·rw[ye o aa (Ne.symm n3),xo,hqs];simp;omega
   ·rw[ye g aa n2,xe g jf n1 n2];exact hT.hg
   ·rw[hqs];simp[hT.hkl]
   ·rw[hqs,List.zip_append (by simp[hT.hkl]),List.zip_cons_cons,jar,jd9]at hp;have old:p∈ks.zip T.qs→isQ Y p.1 p.2.reqs:=fun h1=>by
     have h2:=hT.hk p h1;have h3:=hT.kne (List.of_mem_zip h1).1;unfold isQ;rw[ye p.1 aa h3.2.2.1,xe p.1 h3.1 h3.2.1 h3.2.2.1];exact h2
    rcases dt.1 hp with h1|h1
    ·exact old (gc h1)
    ·rcases cw.1 h1 with rfl|h1
     ·exact .inr yn
     ·exact old (qla h1)
   ·have hp:(ks.take pos++(H.length+1)::ks.drop pos).Perm ((H.length+1)::ks):=by
     have:=List.perm_middle (a:=H.length+1) (l₁:=ks.take pos) (l₂:=ks.drop pos)
     rwa [qlh]at this
    rw[hp.nodup_iff,gg];exact⟨fun h1=>by have:=(hT.kne h1).1;omega,hT.nd⟩
   ·intro h1;rcases hksl g h1 with h2|h2
    ·omega
    ·exact hT.gk h2
   ·rcases hksl k hk with rfl|h1
    ·have:=hT.bo;omega
    ·exact hT.bk k h1
  ·have h1:=hT.bo;have h2:=hT.bq;rw[ye i aa aa,xe i aa aa aa]
theorem xt9(c:Int):APure prog 281 [.val (.int .i32 c)] (Bo (ltr c)):=by
 refine ik func281 ntmps281 rfl ac rfl rfl fun E h hN hh hu hb=>?_;simp-dsimp[go_sem,hN,ltr]
theorem jjx(s:g9):APure prog 282 [S s] (I (qqw (bl s))):=by
 refine ik func282 ntmps282 rfl ac rfl rfl fun E h hN hh hu hb=>?_;simp[go_sem]at hb;simp-dsimp[go_sem,hN];refine jl s.size (fun n=>n+qqw ((bl s).drop n)=qqw (bl s)) (fun n=>⟨[(0,S s),(6,P0 h.length)],h++[.iter s n]⟩) ae ic ?_;intro n hn hI;have hw:=iv hn hb;simp-dsimp[go_sem,hN];by_cases hc:n<s.size
 ·rw[qvm hc,qqw]at hI;simp-dsimp[go_sem,hN,hc];refine ia (xt9 _) ?_;simp-dsimp[go_sem,hN];by_cases h8:(zn s n).toNat<128
  ·simp only[joj hc h8];refine⟨ax,gy (fun hg=>?_) (fun hg=>?_)⟩
   ·have jf:qvl ((zn s n).toNat:Int)=false:=by simp[qvl]at hg⊢;grind
    simp-dsimp[go_sem,hN];rw[←hI];simp[jf]
   ·have jf:qvl ((zn s n).toNat:Int)=true:=by simp[qvl]at hg⊢;grind
    simp-dsimp[go_sem,hN,hw];exact⟨hc,by rw[if_pos jf]at hI;omega,ic⟩
  ·have h9:=ji9 hc h8;have jf:qvl ((zn s n).toNat:Int)=false:=by simp[qvl,ltr];omega
   have hl:ltr ((Utf8.decode s n).1:Int)=false:=by simp[ltr];omega
   refine⟨ax,gy (fun hg=>?_) (fun hg=>?_)⟩
   ·simp-dsimp[go_sem,hN];rw[←hI];simp[jf]
   ·simp[hl]at hg;omega
 ·rw[qu3 hc,qqw]at hI;simp-dsimp[go_sem,hN,hc];have:qqw (bl s)=s.size:=aa;simp[this]
theorem jcc(s:g9):APure prog 283 [S s] (Bo (kw s)):=by
 refine ik func283 ntmps283 rfl ac rfl rfl fun E h hN hh hu hb=>?_;simp-dsimp[go_sem,hN]
 iterate 25
  refine gy (fun hg=>?_) (fun hg=>?_)
  ·simp at hg;subst hg;simp-dsimp[go_sem,hN];rfl
  simp-dsimp[go_sem,hN]
  try simp at hg
 simp[kw, *]
theorem jbl(s:g9):APure prog 340 [S s] (Bo (ml s)):=by
 refine ik func340 ntmps340 rfl ac rfl rfl fun E h hN hh hu hb=>?_;simp[go_sem]at hb;simp-dsimp[go_sem,hN];refine jl s.size (fun n=>o5 okB ((bl s).drop n)=o5 okB (bl s)) (fun n=>⟨[(0,S s),(3,I n)],h⟩) ae ic ?_;intro n hn hI;have hw:=iv hn hb;simp-dsimp[go_sem,hN];refine gy ?_ ?_<;>intro hc<;>simp at hc
 ·rw[qvm hc,o5]at hI;simp-dsimp[go_sem,hN,hc];refine gy (fun hg=>?_) (fun hg=>?_)
  ·simp-dsimp[go_sem,hN];simp[ml,←hI,okB,hg]
  ·simp-dsimp[go_sem,hN,hw];exact⟨hc,qg4,ic⟩
 ·rw[qu3 aa,o5]at hI;simp-dsimp[go_sem,hN,ml,←hI]
theorem jjj(op:Int):APure prog 339 [I op] (I (me op)):=by
 refine ik func339 ntmps339 rfl ac rfl rfl fun E h hN hh hu hb=>?_;simp-dsimp[go_sem,hN];refine gy ?_ ?_<;>intro h0<;>simp at h0<;>simp-dsimp[go_sem,hN,me,h0];refine gy ?_ ?_<;>intro h1<;>simp at h1<;>simp-dsimp[go_sem,hN,me,h0,h1];refine gy ?_ ?_<;>intro h2<;>simp at h2<;>simp-dsimp[go_sem,hN,me]
 ·rw[if_neg aa,if_neg aa,if_pos aa]
 ·rw[if_neg aa,if_neg aa,if_neg aa]
theorem xc5(s:g9):APure prog 248 [S s] (Bo (qnu s)):=by
 refine ik func248 ntmps248 rfl ac rfl rfl fun E h hN hh hu hb=>?_;rcases xhu s with rfl|h1
 ·simp-dsimp[go_sem,hN,qnu];refine qy5 .top ae ae ?_;simp-dsimp[go_sem,hN];refine qy5 .top ae ae ?_;simp-dsimp[go_sem,hN];refine qy5 .top ae ae ?_;simp-dsimp[go_sem,hN,qnu]
 ·have ll:0<s.size:=aa;have he:¬s=em:=by rintro rfl;simp at h1
  simp-dsimp[go_sem,hN,ll,he];refine ka (xt9 _) ae ?_;simp-dsimp[go_sem,hN];refine ka (jjx s) ae ?_;simp-dsimp[go_sem,hN];refine ka (jcc s) ae ?_;simp-dsimp[go_sem,hN,qnu,he]
theorem jio(op n:Int)(s:g9)(args:List Ex)(d:Nat):APure prog 330 [.agg [I op,I n,S s,.slice (args.map Ex.c)],I d] (I (vk op n s args.length d)):=by
 refine ik func330 ntmps330 rfl ac rfl rfl fun E h hN hh hu hb=>?_;simp-dsimp[go_sem,hN];refine ia (jjj _) ?_;simp-dsimp[go_sem,hN]
 repeat refine⟨ax,?_⟩
 refine gy (fun h0=>?_) (fun h0=>?_)
 ·simp-dsimp[go_sem,hN];simp at h0;rw[vk,if_pos ax]
 have qc:¬(me op<0∨(op≠1∧n≠0)∨(op≠2∧op≠3∧s≠em)):=qij;simp-dsimp[go_sem,hN];refine ka (xc5 s) ae ?_;simp-dsimp[go_sem,hN];refine gy (fun h1=>?_) (fun h1=>?_)
 ·simp-dsimp[go_sem,hN];simp at h1;rw[vk,if_neg qc,if_pos ax]
 have ll:¬(op=3∧qnu s=false):=b9;simp-dsimp[go_sem,hN]
 repeat refine⟨ax,?_⟩
 refine ka (jbl s) ae ?_;simp-dsimp[go_sem,hN]
 repeat refine⟨ax,?_⟩
 refine gy (fun h2=>?_) (fun h2=>?_)
 ·simp-dsimp[go_sem,hN];simp at h2;rw[vk,if_neg qc,if_neg ll,if_pos ax]
 have vo:¬((op=1∧n<0)∨(op=2∧ml s=false)∨(args.length:Int)≠me op):=qii;simp-dsimp[go_sem,hN];refine gy ?_ ?_<;>intro h3<;>simp at h3
 ·simp-dsimp[go_sem,hN];rw[vk,if_neg qc,if_neg ll,if_neg vo,if_pos aa]
 ·simp-dsimp[go_sem,hN];rw[vk,if_neg qc,if_neg ll,if_neg vo,if_neg aa]
theorem xw7(e:Ex)(d:Nat):APure prog 317 [.agg [I e.op,I e.n,S e.s,.slice (e.args.map Ex.c)],I d] (I (mg e d)):=by
 refine ik func317 ntmps317 rfl ac rfl rfl fun E h hN hh hu hb=>?_;simp[go_sem]at hb;simp-dsimp[go_sem,hN];refine ia (jio _ _ _ _ _) ?_;simp-dsimp[go_sem,hN];refine gy ?_ ?_<;>intro h0<;>simp at h0
 ·simp-dsimp[go_sem,hN];rw[qva,if_neg h0]
 have hd:d≤12:=by
  unfold vk at h0;grind
 simp-dsimp[go_sem,hN];refine jl e.args.length (fun n=>vq (e.args.drop n) (d+1)=vq e.args (d+1)) (fun n=>⟨[(1,I d),(16,.slice (e.args.map Ex.c)),(17,I e.args.length),(18,I n)],h⟩) ae ic ?_;intro n hn hI;have hw:=iv hn hb.2.1;have oi:IntKind.i64.wrap ((d:Int)+1)=((d+1:Nat):Int):=by rw[qe6 aa aa];rfl
 simp-dsimp[go_sem,hN];refine gy ?_ ?_<;>intro hc<;>simp at hc
 ·rw[ji hc,vq]at hI;simp-dsimp[go_sem,hN,hc,oi];have ib:SizeOf.sizeOf e.args[n]<SizeOf.sizeOf e:=Ex.arg_lt (c9 hc);refine ia (xw7 e.args[n] (d+1)) ?_;simp-dsimp[go_sem,hN];refine gy ?_ ?_<;>intro hg<;>simp at hg
  ·simp-dsimp[go_sem,hN];rw[qva e,if_pos h0,←hI,if_neg hg]
  ·simp-dsimp[go_sem,hN,hw];exact⟨hc,br,ic⟩
 ·rw[cv aa,vq]at hI;simp-dsimp[go_sem,hN];rw[qva e,if_pos h0,←hI]
termination_by SizeOf.sizeOf e
theorem xkc(e:Ex):APure prog 289 [.agg [I e.op,I e.n,S e.s,.slice (e.args.map Ex.c)]] (I (mg e 1)):=by
 refine ik func289 ntmps289 rfl ac rfl rfl fun E h hN hh hu hb=>?_;simp-dsimp[go_sem,hN];refine ia (xw7 e 1) ?_;simp-dsimp[go_sem,hN]
theorem jal(op:Int):APure prog 287 [I op] (.tuple [.agg (mu op).1.c,Bo (mu op).2]):=by
 refine ik func287 ntmps287 rfl ac rfl rfl fun E h hN hh hu hb=>?_;by_cases h1:op=1
 ·subst h1;simp-dsimp[go_sem,hN,mu]
 by_cases h2:op=2
 ·subst h2;simp-dsimp[go_sem,hN,mu]
 by_cases h3:op=3
 ·subst h3;simp-dsimp[go_sem,hN,mu]
 by_cases h4:op=4
 ·subst h4;simp-dsimp[go_sem,hN,mu]
 by_cases h7:op=7
 ·subst h7;simp-dsimp[go_sem,hN,mu]
 by_cases h5:op=5
 ·subst h5;simp-dsimp[go_sem,hN,mu]
 by_cases h6:op=6
 ·subst h6;simp-dsimp[go_sem,hN,mu]
 by_cases h8:op=8
 ·subst h8;simp-dsimp[go_sem,hN,mu]
 simp-dsimp[go_sem,hN,mu,h1,h2,h3,h4,h5,h6,h7,h8]
theorem xlo(e:Ex):APure prog 316 [.agg e.x] (Bo (zp e)):=by
 refine ik func316 ntmps316 rfl ac rfl rfl fun E h hN hh hu hb=>?_;simp-dsimp[go_sem,hN,zp]
 try grind
theorem jes(s:St)(u:Uses):APure prog 288 [.agg s.x,.agg u.c] (Bo (vd s u)):=by
 refine ik func288 ntmps288 rfl ac rfl rfl fun E h hN hh hu hb=>?_;simp-dsimp[go_sem,hN]
 repeat refine⟨ax,?_⟩
 refine ka (xlo s.a) ae ?_;simp-dsimp[go_sem,hN]
 repeat refine⟨ax,?_⟩
 refine ka (xlo s.b) ae ?_;simp-dsimp[go_sem,hN]
 repeat refine⟨ax,?_⟩
 refine gy (fun h0=>?_) (fun h0=>?_)
 ·simp-dsimp[go_sem,hN];simp[vd]at h0⊢;grind
 ·simp-dsimp[go_sem,hN];refine gy ?_ ?_<;>intro h1<;>simp at h1<;>simp-dsimp[go_sem,hN,h1]
  ·simp[vd,h1]at h0⊢;grind
  ·refine gy ?_ ?_<;>intro h2<;>simp at h2<;>simp-dsimp[go_sem,hN,h2]
   ·simp[vd,h1,h2]at h0⊢;grind
   ·simp[vd,h1,h2]at h0⊢;grind
theorem jbq(s:St)(d:Int):APure prog 252 [.agg s.x,I d] (I (sg s d)):=by
 refine ik func252 ntmps252 rfl ac rfl rfl fun E h hN hh hu hb=>?_;simp-dsimp[go_sem,hN];refine ia (jal _) ?_;simp-dsimp[go_sem,hN];refine ka (jes s (mu s.op).1) ae ?_;simp-dsimp[go_sem,hN];refine gy (fun h0=>?_) (fun h0=>?_)
 ·simp-dsimp[go_sem,hN];simp at h0;rw[sg,if_pos ax]
 have qc:¬((mu s.op).2=false∨vd s (mu s.op).1=false):=qij;simp-dsimp[go_sem,hN];refine ka (xc5 _) ae ?_;simp-dsimp[go_sem,hN];refine gy (fun h1=>?_) (fun h1=>?_)
 ·simp-dsimp[go_sem,hN];simp at h1;rw[sg,if_neg qc,if_pos ax]
 have ll:¬((mu s.op).1.name=true∧qnu s.name=false):=b9;simp-dsimp[go_sem,hN];have tail:¬((mu s.op).1.a=true∧mg s.a 1≠0)→¬((mu s.op).1.b=true∧mg s.b 1≠0)→∀x:Int,x=(if 12<d then 2 else 0)→x=sg s d:=by
  intro g1 g2 x hx;rw[sg,if_neg qc,if_neg ll,if_neg g1,if_neg g2,hx]
 have tailb:¬((mu s.op).1.a=true∧mg s.a 1≠0)→((mu s.op).1.b=true∧mg s.b 1≠0)→mg s.b 1=sg s d:=by
  intro g1 g2;rw[sg,if_neg qc,if_neg ll,if_neg g1,if_pos g2]
 refine gy (fun h2=>?_) (fun h2=>?_)
 ·simp-dsimp[go_sem,hN];refine ia (xkc s.a) ?_;simp-dsimp[go_sem,hN];refine gy ?_ ?_<;>intro h3<;>simp at h3
  ·simp-dsimp[go_sem,hN];rw[sg,if_neg qc,if_neg ll,if_pos ⟨h2,h3⟩]
  simp-dsimp[go_sem,hN];refine gy (fun h4=>?_) (fun h4=>?_)
  ·simp-dsimp[go_sem,hN];refine ia (xkc s.b) ?_;simp-dsimp[go_sem,hN];refine gy ?_ ?_<;>intro h5<;>simp at h5
   ·simp-dsimp[go_sem,hN];exact tailb ax ⟨h4,h5⟩
   simp-dsimp[go_sem,hN];refine gy ?_ ?_<;>intro h6<;>simp at h6<;>simp-dsimp[go_sem,hN]<;>refine tail ax ax _ (by rw[eq_comm];first|exact if_pos h6|exact if_neg aa)
  ·simp-dsimp[go_sem,hN];refine gy ?_ ?_<;>intro h6<;>simp at h6<;>simp-dsimp[go_sem,hN]<;>refine tail ax ax _ (by rw[eq_comm];first|exact if_pos h6|exact if_neg aa)
 ·simp-dsimp[go_sem,hN];refine gy (fun h4=>?_) (fun h4=>?_)
  ·simp-dsimp[go_sem,hN];refine ia (xkc s.b) ?_;simp-dsimp[go_sem,hN];refine gy ?_ ?_<;>intro h5<;>simp at h5
   ·simp-dsimp[go_sem,hN];exact tailb ax ⟨h4,h5⟩
   simp-dsimp[go_sem,hN];refine gy ?_ ?_<;>intro h6<;>simp at h6<;>simp-dsimp[go_sem,hN]<;>refine tail ax ax _ (by rw[eq_comm];first|exact if_pos h6|exact if_neg aa)
  ·simp-dsimp[go_sem,hN];refine gy ?_ ?_<;>intro h6<;>simp at h6<;>simp-dsimp[go_sem,hN]<;>refine tail ax ax _ (by rw[eq_comm];first|exact if_pos h6|exact if_neg aa)
theorem jnw(x:Param)(h:gz)(i:Nat)(p:Param)(hi:h[i]?=some (.cells p.c)):ACalls prog 285 [.agg x.c,.ptr i 0] h fun r h'=>r=.ret (Bo (decide (x.name=p.name)))∧h'=h:=by
 refine lw func285 ntmps285 rfl ac rfl fun E hN hh hu hb il kr=>?_;have ke:i<h.length:=(cq.1 hi).1;have a1:∀l,(h++l)[i]?=some (.cells p.c):=fun l=>by rw[cu ke];exact hi
 simp-dsimp[go_sem,hN,a1,hu];exact⟨_,.refl _,h,af,af,ae,aq,rfl,rfl⟩
theorem jc7(l:List Param)(f:FuncId)(caps:List AV)(q:Param→Bool)(h:gz)(hcn:kc h caps=caps)(hp:∀x:Param,ACalls prog f ([.agg x.c]++caps) h fun r h'=>r=.ret (Bo (q x))∧h'=h) :
  ACalls prog 314 [.slice (l.map Param.c),.fn (.func f) [] caps] h fun r h'=>r=.ret (I (ni q l))∧h'=h:=by
 refine lw func314 ntmps314 rfl ac rfl fun E hN hh hu hb il kr=>?_;simp[go_sem]at hb;simp-dsimp[go_sem,hN];refine jl l.length (fun n=>pp q n (l.drop n)=ni q l) (fun n=>⟨[(0,.slice (l.map Param.c)),(1,.fn (.func f) [] caps),(7,I l.length),(8,I n)],h⟩) qid (Wk.mk bi ae qje qfp) ?_;intro n hn hI;have hw:=iv hn hb.1;simp-dsimp[go_sem,hN];refine gy ?_ ?_<;>intro hc<;>simp at hc
 ·rw[ji hc,pp]at hI;simp-dsimp[go_sem,hN,hc,hcn];refine it (hp l[n]) ?_;rintro r h' ⟨rfl,rfl⟩;simp-dsimp[go_sem,hN];refine gy ?_ ?_<;>intro hg<;>try simp at hg
  ·simp-dsimp[go_sem,hN];rw[if_pos hg]at hI;rw[hI];exact⟨_,.refl _,h',af,af,ae,aq,rfl,rfl⟩
  ·simp-dsimp[go_sem,hN,hw];exact⟨hc,br,Wk.mk bi ae qje qfp⟩
 ·rw[cv aa,pp]at hI;simp-dsimp[go_sem,hN,←hI];exact⟨_,.refl _,h,af,af,ae,aq,rfl,rfl⟩
theorem jiw(l:List Param)(f:FuncId)(caps:List AV)(q:Param→Bool)(h:gz)(hcn:kc h caps=caps)(hp:∀x:Param,ACalls prog f ([.agg x.c]++caps) h fun r h'=>r=.ret (Bo (q x))∧h'=h) :
  ACalls prog 284 [.slice (l.map Param.c),.fn (.func f) [] caps] h fun r h'=>r=.ret (Bo (mv q l))∧h'=h:=by
 refine lw func284 ntmps284 rfl ac rfl fun E hN hh hu hb il kr=>?_;simp-dsimp[go_sem,hN];refine it (jc7 l f caps q h hcn hp) ?_;rintro r h' ⟨rfl,rfl⟩;simp-dsimp[go_sem,hN,xib];exact⟨_,.refl _,h',af,af,ae,aq,rfl,rfl⟩
theorem xyw(l:List Param):APure prog 249 [.slice (l.map Param.c)] (I (qtb l)):=by
 refine ik func249 ntmps249 rfl ac rfl rfl fun E h hN hh hu hb=>?_;unfold qtb;simp[go_sem]at hb;simp-dsimp[go_sem,hN];refine gy ?_ ?_<;>intro h0<;>simp at h0
 ·simp-dsimp[go_sem,hN];omega
 simp-dsimp[go_sem,hN];rw[if_neg aa];refine jl l.length (fun n=>qdn (l.take n) (l.drop n)=qdn [] l) (fun n=>⟨[(0,.slice (l.map Param.c)),(8,.slice (l.map Param.c)),(9,I l.length),(10,I n)],h⟩) ae ic ?_;intro n hn hI;have hw:=iv hn hb.1;simp-dsimp[go_sem,hN];refine gy ?_ ?_<;>intro hc<;>simp at hc
 ·rw[ji hc,qdn]at hI;simp-dsimp[go_sem,hN,hc];refine ia (xc5 _) ?_;simp-dsimp[go_sem,hN];refine gy ?_ ?_<;>intro h1<;>simp at h1
  ·simp-dsimp[go_sem,hN];simpa[h1]using hI
  simp-dsimp[go_sem,hN];refine gy ?_ ?_<;>intro h2<;>simp at h2
  ·simp-dsimp[go_sem,hN];simpa[h1,h2]using hI
  have vo:¬(l[n].ty<1∨3<l[n].ty):=aa;simp-dsimp[go_sem,hN,hn];have ecl:(List.map Param.c l).take n=(l.take n).map Param.c:=ae;rw[ecl];refine it (jiw (l.take n) _ _ (fun x=>decide (x.name=l[n].name)) _ qi6 (fun x=>jnw x _ _ l[n] (by simp[Param.c]))) ?_;rintro r h' ⟨rfl,rfl⟩;simp-dsimp[go_sem,hN];refine gy ?_ ?_<;>intro h3<;>try simp at h3
  ·simp-dsimp[go_sem,hN];simpa[h1,vo,h3]using hI
  ·simp-dsimp[go_sem,hN,hw];refine⟨hc,?_,ic⟩;rw[eg hc];simpa[h1,vo,h3]using hI
 ·rw[cv aa,qdn]at hI;simp-dsimp[go_sem,hN,←hI]
end Go.Proofs.YtbimdamecieomaaGreatDoor
