/- Part 43 of a proof. -/
import Derived.Test.YtolejdhnnchfpaaGreatDoorQ41
import Derived.Test.YtolejdhnnchfpaaGreatDoorQ42
set_option linter.all false
set_option maxRecDepth 8000
set_option maxHeartbeats 4000000
namespace Go.Proofs.YtolejdhnnchfpaaGreatDoor
open Go Go.Abs Go.Cw Go.Proofs.Tryz
section
variable {B:Nat} {procs:List Proc} {p:Plc} {txns:List Txn} {H H':g9} {o q ef tr:Nat} {ks:List NK} {σ:Sy}
theorem jhp(S:SysH B procs p txns H o q ef tr ks σ){i t:Nat}(hi:i<σ.nds.length)(ht:t<txns.length)(hls:t<σ.nds[i].sent.length)(htr:σ.tr.length+16<=68719476736)(hv:qlz σ.nds[i].tab=true)(hl:σ.nds[i].tab.glob.length<68719476736)(hq:σ.nds[i].tab.qs.length<68719476736)(hr:∀x∈σ.nds[i].tab.qs,x.reqs.length<68719476736) :
  ACalls prog 60 [P0 o,I i,I t] H λr h'=>r=.ret (.tuple [])/\SysH B procs p txns h' o q ef tr ks (p7 ku procs p txns σ (.send i t))/\(∀j,j<B->h'[j]?=H[j]?):=by
 obtain⟨k,hk,N⟩:=S.node hi;have hx:σ.nds[i]?=some σ.nds[i]:=cu hi;have hd:p7 ku procs p txns σ (.send i t)=⟨σ.nds.set i (pm p txns σ.nds[i] t),σ.tr++yl p σ.nds[i].node σ.nds[i].prs t (jn txns t),σ.efs⟩:=by
  simp only[p7,hx];rfl
 rw[hd];obtain⟨x,tc⟩:∃x,σ.nds[i]=x:=⟨_,rfl⟩
 rw[tc]at hx N hls hv hl hq hr|-;have ou:i<ks.length:=af;have vl:ks[i]=k:=af;have qu6:=S.ho;have hSq:=S.hq;have hSl:=S.len;refine re func60 rfl ae ac ?_;intro E hN hh hu hb iq ju;rw[ntmps60]at hN;refine jo _ _ _ ?_;simp-dsimp[go_sem,hN,qu6,hSq,N.hc,N.hs,hi,ou,vl,hls,hSl,qqf];obtain⟨x1,hx1⟩:∃x1:Nd,x1=⟨x.node,x.prs,x.tab,x.inbox,x.sent.set t true,x.exd⟩:=⟨_,rfl⟩
 obtain⟨H1,hH1⟩:∃H1,H1=H.set k.sd (.uarr 4 1 ((x.sent.map qqf).set t [.val (.bool true)])):=⟨_,rfl⟩
 obtain⟨nk1,nk2,nk3,nk4⟩:=S.nn hk hx hk hx;obtain⟨lk1,lk2,lk3,lk4⟩:=N.lt;have qpm:∀j,j≠k.sd->H1[j]?=H[j]?:=λj hj=>by rw[hH1,ct (Ne.symm hj)]
 have N1:NdH H1 k x1:=by
  rw[hx1];refine⟨?_,?_,?_,?_⟩
  .rw[qpm _ nk1.2.1,N.hc];simp
  .rw[qpm _ nk2.2.1,N.hi]
  .rw[hH1,du lk3,qiz];rfl
  .rw[qpm _ nk4.2.2,N.hx]
 have S1:=S.upN (H':=H1) hk hx (λj _ _ _ h3 _=>qpm j h3) N1;have yb:H1.length=H.length:=af;have hS1o:=S1.ho;have hS1t:=S1.ht;rw[<-hH1];have hft:=qt5 ht;have na:(yl p x.node x.prs t (jn txns t)).length<=16:=by grind[eo,yl,xj9]
 have hN1c:=N1.hc;rw[hx1]at hN1c;have xeo:=jeb p ⟨x.node,x.prs⟩ t (jn txns t);simp only at xeo;obtain⟨M,hM⟩:∃M,yl p x.node x.prs t (jn txns t)=M:=⟨_,rfl⟩
 rw[hM]at xeo na|-;rw[hft]at xeo;obtain⟨l1,l2,l3,l4⟩:=S1.lt;obtain⟨ne1,ne2,ne3,ne4,ne5,ne6⟩:=S1.ne;have hS1o2:∀X,(H1.set tr X)[o]?=H1[o]?:=λX=>ct ne3;obtain⟨H2,hH2⟩:∃H2,(H1.set tr (.uarr 162 5 (σ.tr.map Mail.c++M.map Mail.c))).set o (.cells (syC procs p txns q ef tr σ.nds.length (σ.tr.length+M.length) σ.efs.length))=H2:=⟨_,rfl⟩
 have hl2:H2.length=H.length:=af;have tq:∀j,j<B->H2[j]?=H[j]?:=λj hj=>by
  have h1:=S.lo;have h2:=S.lk k (cv hk);rw[<-hH2,ct aa,ct aa,qpm j aa]
 have hfr2:=tq;have S2:SysH B procs p txns H2 o q ef tr ks ⟨σ.nds.set i x1,σ.tr++M,σ.efs⟩:=by
  refine S1.upT (T:=σ.tr++M) ?_ ?_ S1.lo.2.2.2 λj hj h1 h2=>?_
  .rw[<-hH2,du af];simp
  .grind
  .grind
 have hx2:(⟨σ.nds.set i x1,σ.tr++M,σ.efs⟩:Sy).nds[i]?=some x1:=du hi;have hN2c:=(S2.nd i k _ hk hx2).hc;rw[hx1]at hN2c;have hu1:hUnder H.length H1=true:=by rw[hH1];exact Go.Abs.qh hu rfl
 have hu2:hUnder H.length H2=true:=by
  rw[<-hH2];refine Go.Abs.qh (Go.Abs.qh hu1 rfl) ?_;simp[AObj.under,lj,AV.under];omega
 have hte:t<(qk8 p txns).length:=by grind[xki]
 have hexg:=xf5 (p:=p) ht hte;have hex:∀X,X=H2->ACalls prog 62 [P0 o,P0 k.c,I t] X λr h'=>r=.ret (Bo (p6 (ma p (jn txns t)) x.node))/\h'=H2:=by
  rintro _ rfl;rw[<-hexg];exact xoc S2.ho (.inl rfl) hN2c hte
 refine qer 23 22 [0] mixed ae ?_;simp-dsimp[go_sem,hN,hS1o,hN1c,ht];refine m6 xeo ac ?_;simp-dsimp[go_sem,hN,hS1o,hS1t,hS1o2];refine⟨aa,?_⟩;refine iy (hex _ hH2) ?_;rintro r h' ⟨rfl,rfl⟩;simp-dsimp[go_sem,hN];refine ii ?_ ?_<;>intro hg<;>simp at hg
 .simp-dsimp[go_sem,hN];refine iy (xd7 (o:=o) (t:=t) hN2c hv hl hq hr) ?_;rintro r h' ⟨rfl,rfl⟩;simp-dsimp[go_sem,hN];have S3:=S2.upN (H':=h'.set k.c (.cells [I x.node,.slice (x.prs.map Pr.c),.slice ((relS x.tab t).glob.map LReq.c),.slice ((relS x.tab t).qs.map LQ.c),.own k.ib x.inbox.length,.own k.sd (x.sent.set t true).length,.own k.xd x.exd.length])) (x':=pm p txns x t) hk hx2 (λj _ h1 _ _ _=>by rw[ct (Ne.symm h1)]) ?_
  .refine⟨_,.refl _,_,qez,hwk.refl _,by simp[hl2],?_,rfl,?_,λj hj=>?_⟩
   .rw[gz,hl2];refine Go.Abs.qh hu2 ?_;simp[AObj.under,lj,AV.under,hl2,lk2,lk3,lk4]
   .simp_all
   .rw[ct (by have:=(S.lk k (cv hk)).1;omega)];exact hfr2 j hj
  .have N2:=S2.nd i k _ hk hx2;have e:pm p txns x t=⟨x.node,x.prs,relS x.tab t,x.inbox,x.sent.set t true,x.exd⟩:=by grind[pm]
   rw[hx1]at N2;rw[e];refine⟨du N2.lt.1,?_,?_,?_⟩
   .rw[ct nk1.1];exact N2.hi
   .rw[ct nk1.2.1];exact N2.hs
   .rw[ct nk1.2.2];exact N2.hx
 .have e:pm p txns x t=x1:=by unfold pm;rw[if_pos hg,hx1]
  rw[e];simp-dsimp[go_sem,hN];exact⟨_,.refl _,_,qez,hwk.refl _,by rw[hl2];exact cn _,by rw[hl2];exact hu2,rfl,S2,hfr2⟩
end
theorem xl8{p:Plc}{l:List Shard}(h:l.length≠(nq p).length):qmh p l=false:=by
 rw[fu];intro hh;obtain⟨_,h2,_⟩:=qyy.1 hh;exact h af
theorem xsv{p:Plc}{x:Shard}{y:Int}{l:List Shard}{ns:List Int}:(decide ((x::l).map (·.node)=y::ns)&&(x::l).all (qmo p))=(decide (x.node=y)&&qmo p x&&(decide (l.map (·.node)=ns)&&l.all (qmo p))):=af
theorem jhv{p:Plc}{l:List Pr}{n:Int}:(pq p l n).length=l.length↔l.all (λq=>decide (ly p q.key=n))=true:=by simp[List.length_filter_eq_length_iff,dr,pq]
theorem xk8(p:Plc)(l:List Shard):APure prog 10 [.agg p.c,.slice (l.map Shard.c)] (Bo (qmh p l)):=by
 have qm:=qc0 p;have nk:=qv0 p;obtain⟨R,hR⟩:∃R,qmh p l=R:=⟨_,rfl⟩
 have jm:=xl8 (p:=p) (l:=l);rw[hR]at jm|-;unfold qmh at hR;obtain⟨v,hv⟩:∃v,jy p=v:=⟨_,rfl⟩
 rw[hv]at hR nk;obtain⟨ns,hns⟩:∃ns,nq p=ns:=⟨_,rfl⟩
 have qv4:=qzj p;rw[hns]at hR jm qm qv4;refine lz func10 rfl ae ac rfl ?_;intro E h hN hh hu hb;rw[ntmps10]at hN;refine jo _ _ _ ?_;simp[go_sem,Plc.c]at hb;simp-dsimp[go_sem,hN,Plc.c];refine iv qv4 ?_;simp-dsimp[go_sem,hN];refine iv nk ?_;simp-dsimp[go_sem,hN];refine ii ?_ ?_<;>intro h0<;>simp at h0
 .have:R=false:=by
   rcases h0 with rfl|h0
   .grind
   .grind
  subst this;simp-dsimp[go_sem,hN]
 obtain⟨rfl,h1⟩:=h0;have h1:l.length=ns.length:=aa;rw[dh]at hR;simp-dsimp[go_sem,hN,Plc.c];refine jz l.length (λn=>(decide ((l.drop n).map (·.node)=ns.drop n)&&(l.drop n).all (qmo p))=R) (λn=>⟨[(2,.ptr h.length 0),(5,.slice (ns.map ka)),(20,.slice (l.map Shard.c)),(21,I l.length),(22,I n)],h++[.cells [I p.ver,.slice (p.parts.map Part.c)]]⟩) af (Wk.mk ai ac am ag) ?_
 intro n hn hI;have hw:=jj hn (show l.length<=68719476736 by omega);simp-dsimp[go_sem,hN];refine ii ?_ ?_<;>intro hc<;>simp at hc
 .have nh:n<ns.length:=aa;rw[jv hc,jv nh,xsv]at hI;have hol:=jhv (p:=p) (l:=l[n].prs) (n:=l[n].node);obtain⟨X,hX⟩:∃X,l[n]=X:=⟨_,rfl⟩
  rw[hX]at hI hol;obtain⟨O,hO⟩:∃O,pq p X.prs X.node=O:=⟨_,rfl⟩
  have howned:=xka p X.prs X.node hv;rw[hO]at hol howned;simp-dsimp[go_sem,hN,hc,nh,hX];refine jt 24 mixed ae ae ?_;simp-dsimp[go_sem,hN,hc,nh,hX,ka];refine m6 (qb6 X.prs) (λhh=>of_decide_eq_true hh) ?_;simp-dsimp[go_sem,hN];refine m6 howned ac ?_;simp-dsimp[go_sem,hN];refine ii ?_ ?_<;>intro hg<;>simp at hg
  .have:(decide (X.node=ns[n])&&qmo p X)=false:=by
    unfold qmo;rcases hg with(hg|hg)|hg
    .simp[hg]
    .simp[hg]
    .grind
   rw[this,fl]at hI;subst hI;simp-dsimp[go_sem,hN]
  .have:(decide (X.node=ns[n])&&qmo p X)=true:=by
    unfold qmo;rw[decide_eq_true hg.1.1,hg.1.2,hol.1 aa];rfl
   rw[this,dh]at hI;rw[qjo]at hI;simp-dsimp[go_sem,hN,hw];exact⟨hc,hI,mj⟩
 .rw[cq aa,cq aa]at hI;simp at hI;subst hI;simp-dsimp[go_sem,hN]
abbrev qk0(l:List Shard):Nat:=(l.map λx=>x.prs.length).sum
theorem xta{l:List Shard}{n:Nat}(h:n<l.length):qk0 (l.take (n+1))=qk0 (l.take n)+l[n].prs.length:=by
 unfold qk0;rw[ec h,eg,List.sum_append];simp
theorem xne(l:List Shard)(n:Nat):qk0 (l.take n)<=qk0 l:=by
 unfold qk0
 conv=>rhs;rw[<-gn n l]
 rw[eg,List.sum_append];omega
theorem qeo(l:List Shard)(hB:qk0 l<68719476736):APure prog 19 [.slice (l.map Shard.c)] (.tuple [.slice ((qlw l).1.map Pr.c),I (qlw l).2]):=by
 obtain⟨R,hR⟩:∃R,qlw l=R:=⟨_,rfl⟩
 rw[hR];unfold qlw at hR;refine lz func19 rfl ae ac rfl ?_;intro E h hN hh hu hb;rw[ntmps19]at hN;refine jo _ _ _ ?_;simp[go_sem]at hb;simp-dsimp[go_sem,hN];refine jz l.length (λn=>qlk (match n with| 0=>none|m+1=>(l[m]?).map (·.node)) (l.drop n)=qlk none l) (λn=>⟨[(0,.slice (l.map Shard.c)),(11,.slice (l.map Shard.c)),(12,I l.length),(13,I n)],h⟩) ac (Wk.mk ai ac aa ag) ?_
 intro n hn hI;have hw:=jj hn hb.1;simp-dsimp[go_sem,hN];refine ii ?_ ?_<;>intro hc<;>simp at hc
 .rw[jv hc]at hI;obtain⟨X,hX⟩:∃X,l[n]=X:=⟨_,rfl⟩
  rw[hX]at hI;cases n with
  |zero =>
   rw[qlk]at hI;simp-dsimp[go_sem,hN,hc,hX];refine jt 11 mixed ae ae ?_;simp-dsimp[go_sem,hN];refine kq (qb6 X.prs) ac ?_;simp-dsimp[go_sem,hN];refine ii ?_ ?_<;>intro hg<;>simp at hg
   .rw[hg,qj5,fl]at hI;rw[if_neg af]at hR;subst hR;simp-dsimp[go_sem,hN]
   .rw[hg,fa,dh]at hI;simp-dsimp[go_sem,hN,hw];refine⟨hc,?_,(Wk.mk ai ac aa ag)⟩;simp only[cu hc,hX,e8];simpa using hI
  |succ m =>
   have hm:m<l.length:=aa;have oh:=qq9 (ez hm) hb.1;have hw3:IntKind.i64.wrap ((m:Int)+1+1)=(m:Int)+1+1:=af;simp only[cu hm,e8]at hI;rw[qlk]at hI;simp-dsimp[go_sem,hN,hc,hX];refine⟨aa,?_⟩;refine jt 11 mixed ae ae ?_;simp-dsimp[go_sem,hN,oh,hm];refine kq (qb6 X.prs) ac ?_;simp-dsimp[go_sem,hN];refine ii ?_ ?_<;>intro hg<;>simp at hg
   .have:(decide (l[m].node<X.node)&&jl X.prs)=false:=by
     rcases hg with hg|hg
     .grind
     .grind
    rw[this,fl]at hI;rw[if_neg af]at hR;subst hR;simp-dsimp[go_sem,hN]
   .rw[decide_eq_true aa,hg.2,dh,dh]at hI;simp-dsimp[go_sem,hN,hw3];refine⟨hc,?_,(Wk.mk ai ac aa ag)⟩;simp only[cu hc,hX,e8];exact hI
 .have th:n=l.length:=aa;subst th;have hgo:qlk none l=true:=by grind[cq,qlk]
  rw[if_pos hgo]at hR;simp-dsimp[go_sem,hN];refine td (α:=List Pr) l.length (λk out=>qr5 (l.drop k) out=R/\out.length<=qk0 (l.take k)) (λk out=>⟨[(6,.slice (out.map Pr.c)),(38,.slice (l.map Shard.c)),(39,I l.length),(40,I k)],h⟩) [] af ((quy E _).trans (Wk.mk ai ac aa ag)) ?_;intro k out hk hJ;obtain⟨hJ,hlo⟩:=hJ;have hwk:=jj hk hb.1;simp-dsimp[go_sem,hN];refine ii ?_ ?_<;>intro hd<;>simp at hd
  .have h1:=xta hd;have h2:=xne l (k+1);rw[jv hd,qr5]at hJ;obtain⟨X,hX⟩:∃X,l[k]=X:=⟨_,rfl⟩
   rw[hX]at hJ h1;have vp:=xhe out X.prs;simp-dsimp[go_sem,hN,hd,hX];refine iv (xpo out X.prs aa) ?_;simp-dsimp[go_sem,hN];refine ii ?_ ?_<;>intro he<;>simp at he
   .rw[if_pos he]at hJ;subst hJ;simp-dsimp[go_sem,hN]
   .rw[if_neg (by simp[he])]at hJ;simp-dsimp[go_sem,hN,hwk];exact⟨hd,_,⟨hJ,aa⟩,(Wk.mk ai ac aa ag)⟩
  .rw[cq aa,qr5]at hJ;subst hJ;simp-dsimp[go_sem,hN]
section
variable {procs:List Proc} {p:Plc} {txns:List Txn} {H H':g9} {l:List Shard} {choices:List Int} {s:List Pr}
variable {tT:TypeId} {tx:Nat×Nat} {g:Nat}
theorem jjm{B o q ef tr:Nat}{ks:List NK}{σ:Sy}{P:Nat}(S:SysH B procs p txns H o q ef tr ks σ)(hp:jy p=true)(hB:BatchIn ku procs txns)(hs:l6 s)(h0:jl s=true)(Y:SyOk ku procs p txns s σ)(D:BdOk p txns P (256 * txns.length) σ)
  (hg:H[g]?=some (rn tT tx)) (hgB:g<B) (hT:txns.length<=1048576) (hP:P<=3500000000) {a:Cw.Act} (ha:a∈wc p txns σ) :
  ∃f x y,qn3 o a=[.fn (.func f) [P0 o] [],I x,I y]/\ACalls prog f [P0 o,I x,I y] H λr h'=>r=.ret (.tuple [])/\(∃tr2,SysH B procs p txns h' o q ef tr2 ks (p7 ku procs p txns σ a))/\(∀j,j<B->h'[j]?=H[j]?):=by
 have qm:σ.nds.length<=16:=by
  have:=qc0 p;rw[<-Y.nodes,eo]at this;exact this
 have htr:=D.tr;rcases qvu.1 ha with h|h|h
 .obtain⟨i,t,hi,ht,hc,rfl⟩:=xaf.1 h;have mw:=dk hi;have N:=Y.nd _ mw;obtain⟨t1,t2⟩:=D.tb _ mw;obtain⟨q1,q2⟩:=xky N.tb t2;refine⟨_,_,_,rfl,(jhp S hi ht qgm aa (N.valid hp) aa aa (λx hx=>by have:=q2 x hx;omega)).mono λr h' hr=>⟨hr.1,⟨_,hr.2.1⟩,hr.2.2⟩⟩
 .obtain⟨i,hi,rfl⟩:=qzl.1 h;refine⟨_,_,0,rfl,(jh0 (j:=0) S hi qm aa (λx hx=>by have:=D.ib x hx;omega))⟩
 .obtain⟨i,t,hi,ht,hc,rfl⟩:=xa0.1 h;have mw:=dk hi;have N:=Y.nd _ mw;obtain⟨t1,t2⟩:=D.tb _ mw;obtain⟨q1,q2⟩:=xky N.tb t2;obtain⟨c1,c2,c3⟩:=qx4.1 hc;have qxc:=(xj3 hp hB hs h0 Y mw ht c3).2.1;have jk:∀p',qo7 procs txns[t]=some p'->RunIn ku p' txns[t].args (u3 t σ.nds[i].node σ.nds[i].inbox).1:=λp' h=>xlg hB (dk ht) qxc h;have wy:=xtp jk;have se:∀m∈uj t σ.nds[i].node σ.nds[i].inbox,m.prs.length<=P:=λm hm=>D.mi _ mw m (xy5 hm);have hmn:=jao Y mw t;have h16:=dx P (show(uj t σ.nds[i].node σ.nds[i].inbox).length+1<=17 by omega);have h16':=dx P hmn;have ki:=xzq se;have hpr:=D.pr _ mw;refine⟨_,_,_,rfl,(jgm S hp hg hgB hi ht qgn (by rw[Y.el];exact ht) c1 se aa aa jk aa (N.valid hp) aa aa (λx hx=>by have:=q2 x hx;omega)).mono λr h' hr=>⟨hr.1,⟨_,hr.2.1⟩,hr.2.2⟩⟩
theorem qd8(hg:H[g]?=some (rn tT tx))(hB:BatchIn ku procs txns)(hr:∀x∈l,l6 x.prs)(hT:txns.length<=1048576)(hP:∀x∈l,x.prs.length<=3000000000) :
  ACalls prog 16 [.slice (procs.map Proc.c),.agg p.c,.slice (l.map Shard.c),.slice (txns.map Txn.c),.slice (choices.map ka)] H λr h'=>r=.ret (.tuple [.slice ((qmr ku procs p l txns choices).1.map Shard.c),.slice ((qmr ku procs p l txns choices).2.map Eff.c)])/\h'=H:=by
 obtain⟨R,hR⟩:∃R,qmr ku procs p l txns choices=R:=⟨_,rfl⟩
 rw[hR];unfold qmr at hR;have nk:=xk8 p l;obtain⟨v,hv⟩:∃v,qmh p l=v:=⟨_,rfl⟩
 rw[hv]at nk hR;refine re func16 rfl ae ac ?_;intro E hN hh hu hb iq ju;rw[ntmps16]at hN;refine jo _ _ _ ?_;simp-dsimp[go_sem,hN,Plc.c];refine iv nk ?_;simp-dsimp[go_sem,hN];refine ii ?_ ?_<;>intro hc<;>simp at hc
 .subst hc;rw[if_neg ac]at hR;subst hR;simp-dsimp[go_sem,hN];exact⟨_,.refl _,H,ag,ag,ac,aq,rfl,rfl⟩
 subst hc;rw[if_pos rfl]at hR;obtain⟨h1,h2,h3⟩:=qyy.1 hv;have hll:l.length<=16:=by grind[eo,qc0]
 have ue:=λX=>xz5 (procs:=procs) (p:=p) (txns:=txns) (H:=X) (l:=l) h1 hll hT;obtain⟨s,g1,g2,g3,g4⟩:=xku hv;have hs:=g3 hr;obtain⟨H1,hH1⟩:∃H1,H++[AObj.cells [I p.ver,.slice (p.parts.map Part.c)]]=H1:=⟨_,rfl⟩
 have yb:H1.length=H.length+1:=af;have v7:g<H.length:=(cm.1 hg).1;have zp:H1[g]?=some (rn tT tx):=af;simp-dsimp[go_sem,hN,Plc.c];rw[hH1];refine iy (ue _) ?_;rintro r X ⟨o,q,ef,tr,ks,rfl,S0,hX0⟩;rw[yb]at S0 hX0;have Y0:=xqu (fmt:=ku) (procs:=procs) h1 hB hs g2 h2 (λx hx=>⟨(h3 x hx).1,hr x hx,(h3 x hx).2,λk hk=>g4 x hx k hk⟩);have D0:=xxs (txns:=txns) h1 hll hP;have hmu0:mu p txns (vt p txns l)<=400 * txns.length:=by
  have e1:=D0.tr;have e2:=xgz (N:=txns.length) ((vt p txns l).nds.map (u0 p txns)) λy hy=>by
   obtain⟨x,_,rfl⟩:=cy.1 hy;exact xhk _ _
  rw[eo]at e2;have e3:(vt p txns l).nds.length=l.length:=by simp[vt]
  rw[e3]at e2;have e4:=dx txns.length hll;unfold mu;omega
 unfold xd2 at hR;simp only at hR;obtain⟨Fσ,hF⟩:∃Fσ,qrv ku procs p txns choices (mu p txns (vt p txns l)) 0 (vt p txns l)=Fσ:=⟨_,rfl⟩
 rw[hF]at hR;simp-dsimp[go_sem,hN];refine qvb (α:=Nat×Sy×g9×Nat) (λx=>SyOk ku procs p txns s x.2.1/\BdOk p txns (3000000000+64 * txns.length) (256 * txns.length) x.2.1/\SysH (H.length+1) procs p txns x.2.2.1 o q ef x.2.2.2 ks x.2.1/\(∃f,mu p txns x.2.1<=f/\qrv ku procs p txns choices f x.1 x.2.1=Fσ)/\(∀j,j<H.length+1->x.2.2.1[j]?=H1[j]?)/\x.1+mu p txns x.2.1<=400 * txns.length)
  (λx=>⟨[(4,.slice (choices.map ka)),(12,.ptr o 0),(13,I x.1)],x.2.2.1⟩) (λx=>mu p txns x.2.1) (0,vt p txns l,X,tr) ⟨Y0,D0,S0,⟨_,cn _,hF⟩,hX0,by simpa using hmu0⟩ (Wk.slots bi) ?_
 clear S0 hX0 Y0 D0 hmu0 hF tr X;rintro⟨step,σ,X,tr⟩ ⟨Y,D,S,⟨f,hf,jk⟩,hX,kn⟩;dsimp only at Y D S hf jk hX kn|-;have qm:σ.nds.length<=16:=by
  have:=qc0 p;rw[<-Y.nodes,eo]at this;exact this
 have htr:=D.tr;have hact:=jae S qm aa aa λx hx=>⟨(Y.nd x hx).ls,(Y.nd x hx).le,by have:=D.tb x hx;omega⟩
 have hw:IntKind.i64.wrap ((step:Int)+1)=(step:Int)+1:=qed aa aa;simp-dsimp[go_sem,hN];refine iy hact ?_;rintro r h' ⟨rfl,za⟩;rw[za];clear za h';simp-dsimp[go_sem,hN];refine ii ?_ ?_<;>intro hc<;>simp at hc
 .have hrF:σ=Fσ:=by
   rw[<-jk];cases f with
   |zero=>rfl
   |succ f=>rw[qrv,hc];rfl
  subst hrF;obtain⟨l1,l2,l3,l4⟩:=S.lt;have hSo:(X++[AObj.oarr 89 3 ((wc p txns σ).map (qn3 o))])[o]?=some (.cells (syC procs p txns q ef tr σ.nds.length σ.tr.length σ.efs.length)):=by rw[co l1];exact S.ho
  have hSq:(X++[AObj.oarr 89 3 ((wc p txns σ).map (qn3 o))])[q]?=some (.oarr 97 1 (ks.map λk=>[.ptr k.c 0])):=by rw[co l2];exact S.hq
  have hSl:=S.len;simp-dsimp[go_sem,hN,hSo,hSq,hSl];obtain⟨X3,hX3⟩:∃X3,X++[AObj.oarr 89 3 ((wc p txns σ).map (qn3 o))]=X3:=⟨_,rfl⟩
  have hX3l:X3.length=X.length+1:=af;have hX3o:∀j,j<X.length->X3[j]?=X[j]?:=λj hj=>by rw[<-hX3];exact co hj
  obtain⟨X5,hX5⟩:∃X5,X3.set ef (.arr 82 8 (σ.efs.map Eff.c))=X5:=⟨_,rfl⟩
  have hX5l:X5.length=X.length+1:=af;obtain⟨n1,n2,n3,n4,n5,n6⟩:=S.ne;have hX5o:∀j,j<X.length->j≠ef->X5[j]?=X[j]?:=λj hj h=>by rw[<-hX5,ct (Ne.symm h)];exact hX3o j hj
  have hBo:=S.lo;obtain⟨Hk,hHk⟩:∃Hk:List Shard->g9,∀al,X5++[AObj.arr 53 2 (al.map Shard.c)]=Hk al:=⟨_,λ_=>rfl⟩
  have hHl:∀al,(Hk al).length=X.length+2:=λal=>by rw[<-hHk];simp[hX5l]
  have hHo:∀al,(Hk al)[o]?=some (.cells (syC procs p txns q ef tr σ.nds.length σ.tr.length σ.efs.length)):=λal=>by rw[<-hHk,co aa,hX5o _ l1 (Ne.symm n2)];exact S.ho
  have hHq:∀al,(Hk al)[q]?=some (.oarr 97 1 (ks.map λk=>[.ptr k.c 0])):=λal=>by rw[<-hHk,co aa,hX5o _ l2 (Ne.symm n4)];exact S.hq
  have hHe:∀al,(Hk al)[ef]?=some (.arr 82 8 (σ.efs.map Eff.c)):=λal=>by rw[<-hHk,co aa,<-hX5,du aa]
  have hHa:∀al,(Hk al)[X.length+1]?=some (.arr 53 2 (al.map Shard.c)):=λal=>by rw[<-hHk,cx aa];simp[hX5l]
  have hHs:∀al rows,(Hk al).set (X.length+1) (.arr 53 2 rows)=X5++[AObj.arr 53 2 rows]:=λal rows=>by rw[<-hHk,fk _ _ aa];simp[hX5l]
  obtain⟨shL,hshL⟩:∃shL:Nat->List Shard,∀n,(σ.nds.take n).map (λx=>(⟨x.node,x.prs⟩:Shard))=shL n:=⟨_,λ_=>rfl⟩
  rw[hX3];refine jz σ.nds.length (λ_=>True) (λn=>⟨[(12,.ptr o 0),(16,.own (X.length+1) n),(53,.own q σ.nds.length),(54,I σ.nds.length),(55,I n)],Hk (shL n)⟩) trivial ?_ ?_
  .refine(qdt E _ (i:=ef) (t:=82) (sz:=8) (rows:=σ.efs.map Eff.c) (by simp only[hX3o _ l3];exact S.he)).trans ?_;simp only[hX5];refine(qq1 E _ 16 53 2 ag).trans ?_;simp only[hX5l];rw[show X5++[AObj.arr 53 2 []]=Hk (shL 0)from by rw[<-hshL];exact hHk []];exact Wk.slots bi
  intro n hn _;have hwn:=jj hn aa;simp-dsimp[go_sem,hN];refine ii ?_ ?_<;>intro hd<;>simp at hd
  .obtain⟨k,hk,N⟩:=S.node hd;have hkl:n<ks.length:=aa;have vl:ks[n]=k:=af;obtain⟨gk,_⟩:=S.gt hk (cu hd);obtain⟨x,hx⟩:∃x,σ.nds[n]=x:=⟨_,rfl⟩
   rw[hx]at N;have hHc:∀al,(Hk al)[k.c]?=some (.cells (ndC x k)):=λal=>by rw[<-hHk,co (by have:=N.lt.1;omega),hX5o _ N.lt.1 gk.2.2.1];exact N.hc
   have htk:shL (n+1)=shL n++[⟨x.node,x.prs⟩]:=by rw[<-hshL,<-hshL,ec hd,eg,hx];rfl
   obtain⟨al,hal⟩:∃al,shL n=al:=⟨_,rfl⟩
   have iz:al.length=n:=by rw[<-hal,<-hshL];simp;omega
   rw[htk,hal];simp-dsimp[go_sem,hN,hHq,hkl,vl,hd,hSl,hHc,hHa,iz];refine⟨aa,?_⟩;rw[hHs,show X5++[AObj.arr 53 2 (al.map Shard.c++[[I x.node,.slice (x.prs.map Pr.c)]])]=Hk (al++[⟨x.node,x.prs⟩])from by rw[<-hHk,eg];rfl];exact Wk.slots (by simp[wkS,go_sem,hwn])
  .have hn2:n=σ.nds.length:=aa;subst hn2;have na:=hshL σ.nds.length;rw[gw]at na;rw[na]at hR;obtain⟨al,hal⟩:∃al,shL σ.nds.length=al:=⟨_,rfl⟩
   have iz:al.length=σ.nds.length:=af;rw[hal]at hR|-;simp-dsimp[go_sem,hN];refine jt 6 mixed ae ae ?_;simp-dsimp[go_sem,hN,hHo,hHe,hHa,iz];have hpre:hwk (Hk al) H:=by
    have hz:∀j,j<H.length->(Hk al)[j]?=H[j]?:=λj hj=>by
     rw[<-hHk,co aa,hX5o _ aa aa,hX _ aa,<-hH1,co hj]
    have e:Hk al=H++(Hk al).drop H.length:=by
     have e1:(Hk al).take H.length=H:=by
      refine fh λj=>?_;rw[dt];split
      .grind
      .grind
     have e2:=gn H.length (Hk al);rw[e1]at e2;exact e2.symm
    rw[e];exact hwk.app0 _
   subst hR;exact⟨_,.refl _,H,qez,hpre,cn _,hu,rfl,rfl⟩
 .obtain⟨a,ha,hai⟩:=xov (choices:=choices) (step:=step) hc;obtain⟨al,hal⟩:∃al,wc p txns σ=al:=⟨_,rfl⟩
  have hpos:0<al.length:=af;obtain⟨ix,u7⟩:∃ix,qrh choices step al.length=ix:=⟨_,rfl⟩
  rw[hal,u7]at hai;have hixl:ix<al.length:=(cm.1 hai).1;have hcho:=jef choices step al.length hpos;rw[u7]at hcho;have hYs:=xqw h1 hB hs g2 Y ha;have hDs:=jhj h1 hB hs g2 Y D ha;have hms:=xno h1 (qc0 p) Y ha;obtain⟨X2,hX2⟩:∃X2,X++[AObj.oarr 89 3 (al.map (qn3 o)),AObj.cells (qn3 o a)]=X2:=⟨_,rfl⟩
  have S2:=S.up0 (H':=X2) λj hj=>by rw[<-hX2];exact co hj
  have hBX:=S.lo.1;obtain⟨l1,l2,l3,l4⟩:=S.lt;have hX2o:∀j,j<H.length+1->X2[j]?=H1[j]?:=λj hj=>by rw[<-hX2,co aa];exact hX j hj
  obtain⟨fn,x,y,my,qq2⟩:=jjm (g:=g) (tT:=tT) (tx:=tx) S2 h1 hB hs g2 Y D af aa hT aa ha;have hag:al[ix]=a:=af;rw[hal];simp-dsimp[go_sem,hN];refine iv hcho ?_;simp-dsimp[go_sem,hN,hixl,hag,my];rw[my]at hX2;rw[hX2];refine iy qq2 ?_;rintro r h' ⟨rfl,⟨tr2,S3⟩,hf3⟩;simp-dsimp[go_sem,hN,hw];refine⟨step+1,p7 ku procs p txns σ a,h',⟨hYs,hDs,⟨tr2,S3⟩,?_,λj hj=>(hf3 j hj).trans (hX2o j hj),aa⟩,hms,Wk.slots bi⟩;obtain⟨f1,rfl⟩:∃f1,f=f1+1:=⟨f - 1,aa⟩
  refine⟨f1,aa,?_⟩;rw[<-jk,qrv,hal,u7,hai]
end
theorem xy4(a b:List Pr)(hB:a.length+b.length<68719476736):APure prog 36 [.slice (a.map Pr.c),.slice (b.map Pr.c)] (.tuple [.slice ((ws a b).1.map Pr.c),I (ws a b).2]):=by
 obtain⟨R,hR⟩:∃R,ws a b=R:=⟨_,rfl⟩
 rw[hR];unfold ws at hR;have hap:=xvf a b hB;refine lz func36 rfl ae ac rfl ?_;intro E h hN hh hu hb;rw[ntmps36]at hN;refine jo _ _ _ ?_;simp[go_sem]at hb;simp-dsimp[go_sem,hN];refine iv (qcb a) ?_;simp-dsimp[go_sem,hN];refine kq (qcb b) ac ?_;simp-dsimp[go_sem,hN];refine ii ?_ ?_<;>intro h0<;>simp at h0
 .rw[if_pos h0]at hR;subst hR;simp-dsimp[go_sem,hN]
 rw[if_neg af]at hR;obtain⟨b1,b2,b3⟩:=(tn b).1 h0.2;have wy:r9 b=true:=(qbp _).2 ⟨λq hq=>(b1 q hq).1,b2,b3⟩;rw[h0.1,wy,if_pos (show(true&&true)=true from rfl)]at hap;simp-dsimp[go_sem,hN];refine jz b.length (λn=>((b.drop n).any λx=>nf a x.key)=b.any λx=>nf a x.key) (λn=>⟨[(0,.slice (a.map Pr.c)),(1,.slice (b.map Pr.c)),(6,I n)],h⟩) ac (Wk.mk ai ac aa ag) ?_;intro n hn hI;have hw:=jj hn hb.2.1;simp-dsimp[go_sem,hN];refine ii ?_ ?_<;>intro hc<;>simp at hc
 .rw[jv hc,qjd]at hI;simp-dsimp[go_sem,hN,hc];refine iv (xqg a b[n].key) ?_;simp-dsimp[go_sem,hN];refine ii (λhg=>?_) (λhg=>?_)
  .rw[hg,Bool.true_or]at hI;rw[if_pos hI.symm]at hR;subst hR;simp-dsimp[go_sem,hN]
  .rw[hg,qi0]at hI;simp-dsimp[go_sem,hN,hw];exact⟨hc,hI,(Wk.mk ai ac aa ag)⟩
 .rw[cq aa,qjx]at hI;rw[if_neg af]at hR;subst hR;simp-dsimp[go_sem,hN];refine iv hap ?_;simp-dsimp[go_sem,hN]
theorem xkq{α:Type}{f:α->α->Bool}:∀{a b:List α},a.length≠b.length->mm f a b=false
 | [],[],h=>(h rfl).elim
 | [],y::b,_=>rfl
 |x::a,[],_=>rfl
 |x::a,y::b,h=>by rw[mm,xkq af,qj5]
theorem jem(a b:List Eff):APure prog 18 [.slice (a.map Eff.c),.slice (b.map Eff.c)] (Bo (mm qr1 a b)):=by
 refine lz func18 rfl ae ac rfl ?_;intro E h hN hh hu hb;rw[ntmps18]at hN;refine jo _ _ _ ?_;simp[go_sem]at hb;simp-dsimp[go_sem,hN];refine ii ?_ ?_<;>intro h0<;>simp at h0
 .rw[xkq aa];simp-dsimp[go_sem,hN]
 simp-dsimp[go_sem,hN];refine jz a.length (λn=>mm qr1 (a.drop n) (b.drop n)=mm qr1 a b) (λn=>⟨[(0,.slice (a.map Eff.c)),(1,.slice (b.map Eff.c)),(5,I n)],h⟩) ac (Wk.mk ai ac aa ag) ?_;intro n hn hI;have hw:=jj hn hb.1.1;simp-dsimp[go_sem,hN];refine ii ?_ ?_<;>intro hc<;>simp at hc
 .have nh:n<b.length:=aa;rw[jv hc,jv nh,mm]at hI;simp-dsimp[go_sem,hN,hc,nh];refine jt 8 mixed ae ae ?_;simp-dsimp[go_sem,hN,hc,nh];refine iv (jkm a[n] b[n]) ?_;simp-dsimp[go_sem,hN];refine ii ?_ ?_<;>intro hg<;>simp at hg
  .rw[hg,fl]at hI;simp-dsimp[go_sem,hN,<-hI]
  .rw[hg,dh]at hI;simp-dsimp[go_sem,hN,hw];exact⟨hc,hI,(Wk.mk ai ac aa ag)⟩
 .rw[cq aa,cq aa,mm]at hI;simp-dsimp[go_sem,hN,<-hI]
def qte(x y:Shard):Bool:=decide (x.node=y.node)&&mm yd x.prs y.prs
theorem xqm(a b:List Shard):APure prog 13 [.slice (a.map Shard.c),.slice (b.map Shard.c)] (Bo (mm qte a b)):=by
 refine lz func13 rfl ae ac rfl ?_;intro E h hN hh hu hb;rw[ntmps13]at hN;refine jo _ _ _ ?_;simp[go_sem]at hb;simp-dsimp[go_sem,hN];refine ii ?_ ?_<;>intro h0<;>simp at h0
 .rw[xkq aa];simp-dsimp[go_sem,hN]
 simp-dsimp[go_sem,hN];refine jz a.length (λn=>mm qte (a.drop n) (b.drop n)=mm qte a b) (λn=>⟨[(0,.slice (a.map Shard.c)),(1,.slice (b.map Shard.c)),(5,I n)],h⟩) ac (Wk.mk ai ac aa ag) ?_;intro n hn hI;have hw:=jj hn hb.1.1;simp-dsimp[go_sem,hN];refine ii ?_ ?_<;>intro hc<;>simp at hc
 .have nh:n<b.length:=aa;rw[jv hc,jv nh,mm]at hI;simp-dsimp[go_sem,hN,hc,nh];refine jt 22 mixed ae ae ?_;simp-dsimp[go_sem,hN,hc,nh];refine kq (xkf a[n].prs b[n].prs) ac ?_;simp-dsimp[go_sem,hN];refine ii ?_ ?_<;>intro hg<;>simp at hg
  .have:qte a[n] b[n]=false:=by unfold qte;rcases hg with hg|hg<;>simp[hg]
   rw[this,fl]at hI;simp-dsimp[go_sem,hN,<-hI]
  .have:qte a[n] b[n]=true:=by unfold qte;simp[hg]
   rw[this,dh]at hI;simp-dsimp[go_sem,hN,hw];exact⟨hc,hI,(Wk.mk ai ac aa ag)⟩
 .rw[cq aa,cq aa,mm]at hI;simp-dsimp[go_sem,hN,<-hI]
end Go.Proofs.YtolejdhnnchfpaaGreatDoor
