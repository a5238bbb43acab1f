/- Part 24 of a proof. -/
import Derived.Test.YtbimdamecieomaaGreatDoorR23
set_option linter.all false
namespace Go.Cw
open Go Go.Abs
structure RunIn(fmt:Int→g9)(p:Proc)(args:List V)(st:List Pr):Prop where
 fmt:∀n,i64 n→ml (fmt n)=true
 body:∀t∈p.body,qmv t
 args:∀v∈args,kp v
 st:∀q∈st,kp q.v
abbrev qm(fmt:Int→g9)(st:List Pr)(ft:Foot):Cfg:=⟨st,ft.all,ft.reads,ft.writes,fmt⟩
abbrev zq(p:Proc)(args:List V):MS:=⟨qeg p.params args [],[],[],[],[],0⟩
def vw(p:Proc)(args:List V)(st:List Pr)(ft:Foot):Prop:=¬(t6 p≠0∨zg p args≠0∨nn st=false∨my ft.all ft.reads ft.writes=false)
theorem qeu{fmt:Int→g9}{p:Proc}{args:List V}{st:List Pr}{ft:Foot}(h:¬vw p args st ft):mz fmt p args st ft=u4:=by
 unfold mz;exact if_pos (Decidable.not_not.1 h)
theorem qeo{fmt:Int→g9}{p:Proc}{args:List V}{st:List Pr}{ft:Foot}(h:vw p args st ft):mz fmt p args st ft=qnf (kn (qm fmt st ft) p.body (zq p args)):=by
 unfold mz;exact if_neg h
theorem qci(p:Proc)(args:List V)(st:List Pr)(ft:Foot):vw p args st ft↔t6 p=0∧zg p args=0∧nn st=true∧my ft.all ft.reads ft.writes=true:=by
 unfold vw;simp only[not_or,Decidable.not_not,Bool.not_eq_false]
theorem xlh:∀{ps:List Param} {vs:List V} {m:List (g9×V)} {q:g9×V},q∈qeg ps vs m→q∈m∨q.2∈vs
 | [],vs,m,q,h=>by simp[qeg]at h;exact .inl h
 |x::l,[],m,q,h=>by simp[qeg]at h;exact .inl h
 |x::l,v::r,m,q,h=>by
  rw[qeg]at h;rcases xlh h with h|h
  ·rcases qxl h with rfl|h
   ·exact .inr ae
   ·exact .inl h
  ·exact .inr co
theorem xd0(x:Except Stop Unit×MS):(qnf x).reads=x.2.reads:=by rcases x with⟨z|u,m⟩<;>rfl
theorem xmq(x:Except Stop Unit×MS):(qnf x).puts=x.2.puts:=by rcases x with⟨z|u,m⟩<;>rfl
theorem ji3(x:Except Stop Unit×MS):(qnf x).steps=x.2.steps:=by rcases x with⟨z|u,m⟩<;>rfl
theorem xl4{p:Proc}(h:t6 p=0):s7 p=0:=by
 unfold t6 at h;split at h
 ·contradiction
 ·rename_i hd;simp only[Decidable.not_not]at hd;unfold qn1 at hd;split at hd
  ·contradiction
  ·rename_i ht;simp only[Decidable.not_not]at ht;unfold zh at ht;split at ht
   ·contradiction
   ·rename_i hv;simpa using hv
theorem qxc{p:Proc}(h:t6 p=0):x6 p.body 1:=qzb (xl4 h)
theorem qw7{p:Proc}(h:t6 p=0)(hr:∀t∈p.body,qmv t):∀t∈p.body,t8 t:=fun t ht=>xll t 1 (qxc h t ht) (hr t ht)
theorem xgo{p:Proc}(h:t6 p=0):(ru p.body).st≤16384∧(ru p.body).ge≤64∧(ru p.body).pu≤64∧(ru p.body).em≤16:=by
 unfold t6 at h;split at h
 ·contradiction
 split at h
 ·contradiction
 split at h
 ·contradiction
 ·omega
theorem jag{p:Proc}(h:t6 p=0):qn1 p=0:=by
 unfold t6 at h;split at h
 ·contradiction
 ·rename_i hd;simpa using hd
theorem xt6{p:Proc}(h:t6 p=0):((nL p.body).st:Int)=(ru p.body).st∧((nL p.body).ge:Int)=(ru p.body).ge∧((nL p.body).pu:Int)=(ru p.body).pu∧((nL p.body).em:Int)=(ru p.body).em:=by
 have h1:=xgo h;have h2:=xra (qxc h);have hm:∀n:Nat,mn n 16385≤16384→(n:Int)=mn n 16385:=fun n hn=>by unfold mn at hn⊢;split<;>split at hn<;>omega
 rw[h2]at h1⊢;simp only[rx]at h1⊢;exact⟨hm _ h1.1,hm _ aa,hm _ aa,hm _ aa⟩
theorem jaa{ps:List Param}{vs:List V}(h:qm8 ps vs=true)(hl:vs.length=ps.length):∀v∈vs,oz v:=by
 induction ps generalizing vs with
 |nil=>intro v hv;rw[fk hl]at hv;cases hv
 |cons x l ih =>
  cases vs with
  |nil=>simp
  |cons v r =>
   simp only[qm8,c0]at h;intro w hw;rcases cw.1 hw with rfl|hw
   ·have:=h.1;unfold qws at this;unfold oz qs4 vj;simp only[fv,c0,decide_eq_true_eq]at this;rcases this with⟨⟨h1,h2⟩,_⟩|⟨⟨⟨h1,h2⟩,h3⟩,_⟩
    ·simp[h1,h2]
    ·simp[h1,h2,h3]
   ·exact ih h.2 cj w hw
theorem xev{p:Proc}{args:List V}(h:zg p args=0):args.length=p.params.length∧∀v∈args,oz v:=by
 unfold zg at h;split at h
 ·contradiction
 ·rename_i h1;split at h
  ·rename_i h2;have hl:args.length=p.params.length:=by
    by_cases hl:args.length=p.params.length
    ·exact hl
    ·exact(h1 (.inr hl)).elim
   exact⟨hl,jaa h2 hl⟩
  ·contradiction
section
variable {fmt:Int→g9} {p:Proc} {args:List V} {st:List Pr} {ft:Foot}
theorem qz3(hI:RunIn fmt p args st):Inv 0 0 (zq p args):=by
 refine⟨⟨fun q hq=>?_,ae⟩,ae,ae,ae,ae,ae,ae⟩;rcases xlh hq with h|h
 ·cases h
 ·exact hI.args _ h
theorem vM0(h:zg p args=0):vM (zq p args):=by
 refine⟨fun q hq=>?_,ae⟩;rcases xlh hq with h1|h1
 ·cases h1
 ·exact(xev h).2 _ h1
theorem xu6(hI:RunIn fmt p args st)(hs:nn st=true):vC (qm fmt st ft):=⟨fun q hq=>(((qdi st).1 hs).1 q hq).1,hI.fmt⟩
theorem xbt(x:List St):Fit (qm fmt st ft) (zq p args) (kn (qm fmt st ft) x (zq p args)).2:=qtu (je2 _) x _
theorem xns{x:List St}{t:MS}{z:Stop}(h:kn (qm fmt st ft) x (zq p args)=(.error z,t)):qro (qm fmt st ft) z:=xat x _ _ _ h
theorem jbd{k:g9}(hk:k∈(mz fmt p args st ft).reads):nn st=true∧rk k=true∧(ft.all=true∨jk ft.reads k=true):=by
 by_cases hr:vw p args st ft
 ·rw[qeo hr,xd0]at hk;rcases(xbt p.body).rd k hk with h|h
  ·cases h
  ·exact⟨((qci _ _ _ _).1 hr).2.2.1,h.1,h.2⟩
 ·rw[qeu hr]at hk;cases hk
theorem xvm{k:g9}(hk:k∈(mz fmt p args st ft).puts):rk k=true∧(ft.all=true∨jk ft.writes k=true):=by
 by_cases hr:vw p args st ft
 ·rw[qeo hr,xmq]at hk;rcases(xbt p.body).pt k hk with h|h
  ·cases h
  ·exact h
 ·rw[qeu hr]at hk;cases hk
theorem jl7:jp (mz fmt p args st ft).reads∧jp (mz fmt p args st ft).puts:=by
 by_cases hr:vw p args st ft
 ·rw[qeo hr,xd0,xmq];exact⟨(xbt p.body).ar ae,(xbt p.body).ap ae⟩
 ·rw[qeu hr];simp[u4]
theorem xr2(h:t6 p≠0):mz fmt p args st ft=u4:=qeu fun h'=>h ((qci _ _ _ _).1 h').1
theorem xrx(hI:RunIn fmt p args st)(h:t6 p=0):(mz fmt p args st ft).steps≤(ru p.body).st∧((mz fmt p args st ft).reads.length:Int)≤(ru p.body).ge∧((mz fmt p args st ft).puts.length:Int)≤(ru p.body).pu∧((mz fmt p args st ft).out.length:Int)≤(ru p.body).em:=by
 have hn:=xt6 h;by_cases hr:vw p args st ft
 ·rw[qeo hr,xd0,xmq,ji3];have hd:=qzd (C:=qm fmt st ft) (fun q hq=>hI.st q hq) p.body 1 (zq p args) (qxc h) (qw7 h hI.body) (qz3 hI);obtain⟨d1,d2,d3,d4⟩:=hd;simp only[ee,db]at d1 d2 d3 d4;refine⟨aa,aa,aa,?_⟩;rcases hx:kn (qm fmt st ft) p.body (zq p args)with⟨z|u,m⟩
  ·simp only[qnf,ee];omega
  ·rw[hx]at d4;simp only at d4;simp only[qnf];omega
 ·rw[qeu hr];simp only[u4,ee];omega
theorem jcz(h:(mz fmt p args st ft).status≠1):(mz fmt p args st ft).writes=[]∧(mz fmt p args st ft).out=[]∧((mz fmt p args st ft).status=2∨(mz fmt p args st ft).status=3∧(mz fmt p args st ft).code=0):=by
 by_cases hr:vw p args st ft
 ·rw[qeo hr]at h⊢;rcases hx:kn (qm fmt st ft) p.body (zq p args)with⟨z|u,m⟩
  ·refine⟨rfl,rfl,?_⟩;rcases xns hx with⟨c,rfl⟩|⟨k,rfl,_⟩
   ·exact .inl rfl
   ·exact .inr ⟨rfl,rfl⟩
  ·rw[hx]at h;exact(h rfl).elim
 ·rw[qeu hr];exact⟨rfl,rfl,.inl rfl⟩
theorem xcz(hI:RunIn fmt p args st)(h:(mz fmt p args st ft).status=1):(mz fmt p args st ft).writes.map (·.key)=(mz fmt p args st ft).puts∧(mz fmt p args st ft).code=0∧qc6 (mz fmt p args st ft).writes=true:=by
 by_cases hr:vw p args st ft
 ·have je:=(qci _ _ _ _).1 hr;have qxx:=(jl7 (fmt:=fmt) (p:=p) (args:=args) (st:=st) (ft:=ft)).2;have qs2:=fun k hk=>(xvm (fmt:=fmt) (p:=p) (args:=args) (st:=st) (ft:=ft) (k:=k) hk).1;rw[qeo hr]at h qxx qs2⊢;rcases hx:kn (qm fmt st ft) p.body (zq p args)with⟨z|u,m⟩
  ·rw[hx]at h;rcases xns hx with⟨c,rfl⟩|⟨k,rfl,_⟩<;>simp[qnf,ab,rst]at h
  ·rw[hx]at qxx qs2;have hvm:=xbr (xu6 hI je.2.2.1) (fun q hq=>hI.st q hq) p.body 1 (zq p args) u m (qxc je.1) (qw7 je.1 hI.body) (qz3 hI) (vM0 je.2.1) hx;have hkeys:(qnf (.ok u,m)).writes.map (·.key)=(qnf (.ok u,m)).puts:=by simp[qnf,Function.comp_def]
   refine⟨hkeys,rfl,(qdw _).2 ⟨fun q hq=>?_,fun q hq=>?_,?_⟩⟩
   ·obtain⟨k,_,rfl⟩:=dk.1 hq;simp only;rcases hg:jg m.own k with _|w
    ·exact xfl
    ·exact hvm.2 _ (qv7 hg)
   ·exact qs2 _ (by rw[←hkeys];exact ql4 hq)
   ·show jp ((qnf (.ok u,m)).writes.map (·.key))
    rw[hkeys];exact qxx
 ·rw[qeu hr]at h;simp[u4]at h
end
structure Txn where
 id:Int
 proc:g9
 args:List V
 ft:Foot
 att:Int
def Txn.c(t:Txn):List AV:=[I t.id,S t.proc,.slice (t.args.map V.c),Bo t.ft.all,.slice (t.ft.reads.map im),.slice (t.ft.writes.map im),I t.att]
def qvv(procs:List Proc)(name:g9):Option Proc:=procs.find? fun p=>decide (p.name=name)
def qqa(procs:List Proc)(t:Txn):Option Proc :=
 match qvv procs t.proc with
 |none=>none
 |some p=>if zg p t.args=0 then some p else none
section
variable (fmt:Int→g9)
def ov(procs:List Proc)(s:List Pr)(t:Txn):List Pr×Eff :=
 match qqa procs t with
 |none=>(s,u4)
 |some p=>if (mz fmt p t.args s t.ft).status=1 then(qnd s (mz fmt p t.args s t.ft).writes,mz fmt p t.args s t.ft)else(s,mz fmt p t.args s t.ft)
def nc(procs:List Proc)(s:List Pr)(l:List Txn):List Pr×List Eff :=
 l.foldl (fun y t=>((ov fmt procs y.1 t).1,y.2++[(ov fmt procs y.1 t).2])) (s,[])
end
def qpp(e:Eff)(k:g9):Bool:=decide (e.status=1)&&p8 e.writes k
def qzi(s:List Pr)(e:Eff):List Pr:=if e.status=1∧nn s=true∧qc6 e.writes=true then qnd s e.writes else s
section
variable (fmt:Int→g9)
end
structure BatchIn(fmt:Int→g9)(procs:List Proc)(l:List Txn):Prop where
 fmt:∀n,i64 n→ml (fmt n)=true
 body:∀p∈procs,∀t∈p.body,qmv t
 args:∀t∈l,∀v∈t.args,kp v
abbrev p9(s:List Pr):Prop:=∀q∈s,kp q.v
section
variable {fmt:Int→g9}
theorem xjj{procs:List Proc}{t:Txn}{p:Proc}(h:qqa procs t=some p):p∈procs∧zg p t.args=0:=by
 unfold qqa at h;split at h
 ·cases h
 ·rename_i q hq;split at h
  ·cases h;exact⟨List.mem_of_find?_eq_some hq,by assumption⟩
  ·cases h
theorem jg6{p:Proc}{args:List V}{a b:List Pr}{ft:Foot}(ha:nn a=true)(hb:nn b=true)(hg:∀k∈(mz fmt p args a ft).reads,lh a k=lh b k):mz fmt p args b ft=mz fmt p args a ft:=by
 by_cases h:vw p args a ft
 ·have hr:=(qci _ _ _ _).1 h;have h':vw p args b ft:=(qci _ _ _ _).2 ⟨hr.1,hr.2.1,hb,hr.2.2.2⟩;rw[qeo h,xd0]at hg;rw[qeo h,qeo h'];exact congrArg qnf (xca (jay (qm fmt a ft) b) p.body (zq p args) hg)
 ·have h':¬vw p args b ft:=fun h'=>h (by
   have:=(qci _ _ _ _).1 h';exact(qci _ _ _ _).2 ⟨this.1,this.2.1,ha,this.2.2.2⟩)
  rw[qeu h,qeu h']
theorem xmj{p:Proc}{args:List V}{s:List Pr}{ft:Foot}(h:(mz fmt p args s ft).status=1):nn s=true:=by
 by_cases hr:vw p args s ft
 ·exact((qci _ _ _ _).1 hr).2.2.1
 ·rw[qeu hr]at h;simp[u4]at h
theorem jb0{p:Proc}{args:List V}{s:List Pr}{ft:Foot}(hI:RunIn fmt p args s):p9 (mz fmt p args s ft).writes:=by
 by_cases hr:vw p args s ft
 ·have je:=(qci _ _ _ _).1 hr;rw[qeo hr];rcases hx:kn (qm fmt s ft) p.body (zq p args)with⟨z|u,m⟩
  ·intro q hq;simp[qnf]at hq
  ·have hi:=qv2 (C:=qm fmt s ft) (fun q hq=>hI.st q hq) p.body _ _ _ (qw7 je.1 hI.body) (qz3 hI) hx;intro q hq;simp only[qnf,dk]at hq;obtain⟨k,_,rfl⟩:=hq;simp only;rcases hg:jg m.own k with _|w
   ·exact xcp
   ·exact hi.rng.2 _ (qv7 hg)
 ·rw[qeu hr];intro q hq;cases hq
theorem xiz{p:Proc}{args:List V}{s:List Pr}{ft:Foot}(hI:RunIn fmt p args s):(mz fmt p args s ft).writes.length≤64:=by
 by_cases h1:(mz fmt p args s ft).status=1
 ·have h:=(xcz hI h1).1;have hl:(mz fmt p args s ft).writes.length=(mz fmt p args s ft).puts.length:=by rw[←h,ew]
  by_cases hc:t6 p=0
  ·have h1:=xrx (ft:=ft) hI hc;have h2:=xgo hc;omega
  ·rw[xr2 hc];simp[u4]
 ·rw[(jcz h1).1];simp
theorem jgr{l w:List Pr}(hl:p9 l)(hw:p9 w)(al:nn l=true)(aw:qc6 w=true):p9 (qnd l w):=fun q hq=>by
 rcases((xgs ((qdi l).1 al).2.2 ((qdw w).1 aw).2.2).2 q).1 hq with h|h
 ·exact hl q h.1
 ·exact hw q h.1
theorem xjb:∀(w out:List Pr),(qp1 out w).length≤out.length+w.length
 | [],out=>by simp[qp1]
 |p::w,out=>by
  rw[qp1];split
  ·have:=xjb w out;simp only[d5];omega
  ·have:=xjb w (qn9 out p);have h:(qn9 out p).length=out.length+1:=by
    unfold qn9;simp only[cz,du,d5,gd];omega
   simp only[d5];omega
theorem jh0(l w:List Pr):(qnd l w).length≤l.length+w.length:=by
 have h1:=xjb w (qp7 w l);have h2:=(xh4 w l).1.length_le;unfold qnd;omega
structure OneOk(s:List Pr)(x:List Pr×Eff):Prop where
 rng:p9 x.1
 len:x.1.length≤s.length+64
 ok:nn s=true→nn x.1=true
 no:nn s=false→x.1=s
 get:∀k,qpp x.2 k=false→lh x.1 k=lh s k
 upd:x.1=qzi s x.2
 rds:x.2.reads.length≤64
 wrs:x.2.writes.length≤64
 wrng:p9 x.2.writes
 com:x.2.status=1→nn s=true∧qc6 x.2.writes=true
theorem xi4{procs:List Proc}{s:List Pr}{t:Txn}(hf:∀n,i64 n→ml (fmt n)=true)(hb:∀p∈procs,∀t∈p.body,qmv t)(ha:∀v∈t.args,kp v)(hs:p9 s):OneOk s (ov fmt procs s t):=by
 unfold ov;split
 ·exact { rng:=hs,len:=by simp,ok:=id,no:=fun _=>rfl,get:=fun _ _=>rfl,upd:=by simp[qzi,u4],rds:=by simp[u4],wrs:=by simp[u4],wrng:=by intro q hq;simp[u4]at hq,com:=fun h=>by simp[u4]at h }
 ·rename_i p hp;have hI:RunIn fmt p t.args s:=⟨hf,hb p (xjj hp).1,ha,hs⟩
  have hl:(mz fmt p t.args s t.ft).reads.length≤64:=by
   by_cases hc:t6 p=0
   ·have h1:=xrx (ft:=t.ft) hI hc;have h2:=xgo hc;omega
   ·rw[xr2 hc];simp[u4]
  have hw:=xiz (ft:=t.ft) hI;have hwr:=jb0 (ft:=t.ft) hI;split
  ·rename_i h1;have u0:=xmj h1;have qn:=(xcz hI h1).2.2;refine⟨jgr hs hwr u0 qn,?_,fun _=>je6 u0 qn,fun h=>?_,fun k hk=>?_,?_,hl,hw,hwr,fun _=>⟨u0,qn⟩⟩
   ·have:=jh0 s (mz fmt p t.args s t.ft).writes;simp only;omega
   ·rw[u0]at h;cases h
   ·obtain⟨w1,w2,w3⟩:=(qdw _).1 qn;simp only at hk⊢;rw[xs4 ((qdi s).1 u0).2.2 w3 w1];simp only[qpp,h1,decide_true,fh]at hk;simp[hk]
   ·simp only[qzi];rw[if_pos ⟨h1,u0,qn⟩]
  ·rename_i h1;refine⟨hs,ae,id,fun _=>rfl,fun _ _=>rfl,?_,hl,hw,hwr,fun h=>(h1 h).elim⟩;simp only[qzi];rw[if_neg (fun h=>h1 h.1)]
theorem xz7{procs:List Proc}{a b:List Pr}{t:Txn}(ha:nn a=true)(hb:nn b=true)(hg:∀k∈(ov fmt procs a t).2.reads,lh a k=lh b k):(ov fmt procs b t).2=(ov fmt procs a t).2:=by
 unfold ov at hg⊢;rcases hp:qqa procs t with _|p
 ·rfl
 ·rw[hp]at hg;have h:mz fmt p t.args b t.ft=mz fmt p t.args a t.ft:=jg6 ha hb (fun k hk=>hg k (by simp only;split<;>exact hk));simp only[h];split<;>rfl
theorem xeu(procs:List Proc)(s:List Pr)(l:List Txn)(t:Txn):nc fmt procs s (l++[t])=((ov fmt procs (nc fmt procs s l).1 t).1,(nc fmt procs s l).2++[(ov fmt procs (nc fmt procs s l).1 t).2]):=by
 unfold nc;rw[ql0];rfl
structure RoundOk(s:List Pr)(n:Nat)(x:List Pr×List Eff):Prop where
 rng:p9 x.1
 len:x.1.length≤s.length+64 * n
 cnt:x.2.length=n
 ok:nn s=true→nn x.1=true
 no:nn s=false→x.1=s
 get:∀k,(∀e∈x.2,qpp e k=false)→lh x.1 k=lh s k
 rds:∀e∈x.2,e.reads.length≤64
 wrs:∀e∈x.2,e.writes.length≤64
 wrng:∀e∈x.2,p9 e.writes
theorem BatchIn.init{procs:List Proc}{l:List Txn}{t:Txn}(h:BatchIn fmt procs (l++[t])):BatchIn fmt procs l:=⟨h.fmt,h.body,fun x hx=>h.args x bt⟩
theorem BatchIn.take{procs:List Proc}{l:List Txn}(h:BatchIn fmt procs l)(n:Nat):BatchIn fmt procs (l.take n):=⟨h.fmt,h.body,fun x hx=>h.args x (gc hx)⟩
theorem xg0{α:Type}{P:List α→Prop}(h0:P [])(h1:∀l x,P l→P (l++[x]))(l:List α):P l:=by
 have:∀n (l:List α),l.length=n→P l:=by
  intro n
  induction n with
  |zero=>intro l hl;rw[fk hl];exact h0
  |succ n ih =>
   intro l hl;have ii:l≠[]:=by rintro rfl;cases hl
   have e:l=l.dropLast++[l.getLast ii]:=(List.dropLast_concat_getLast ii).symm;rw[e];exact h1 _ _ (ih _ qhh)
 exact this _ l rfl
theorem xal{procs:List Proc}{s:List Pr}(hs:p9 s):∀(l:List Txn),BatchIn fmt procs l→RoundOk s l.length (nc fmt procs s l):=by
 refine xg0 (fun _=>⟨hs,by simp[nc],rfl,id,fun _=>rfl,fun _ _=>rfl,by simp[nc],by simp[nc],by simp[nc]⟩) fun l t ih hB=>?_;have hR:=ih hB.init;have hO:=xi4 (fmt:=fmt) (procs:=procs) (t:=t) hB.fmt hB.body (hB.args t ae) hR.rng;rw[xeu];refine⟨hO.rng,?_,by simp[hR.cnt],fun h=>hO.ok (hR.ok h),fun h=>?_,fun k hk=>?_,fun e he=>?_,fun e he=>?_,fun e he=>?_⟩
 ·have:=hR.len;have:=hO.len;simp only[cz,f8];omega
 ·have h1:=hR.no h;have:=hO.no (by rw[h1];exact h);exact this.trans h1
 ·simp only[dt,ei]at hk;rw[hO.get k (hk _ (.inr rfl)),hR.get k (fun e he=>hk e (.inl he))]
 ·simp only[dt,ei]at he;rcases he with he|rfl
  ·exact hR.rds e he
  ·exact hO.rds
 ·simp only[dt,ei]at he;rcases he with he|rfl
  ·exact hR.wrs e he
  ·exact hO.wrs
 ·simp only[dt,ei]at he;rcases he with he|rfl
  ·exact hR.wrng e he
  ·exact hO.wrng
end
def qu7(q:Pr)(l:List Pr):List Pr:=if q.v.k=0 then l else q::l
def ry:List Pr→List Pr→List Pr
 | [],[]=>[]
 | [],q::w=>qu7 q (ry [] w)
 |p::l,[]=>p::ry l []
 |p::l,q::w=>if ju p.key q.key=true then p::ry l (q::w)else if ju q.key p.key=true then qu7 q (ry (p::l) w)else qu7 q (ry l w)
termination_by l w=>l.length+w.length
decreasing_by all_goals simp only[d5,ee];omega
theorem qvi{p:Pr}{l:List Pr}:jp (nu (p::l))↔(∀q∈l,ju p.key q.key=true)∧jp (nu l):=by
 simp[jp,nu,ef]
theorem xk0:∀{l m:List Pr},jp (nu l)→jp (nu m)→(∀q,q∈l↔q∈m)→l=m
 | [],[],_,_,_=>rfl
 | [],q::m,_,_,h=>by have:=(h q).2 ae;cases this
 |p::l,[],_,_,h=>by have:=(h p).1 ae;cases this
 |p::l,q::m,hl,hm,h=>by
  rw[qvi]at hl hm;have e:p=q:=by
   rcases cw.1 ((h p).1 ae)with e|e
   ·exact e
   ·rcases cw.1 ((h q).2 ae)with e'|e'
    ·exact e'.symm
    ·have h1:=hm.1 _ e;have h2:=hl.1 _ e';rw[xf5 h1]at h2;cases h2
  subst e;have:l=m:=xk0 hl.2 hm.2 fun q=>by
   constructor
   ·intro hq;rcases cw.1 ((h q).1 cn)with e|e
    ·subst e;have:=hl.1 _ hq;rw[qbx]at this;cases this
    ·exact e
   ·intro hq;rcases cw.1 ((h q).2 cn)with e|e
    ·subst e;have:=hm.1 _ hq;rw[qbx]at this;cases this
    ·exact e
  rw[this]
theorem qzm{q x:Pr}{l:List Pr}:x∈qu7 q l↔(x=q∧x.v.k≠0)∨x∈l:=by
 unfold qu7;split
 ·rename_i h;constructor
  ·exact .inr
  ·rintro(⟨rfl,h'⟩|h')
   ·exact(h' h).elim
   ·exact h'
 ·rename_i h;rw[cw];constructor
  ·rintro(rfl|h')
   ·exact .inl ⟨rfl,h⟩
   ·exact .inr h'
  ·rintro(⟨rfl,_⟩|h')
   ·exact .inl rfl
   ·exact .inr h'
theorem xho{q:Pr}{l:List Pr}(h:∀x∈l,ju q.key x.key=true)(hl:jp (nu l)):jp (nu (qu7 q l)):=by
 unfold qu7;split
 ·exact hl
 ·exact qvi.2 ⟨h,hl⟩
theorem xtw(q:Pr)(w:List Pr)(k:g9):p8 (q::w) k=(decide (q.key=k)||p8 w k):=by simp[p8,mv]
theorem xcq(l w:List Pr):(∀x∈ry l w,x∈l∨x∈w):=by
 induction l,w using ry.induct with
 |case1=>intro x hx;simp[ry]at hx
 |case2 q w ih =>
  intro x hx;rw[ry,qzm]at hx;rcases hx with⟨rfl,_⟩|hx
  ·simp
  ·rcases ih x hx with h|h<;>simp[h]
 |case3 p l ih =>
  intro x hx;rw[ry,cw]at hx;rcases hx with rfl|hx
  ·simp
  ·rcases ih x hx with h|h<;>simp[h]
 |case4 p l q w h1 ih =>
  intro x hx;rw[ry,if_pos h1,cw]at hx;rcases hx with rfl|hx
  ·simp
  ·rcases ih x hx with h|h
   ·simp[h]
   ·exact .inr h
 |case5 p l q w h1 h2 ih =>
  intro x hx;rw[ry,if_neg h1,if_pos h2,qzm]at hx;rcases hx with⟨rfl,_⟩|hx
  ·simp
  ·rcases ih x hx with h|h
   ·exact .inl h
   ·simp[h]
 |case6 p l q w h1 h2 ih =>
  intro x hx;rw[ry,if_neg h1,if_neg h2,qzm]at hx;rcases hx with⟨rfl,_⟩|hx
  ·simp
  ·rcases ih x hx with h|h<;>simp[h]
theorem qv9{a b:g9}(h1:¬ju a b=true)(h2:¬ju b a=true):a=b:=by
 have:=xb6 a b;simp only[Bool.not_eq_true]at h1 h2;rw[h1,h2]at this;simpa using this
theorem jel{q:g9}{w:List Pr}(h:∀x∈w,ju q x.key=true):p8 w q=false:=xiy.2 fun p hp e=>by
 have:=h p hp;rw[e,qbx]at this;cases this
theorem jk2(l w:List Pr):jp (nu l)→jp (nu w)→jp (nu (ry l w))∧∀q,q∈ry l w↔(q∈l∧p8 w q.key=false)∨(q∈w∧q.v.k≠0):=by
 induction l,w using ry.induct with
 |case1=>intro _ _;simp[ry,nu]
 |case2 q w ih =>
  intro hl hw;rw[qvi]at hw;obtain⟨i1,i2⟩:=ih hl hw.2;rw[ry];refine⟨xho (fun x hx=>?_) i1,fun x=>?_⟩
  ·rcases xcq _ _ x hx with h|h
   ·cases h
   ·exact hw.1 x h
  ·rw[qzm,i2];simp only[ql5,false_and,false_or,cw];grind
 |case3 p l ih =>
  intro hl hw;rw[qvi]at hl;obtain⟨i1,i2⟩:=ih hl.2 hw;rw[ry];refine⟨qvi.2 ⟨fun x hx=>?_,i1⟩,fun x=>?_⟩
  ·rcases xcq _ _ x hx with h|h
   ·exact hl.1 x h
   ·cases h
  ·rw[cw,i2];simp[p8,mv]
 |case4 p l q w h1 ih =>
  intro hl hw;have hw0:=hw;rw[qvi]at hl hw;obtain⟨i1,i2⟩:=ih hl.2 hw0;have hp:∀x∈q::w,ju p.key x.key=true:=fun x hx=>by
   rcases cw.1 hx with rfl|hx
   ·exact h1
   ·exact qdz h1 (hw.1 x hx)
  rw[ry,if_pos h1];refine⟨qvi.2 ⟨fun x hx=>?_,i1⟩,fun x=>?_⟩
  ·rcases xcq _ _ x hx with h|h
   ·exact hl.1 x h
   ·exact hp x h
  ·rw[cw,i2,cw (a:=x) (b:=p)];have:=jel hp;constructor
   ·rintro(rfl|⟨h,h'⟩|h)
    ·exact .inl ⟨.inl rfl,this⟩
    ·exact .inl ⟨.inr h,h'⟩
    ·exact .inr h
   ·rintro(⟨e|h,h'⟩|h)
    ·exact .inl e
    ·exact .inr (.inl ⟨h,h'⟩)
    ·exact .inr (.inr h)
 |case5 p l q w h1 h2 ih =>
  intro hl hw;have hl0:=hl;rw[qvi]at hl hw;obtain⟨i1,i2⟩:=ih hl0 hw.2;have hq:∀x∈p::l,ju q.key x.key=true:=fun x hx=>by
   rcases cw.1 hx with rfl|hx
   ·exact h2
   ·exact qdz h2 (hl.1 x hx)
  rw[ry,if_neg h1,if_pos h2];refine⟨xho (fun x hx=>?_) i1,fun x=>?_⟩
  ·rcases xcq _ _ x hx with h|h
   ·exact hq x h
   ·exact hw.1 x h
  ·rw[qzm,i2,xtw,cw (a:=x) (b:=q)];constructor
   ·rintro(⟨rfl,h⟩|⟨h,h'⟩|⟨h,h'⟩)
    ·exact .inr ⟨.inl rfl,h⟩
    ·refine .inl ⟨h,?_⟩;have:¬q.key=x.key:=fun e=>by have:=hq x h;rw[e,qbx]at this;cases this
     simp[this,h']
    ·exact .inr ⟨.inr h,h'⟩
   ·rintro(⟨h,h'⟩|⟨rfl|h,h'⟩)
    ·simp only[ql6]at h';exact .inr (.inl ⟨h,h'.2⟩)
    ·exact .inl ⟨rfl,h'⟩
    ·exact .inr (.inr ⟨h,h'⟩)
 |case6 p l q w h1 h2 ih =>
  intro hl hw;rw[qvi]at hl hw;obtain⟨i1,i2⟩:=ih hl.2 hw.2;have e:=qv9 h1 h2;have hq:∀x∈l,ju q.key x.key=true:=fun x hx=>by rw[←e];exact hl.1 x hx
  rw[ry,if_neg h1,if_neg h2];refine⟨xho (fun x hx=>?_) i1,fun x=>?_⟩
  ·rcases xcq _ _ x hx with h|h
   ·exact hq x h
   ·exact hw.1 x h
  ·rw[qzm,i2,xtw,cw,cw];constructor
   ·rintro(⟨rfl,h⟩|⟨h,h'⟩|⟨h,h'⟩)
    ·exact .inr ⟨.inl rfl,h⟩
    ·refine .inl ⟨.inr h,?_⟩;have:¬q.key=x.key:=fun e=>by have:=hq x h;rw[e,qbx]at this;cases this
     simp[this,h']
    ·exact .inr ⟨.inr h,h'⟩
   ·rintro(⟨h|h,h'⟩|⟨rfl|h,h'⟩)
    ·subst h;simp only[ql6,decide_eq_false_iff_not]at h';exact(h'.1 e.symm).elim
    ·simp only[ql6]at h';exact .inr (.inl ⟨h,h'.2⟩)
    ·exact .inl ⟨rfl,h'⟩
    ·exact .inr (.inr ⟨h,h'⟩)
theorem jh6{l w:List Pr}(hl:jp (nu l))(hw:jp (nu w)):ry l w=qnd l w:=by
 obtain⟨a1,a2⟩:=jk2 l w hl hw;obtain⟨b1,b2⟩:=xgs hl hw;exact xk0 a1 b1 fun q=>by rw[a2,b2]
def nw(f:Foot):Foot:=if my f.all f.reads f.writes=true then f else⟨true,[],[]⟩
def xxz(a b:Foot):Bool:=if b.all=true then true else if a.all=true then decide (0<b.reads.length)else a.writes.any fun k=>jk b.reads k
def jei(l:List Foot)(j:Nat)(f:Foot):List Nat:=(List.range j).filter fun i=>match l[i]? with|some g=>xxz (nw g) (nw f)|none=>false
section
variable {fmt:Int→g9}
theorem xhi{s:List Pr}{e:Eff}(hs:nn s=true)(he:e.status=1→qc6 e.writes=true)(k:g9):lh (qzi s e) k=if qpp e k=true then lh e.writes k else lh s k:=by
 unfold qzi qpp;by_cases h:e.status=1
 ·have hw:=he h;rw[if_pos ⟨h,hs,hw⟩];obtain⟨w1,w2,w3⟩:=(qdw _).1 hw;rw[xs4 ((qdi s).1 hs).2.2 w3 w1];simp[h]
 ·rw[if_neg (fun g=>h g.1)];simp[h]
def qox(fmt:Int→g9)(procs:List Proc)(s:List Pr)(l:List Txn)(i:Nat):List Pr:=(nc fmt procs s (l.take i)).1
def qm0(fmt:Int→g9)(procs:List Proc)(s:List Pr)(l:List Txn)(i:Nat)(t:Txn):Eff:=(ov fmt procs (qox fmt procs s l i) t).2
theorem xw6{procs:List Proc}{s:List Pr}{l:List Txn}{i:Nat}(h:i<l.length):qox fmt procs s l (i+1)=(ov fmt procs (qox fmt procs s l i) l[i]).1:=by
 unfold qox;rw[eg h,xeu]
theorem qzu{procs:List Proc}{s:List Pr}:∀(l:List Txn),(nc fmt procs s l).2.length=l.length :=
 xg0 (by rfl) fun l t ih=>by rw[xeu];simp[ih]
theorem jd0{procs:List Proc}{s:List Pr}:∀(l:List Txn) (i:Nat) (h:i<l.length),(nc fmt procs s l).2[i]?=some (qm0 fmt procs s l i l[i]):=by
 refine xg0 (fun i h=>by simp at h) fun l t ih i h=>?_;rw[xeu];by_cases hi:i<l.length
 ·have:(nc fmt procs s l).2[i]?=some (qm0 fmt procs s l i l[i]):=ih i hi;rw[cu (by rw[qzu];exact hi),this];unfold qm0 qox;rw[List.getElem_append_left hi,qlx aa]
 ·have e:i=l.length:=by simp at h;omega
  subst e;have hl:=qzu (fmt:=fmt) (procs:=procs) (s:=s) l;rw[cy aa,hl];simp[qm0,qox]
structure MvIn(fmt:Int→g9)(procs:List Proc)(s:List Pr)(l:List Txn)(effs:List Eff)(done:List Bool):Prop where
 le:effs.length=l.length
 ld:done.length=l.length
 ok:∀i (h:i<l.length),done.getD i false=true→effs[i]?=some (qm0 fmt procs s l i l[i])
section
variable {procs:List Proc} {s:List Pr} {l:List Txn} {effs:List Eff} {done:List Bool}
theorem xty(hB:BatchIn fmt procs l)(hs:p9 s){i:Nat}(h:i<l.length):OneOk (qox fmt procs s l i) (ov fmt procs (qox fmt procs s l i) l[i]) :=
 xi4 hB.fmt hB.body (hB.args _ (c9 h)) (xal hs _ (hB.take i)).rng
theorem xhj(hB:BatchIn fmt procs l)(hs:p9 s)(h0:nn s=true)(i:Nat):nn (qox fmt procs s l i)=true:=(xal hs _ (hB.take i)).ok h0
theorem jj3(hB:BatchIn fmt procs l)(hs:p9 s)(h0:nn s=false)(i:Nat):qox fmt procs s l i=s:=(xal hs _ (hB.take i)).no h0
theorem jcp{t:Txn}{k:g9}(h:k∈(ov fmt procs s t).2.reads):my t.ft.all t.ft.reads t.ft.writes=true∧(t.ft.all=true∨jk t.ft.reads k=true):=by
 unfold ov at h;split at h
 ·cases h
 ·rename_i p hp;have h:k∈(mz fmt p t.args s t.ft).reads:=by split at h<;>exact h
  refine⟨?_,(jbd h).2.2⟩;by_cases hr:vw p t.args s t.ft
  ·exact((qci _ _ _ _).1 hr).2.2.2
  ·rw[qeu hr]at h;cases h
theorem jks{t:Txn}{k:g9}(hB:BatchIn fmt procs [t])(hs:p9 s)(h:qpp (ov fmt procs s t).2 k=true):my t.ft.all t.ft.reads t.ft.writes=true∧(t.ft.all=true∨jk t.ft.writes k=true):=by
 unfold ov at h;split at h
 ·simp[qpp,u4]at h
 ·rename_i p hp;have h:qpp (mz fmt p t.args s t.ft) k=true:=by split at h<;>exact h
  unfold qpp at h;simp only[c0,decide_eq_true_eq]at h;have hI:RunIn fmt p t.args s:=⟨hB.fmt,hB.body p (xjj hp).1,hB.args t ae,hs⟩
  have hc:=(xcz (ft:=t.ft) hI h.1).1;have hk:k∈(mz fmt p t.args s t.ft).puts:=by rw[←hc];exact xod.1 h.2
  refine⟨?_,(xvm hk).2⟩;by_cases hr:vw p t.args s t.ft
  ·exact((qci _ _ _ _).1 hr).2.2.2
  ·rw[qeu hr]at h;simp[u4]at h
end
end
theorem xc3:∀(l m:List Nat),l.Nodup→(∀x∈l,x∈m)→l.length≤m.length
 | [],m,_,_=>by simp
 |x::l,m,hd,h=>by
  have hx:=h x ae;have ws:=gg.1 hd;have h1:=xc3 l (m.erase x) ws.2 (fun y hy=>(List.mem_erase_of_ne (by rintro rfl;exact ws.1 hy)).2 (h y cm));rw[List.length_erase_of_mem hx]at h1;have h2:0<m.length:=List.length_pos_of_mem hx;simp only[d5];omega
theorem jb6(n:Nat)(l:List Nat)(hd:l.Nodup)(h:∀x∈l,x<n):l.length≤n:=by
 have:=xc3 l (List.range n) hd (fun x hx=>eh.2 (h x hx));simpa using this
theorem least{P:Nat→Prop}(h:∃n,P n):∃n,P n∧∀i,i<n→¬P i:=by
 obtain⟨n,hn⟩:=h
 induction n using Nat.strongRecOn with
 |ind n ih =>
  by_cases hc:∃i,i<n∧P i
  ·obtain⟨i,hi,hp⟩:=hc;exact ih i hi hp
  ·exact⟨n,hn,fun i hi hp=>hc ⟨i,hi,hp⟩⟩
theorem xbl{n:Nat}{l:List Nat}(hd:l.Nodup)(h:∀x∈l,x<n)(hl:l.length=n):∀j,j<n→j∈l:=fun j hj=>by
 by_cases hm:j∈l
 ·exact hm
 ·have h1:=jb6 n (j::l) (gg.2 ⟨hm,hd⟩) (fun x hx=>by
   rcases cw.1 hx with rfl|hx
   ·exact hj
   ·exact h x hx)
  simp at h1;omega
def qw9:Eff:=⟨0,0,[],[],[],[],em,0⟩
def jmk(fs:List Foot)(j:Nat):List Nat:=match fs[j]? with|some f=>jei fs j f|none=>[]
def quv(choices:List Int)(step n:Nat):Nat:=match choices[step]? with|some c=>if c<0 then 0 else(c.toNat % n)|none=>0
section
variable (fmt:Int→g9)
end
structure MvJ(fmt:Int→g9)(procs:List Proc)(s:List Pr)(l:List Txn)(n:Nat)(x:List Eff×List Bool×List Nat):Prop where
 inv:MvIn fmt procs s l x.1 x.2.1
 len:x.2.2.length=n
 nod:x.2.2.Nodup
 mem:∀j,x.2.1.getD j false=true↔j∈x.2.2
 lt:∀j∈x.2.2,j<l.length
 dep:∀a (h:a<x.2.2.length),∀i∈jmk (l.map (·.ft)) x.2.2[a],i∈x.2.2.take a
section
variable {fmt:Int→g9} {procs:List Proc} {s:List Pr} {l:List Txn} {choices:List Int}
theorem xot{step n:Nat}(h:0<n):quv choices step n<n:=by
 unfold quv;split
 ·split
  ·exact h
  ·exact Nat.mod_lt _ h
 ·exact h
end
def r9(a b:List g9):Bool:=a.any fun k=>jk b k
def th(a b:Foot):Bool :=
 if my a.all a.reads a.writes=false∨my b.all b.reads b.writes=false∨a.all=true∨b.all=true then true
 else r9 a.writes b.writes||(r9 a.writes b.reads||r9 a.reads b.writes)
section
variable {fmt:Int→g9} {procs:List Proc} {s:List Pr}
end
theorem jk7:my true [] []=true:=by simp[my]
theorem qy4(f:Foot):my (nw f).all (nw f).reads (nw f).writes=true:=by
 unfold nw;split
 ·assumption
 ·exact jk7
theorem xwp(a b:Foot):th (nw a) (nw b)=th a b:=by
 unfold th;have h1:=qy4 a;have h2:=qy4 b;by_cases ha:my a.all a.reads a.writes=true
 ·have ea:nw a=a:=by unfold nw;rw[if_pos ha]
  by_cases hb:my b.all b.reads b.writes=true
  ·have eb:nw b=b:=by unfold nw;rw[if_pos hb]
   rw[ea,eb]
  ·have eb:nw b=⟨true,[],[]⟩:=by unfold nw;rw[if_neg hb]
   rw[eb,if_pos ae,if_pos (by simp[hb])]
 ·have ea:nw a=⟨true,[],[]⟩:=by unfold nw;rw[if_neg ha]
  rw[ea,if_pos ae,if_pos (by simp[ha])]
theorem xhh{α:Type}[DecidableEq α]:∀(l m:List α),l.Nodup→(∀x∈l,x∈m)→l.length≤m.length
 | [],m,_,_=>by simp
 |x::l,m,hd,h=>by
  have hx:=h x ae;have ws:=gg.1 hd;have h1:=xhh l (m.erase x) ws.2 (fun y hy=>(List.mem_erase_of_ne (by rintro rfl;exact ws.1 hy)).2 (h y cm));rw[List.length_erase_of_mem hx]at h1;have h2:0<m.length:=List.length_pos_of_mem hx;simp only[d5];omega
def upP(n:Nat):List (Nat×Nat):=(List.range n).flatMap fun j=>(List.range j).map fun i=>(i,j)
def loP(n m:Nat):List (Nat×Nat):=(List.range m).flatMap fun a=>(List.range' (a+1) (n - (a+1))).map fun b=>(a,b)
theorem xnk(n:Nat):upP (n+1)=upP n++(List.range n).map fun i=>(i,n):=by simp[upP,List.range_succ]
theorem jc8(n m:Nat):loP n (m+1)=loP n m++(List.range' (m+1) (n - (m+1))).map fun b=>(m,b):=by simp[loP,List.range_succ]
theorem xjw{n:Nat}{p:Nat×Nat}:p∈upP n↔p.1<p.2∧p.2<n:=by
 obtain⟨i,j⟩:=p;simp only[upP,List.mem_flatMap,eh,dk,qlp];constructor
 ·rintro⟨a,ha,b,hb,rfl,rfl⟩;exact⟨hb,ha⟩
 ·rintro⟨h1,h2⟩;exact⟨j,h2,i,h1,rfl,rfl⟩
theorem xco{n m:Nat}{p:Nat×Nat}:p∈loP n m↔p.1<p.2∧p.2<n∧p.1<m:=by
 obtain⟨i,j⟩:=p;simp only[loP,List.mem_flatMap,eh,dk,qlp,List.mem_range'_1];constructor
 ·rintro⟨a,ha,b,hb,rfl,rfl⟩;omega
 ·rintro⟨h1,h2,h3⟩;exact⟨i,h3,j,aa,rfl,rfl⟩
theorem xds{α β:Type}{f:α→β}{l:List α}(hf:∀a∈l,∀b∈l,f a=f b→a=b)(h:l.Nodup):(l.map f).Nodup:=by
 induction l with
 |nil=>simp
 |cons x l ih =>
  have hd:=gg.1 h;rw[c8,gg];refine⟨fun hm=>?_,ih (fun a ha b hb=>hf a (by simp[ha]) b (by simp[hb])) hd.2⟩;obtain⟨y,hy,e⟩:=dk.1 hm;have:=hf y cm x ae e;subst this;exact hd.1 hy
theorem xsi:∀n,(upP n).Nodup
 | 0=>by simp[upP]
 |n+1=>by
  rw[xnk,qle];refine⟨xsi n,xds (fun a _ b _ e=>by simpa using e) List.nodup_range,?_⟩;rintro⟨a,b⟩ ha ⟨c,d⟩ hc e;have h1:=xjw.1 ha;simp only[dk,qlp]at hc;obtain⟨i,hi,rfl,rfl⟩:=hc;cases e;simp only at h1;omega
theorem xv3(n:Nat):∀m,(loP n m).Nodup
 | 0=>by simp[loP]
 |m+1=>by
  rw[jc8,qle];refine⟨xv3 n m,xds (fun a _ b _ e=>by simpa using e) List.nodup_range',?_⟩;rintro⟨a,b⟩ ha ⟨c,d⟩ hc e;have h1:=xco.1 ha;simp only[dk,qlp]at hc;obtain⟨i,hi,rfl,rfl⟩:=hc;cases e;simp only at h1;omega
structure Ord(n:Nat)(o:List Nat)(xl:List Int):Prop where
 len:o.length=n
 la:xl.length=n
 lt:∀k∈o,k<n
 nod:o.Nodup
 at_:∀a (h:a<o.length),xl.getD o[a] (-1)=a
theorem Ord.get{n:Nat}{o:List Nat}{xl:List Int}(h:Ord n o xl){k:Nat}(hk:k<n):∃a,∃ha:a<o.length,o[a]=k∧xl.getD k (-1)=a:=by
 have hm:=xbl h.nod h.lt h.len k hk;obtain⟨a,ha,rfl⟩:=qme.1 hm;exact⟨a,ha,rfl,h.at_ a ha⟩
def qr0(xl:List Int)(C:Nat→Nat→Bool)(n:Nat):Nat:=((upP n).filter fun p=>decide (xl.getD p.2 (-1)<xl.getD p.1 (-1))&&C p.1 p.2).length
def xdi(o:List Nat)(C:Nat→Nat→Bool)(n m:Nat):Nat:=((loP n m).filter fun p=>decide (o.getD p.2 0<o.getD p.1 0)&&C (o.getD p.2 0) (o.getD p.1 0)).length
theorem xx7{n:Nat}{o:List Nat}{xl:List Int}(h:Ord n o xl)(C:Nat→Nat→Bool):qr0 xl C n=xdi o C n n:=by
 have hl:=h.len;refine Nat.le_antisymm ?_ ?_
 ·have hf:∀p∈(upP n).filter (fun p=>decide (xl.getD p.2 (-1)<xl.getD p.1 (-1))&&C p.1 p.2),∃a b,∃(ha:a<o.length) (hb:b<o.length),o[a]=p.2∧o[b]=p.1∧xl.getD p.2 (-1)=a∧xl.getD p.1 (-1)=b∧a<b∧p.1<p.2∧C p.1 p.2=true:=fun p hp=>by
   obtain⟨h1,h2⟩:=fe.1 hp;have h3:=xjw.1 h1;simp only[c0,decide_eq_true_eq]at h2;obtain⟨a,ha,e1,e2⟩:=h.get h3.2;obtain⟨b,hb,e3,e4⟩:=h.get (Nat.lt_trans h3.1 h3.2);refine⟨a,b,ha,hb,e1,e3,e2,e4,?_,h3.1,h2.2⟩;rw[e2,e4]at h2;omega
  have hg:=xds (f:=fun p:Nat×Nat=>((xl.getD p.2 (-1)).toNat,(xl.getD p.1 (-1)).toNat)) (l:=(upP n).filter fun p=>decide (xl.getD p.2 (-1)<xl.getD p.1 (-1))&&C p.1 p.2) (fun p hp q hq e=>by
   obtain⟨a,b,ha,hb,e1,e2,e3,e4,_⟩:=hf p hp;obtain⟨a',b',ha',il,f1,f2,f3,f4,_⟩:=hf q hq;simp only[e3,e4,f3,f4,qld,qlp]at e;obtain⟨rfl,rfl⟩:=e;exact Prod.ext (e2.symm.trans f2) (e1.symm.trans f1)) ((xsi n).filter _)
  have:=xhh _ ((loP n n).filter fun p=>decide (o.getD p.2 0<o.getD p.1 0)&&C (o.getD p.2 0) (o.getD p.1 0)) hg (fun x hx=>by
   obtain⟨p,hp,rfl⟩:=dk.1 hx;obtain⟨a,b,ha,hb,e1,e2,e3,e4,wt,ib,hC⟩:=hf p hp;simp only[e3,e4,qld];refine fe.2 ⟨xco.2 ⟨wt,cc,cc⟩,?_⟩;have g1:o.getD a 0=p.2:=by rw[fg,da ha,e1];rfl
   have g2:o.getD b 0=p.1:=by rw[fg,da hb,e2];rfl
   simp only[g1,g2,hC,fl,decide_eq_true_eq];exact ib)
  rw[ew]at this;exact this
 ·have hf:∀p∈(loP n n).filter (fun p=>decide (o.getD p.2 0<o.getD p.1 0)&&C (o.getD p.2 0) (o.getD p.1 0)),∃(h1:p.1<o.length) (h2:p.2<o.length),o.getD p.1 0=o[p.1]∧o.getD p.2 0=o[p.2]∧p.1<p.2∧o[p.2]<o[p.1]∧C o[p.2] o[p.1]=true:=fun p hp=>by
   obtain⟨h1,h2⟩:=fe.1 hp;have h3:=xco.1 h1;simp only[c0,decide_eq_true_eq]at h2;have l1:p.1<o.length:=aa;have l2:p.2<o.length:=aa;have g1:o.getD p.1 0=o[p.1]:=by rw[fg,da l1];rfl
   have g2:o.getD p.2 0=o[p.2]:=by rw[fg,da l2];rfl
   rw[g1,g2]at h2;exact⟨l1,l2,g1,g2,h3.1,h2⟩
  have hg:=xds (f:=fun p:Nat×Nat=>(o.getD p.2 0,o.getD p.1 0)) (l:=(loP n n).filter fun p=>decide (o.getD p.2 0<o.getD p.1 0)&&C (o.getD p.2 0) (o.getD p.1 0)) (fun p hp q hq e=>by
   obtain⟨a1,a2,a3,a4,_⟩:=hf p hp;obtain⟨b1,b2,b3,b4,_⟩:=hf q hq;simp only[a3,a4,b3,b4,qlp]at e;exact Prod.ext ((List.getElem_inj h.nod).1 e.2) ((List.getElem_inj h.nod).1 e.1)) ((xv3 n n).filter _)
  have:=xhh _ ((upP n).filter fun p=>decide (xl.getD p.2 (-1)<xl.getD p.1 (-1))&&C p.1 p.2) hg (fun x hx=>by
   obtain⟨p,hp,rfl⟩:=dk.1 hx;obtain⟨l1,l2,g1,g2,wt,ib,hC⟩:=hf p hp;simp only[g1,g2];refine fe.2 ⟨xjw.2 ⟨ib,h.lt _ (c9 l1)⟩,?_⟩;simp only[h.at_ _ l1,h.at_ _ l2,hC,fl,decide_eq_true_eq];omega)
  rw[ew]at this;exact this
theorem jfg{o:List Nat}{C:Nat→Nat→Bool}{n:Nat}:xdi o C n n=0↔∀a b,a<b→b<n→¬(o.getD b 0<o.getD a 0∧C (o.getD b 0) (o.getD a 0)=true):=by
 unfold xdi;rw[ql8,qmr];constructor
 ·intro h a b wt hb hc;exact h (a,b) (xco.2 ⟨wt,hb,cc⟩) (by simp only[hc.2,fl,decide_eq_true_eq];exact hc.1)
 ·rintro h ⟨a,b⟩ hm;have h1:=xco.1 hm;simp only[c0,decide_eq_true_eq];exact h a b h1.1 h1.2.1
end Go.Cw
