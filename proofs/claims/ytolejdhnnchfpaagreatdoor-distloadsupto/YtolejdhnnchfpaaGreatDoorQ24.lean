/- Part 24 of a proof. -/
import Derived.Test.YtolejdhnnchfpaaGreatDoorQ23
set_option linter.all false
namespace Go.Cw
open Go Go.Abs
theorem xh4{α β:Type}{f g:β->α->β}:∀(l:List α) (b:β),(∀x∈l,∀c,f c x=g c x)->l.foldl f b=l.foldl g b
 | [],_,_=>rfl
 |x::l,b,h=>by
  rw[fj,fj,h x ac];exact xh4 l _ λy hy=>h y ck
theorem xub{l:List ig}(h:kg l):l.Nodup:=h.imp λh=>qr2 h
theorem xc6{f:Foot}(h:qa f.all f.reads f.writes=true):kg f.reads/\kg f.writes/\(∀k∈f.reads,sw k=true)/\(∀k∈f.writes,sw k=true)/\f.reads.length<=64/\f.writes.length<=64/\(f.all=true->f.reads=[]/\f.writes=[]):=by
 obtain⟨a,r,w⟩:=f;unfold qa at h;cases a with
 |true =>
  simp only[if_true,cw,decide_eq_true_eq]at h;obtain⟨h1,h2⟩:=h;have h1:r=[]:=fg h1;have h2:w=[]:=fg h2;subst h1 h2;simp[kg]
 |false =>
  simp only[qje,if_false,cw,decide_eq_true_eq]at h;obtain⟨⟨h1,h2⟩,h3,h4⟩:=h;obtain⟨r1,r2,_⟩:=(xbl _ _).1 h1;obtain⟨w1,w2,_⟩:=(xbl _ _).1 h3;exact⟨r2,w2,r1,w1,qhv,qhv,λh=>by cases h⟩
def qv2(f:Foot):List ig:=f.writes++f.reads.filter λk=>!l8 f.writes k
theorem jft{f:Foot}(h:qa f.all f.reads f.writes=true):(qv2 f).Nodup:=by
 obtain⟨h1,h2,_⟩:=xc6 h;refine qjm.2 ⟨xub h2,xub (h1.filter _),λa ha b hb e=>?_⟩;subst e;have:=(e9.1 hb).2;rw[wm.2 ha]at this;cases this
theorem xv6{f:Foot}{k:ig}:k∈qv2 f↔y7 f k=true:=by
 unfold qv2 y7;rw[dw,e9,gu,wm,wm];by_cases h:k∈f.writes
 .simp[h]
 .have:l8 f.writes k=false:=fu.2 λe=>h (wm.1 e);simp[h,this]
theorem xv2{f:Foot}(h:qa f.all f.reads f.writes=true):(qv2 f).length<=128:=by grind[c7,qv2,xc6,qjv]
def qp7(n:Int)(f:Foot)(qs:List LQ):List LQ:=f.reads.foldl (λl k=>if l8 f.writes k=true then l else nc k ⟨n,false⟩ l) (f.writes.foldl (λl k=>nc k ⟨n,true⟩ l) qs)
theorem xuk(n:Int)(f:Foot)(qs:List LQ):qp7 n f qs=qs5 (λk=>⟨n,l8 f.writes k⟩) (qv2 f) qs:=by
 unfold qp7 qs5 qv2;rw[List.foldl_append,List.foldl_filter];have e1:f.writes.foldl (λl k=>nc k ⟨n,true⟩ l) qs=f.writes.foldl (λl k=>nc k ⟨n,l8 f.writes k⟩ l) qs:=xh4 _ _ λk hk c=>by rw[wm.2 hk]
 rw[e1];refine xh4 _ _ λk hk c=>?_;rcases h:l8 f.writes k with _|_<;>simp[h]
section
variable {fs:Nat->Foot} {R:List Nat} {T:LT}
theorem jey(h:TabOk fs R T){n:Nat}(hf:qa (fs n).all (fs n).reads (fs n).writes=true):TabOk fs (R++[n]) ⟨T.glob++[⟨(n:Int),(fs n).all⟩],qp7 n (fs n) T.qs⟩:=by
 rw[xuk];exact xx8 h (jft hf) λk=>xv6
theorem xgv(w:Nat->Bool):∀(R:List Nat) (p:Option Int),R.Pairwise (· < ·)->(∀i∈R,∀x,p=some x->x<(i:Int))->qo0 p (R.map λ(i:Nat)=>⟨(i:Int),w i⟩)=true
 | [],_,_,_=>rfl
 |i::R,p,h,hp=>by
  obtain⟨h1,h2⟩:=eh.1 h;have ih:=xgv w R (some (i:Int)) h2 λj hj x hx=>by cases hx;have:=h1 j hj;omega
  rw[dj,qo0,ih,fa,cw];refine⟨ac,?_⟩;cases p with
  |none=>rfl
  |some x=>exact decide_eq_true (hp i ac x rfl)
theorem xs7(w:Nat->Bool){i:Nat}:∀(R:List Nat),i∈R->w i=false->inG (R.map λ(j:Nat)=>⟨(j:Int),w j⟩) (i:Int)=true
 | [],h,_=>by cases h
 |j::R,h,hw=>by
  by_cases e:j=i
  .grind[List.find?_cons_of_pos,inG]
  .have e':¬(j:Int)=(i:Int):=aa;have hm:i∈R:=(c0.1 h).resolve_left λg=>e g.symm;have ih:=xs7 w R hm hw;unfold inG at ih|-;rw[dj,List.find?_cons_of_neg (by simp[e'])];exact ih
theorem xrb{g:List LReq}:∀(l:List LQ) (k:Option ig),kg (lu l)->(∀p,k=some p->∀x∈lu l,js p x=true)->(∀q∈l,sw q.key=true/\q.reqs≠[]/\qo0 none q.reqs=true/\∀r∈q.reqs,inG g r.t=true)->qo2 g k l=true
 | [],_,_,_,_=>rfl
 |q::l,k,h,hk,hq=>by
  obtain⟨h1,h2⟩:=eh.1 h;obtain⟨q1,q2,q3,q4⟩:=hq q ac;have ih:=xrb l (some q.key) h2 (λp hp x hx=>by cases hp;exact h1 x hx) λx hx=>hq x bu;have h5:after k q.key=true:=by
   cases k with
   |none=>rfl
   |some p=>exact hk p rfl _ ac
  have h6:q.reqs.isEmpty=false:=af;rw[qo2,q1,h5,h6,q3,ih,dr.2 q4];rfl
theorem xid(h:TabOk fs R T)(hR:R.Pairwise (· < ·))(hf:∀i∈R,qa (fs i).all (fs i).reads (fs i).writes=true):qlz T=true:=by
 unfold qlz;rw[cw];constructor
 .rw[h.glob];exact xgv (λi=>(fs i).all) R none hR λ_ _ _ e=>by cases e
 .refine xrb T.qs none h.asc (λ_ e=>by cases e) λq hq=>?_;obtain⟨e1,e2⟩:=(h.mem q).1 hq;have mw:∀i∈R,y7 (fs i) q.key=true->sw q.key=true/\(fs i).all=false:=λi hi hh=>by
   obtain⟨_,_,f3,f4,_,_,f7⟩:=xc6 (hf i hi);unfold y7 at hh;rw[gu,wm,wm]at hh;refine⟨hh.elim (f4 _) (f3 _),?_⟩;rcases ha:(fs i).all with _|_
   .rfl
   .grind
  have tz:∀r∈q.reqs,∃i∈R,y7 (fs i) q.key=true/\r.t=(i:Int):=λr hr=>by grind[rq]
  refine⟨?_,e2,?_,λr hr=>?_⟩
  .obtain⟨r,hr⟩:=List.exists_mem_of_ne_nil _ e2;obtain⟨i,a,b,_⟩:=tz r hr;exact(mw i a b).1
  .rw[e1];exact xgv (λi=>l8 (fs i).writes q.key) _ none (hR.filter _) λ_ _ _ e=>by cases e
  .obtain⟨i,a,b,c⟩:=tz r hr;rw[c,h.glob];exact xs7 (λi=>(fs i).all) R a (mw i a b).2
abbrev qz(qs:List LQ):Nat:=(qs.map λq=>q.reqs.length).sum
theorem xq3{k:ig}{r:LReq}:∀(l:List LQ),qz (nc k r l)=qz l+1
 | []=>by simp[nc,qz]
 |q::l=>by
  have ih:=xq3 (k:=k) (r:=r) l;rw[nc];split
  .grind
  .grind
theorem xln{r:ig->LReq}:∀(ks:List ig) (l:List LQ),qz (qs5 r ks l)=qz l+ks.length
 | [],l=>rfl
 |k::ks,l=>by
  have e:qs5 r (k::ks) l=qs5 r ks (nc k (r k) l):=rfl;rw[e,xln ks,xq3,dy];omega
theorem xm9(t:Int)(l:List LReq):(yy t l).length<=l.length:=qjv _ _
theorem xp8(t:Int):∀(l:List LQ),qz (w8 t l)<=qz l
 | []=>cn _
 |q::l=>by
  have ih:=xp8 t l;have h:=xm9 t q.reqs;rw[w8];split
  .grind
  .grind
theorem xtj:∀{l:List LQ} {q:LQ},q∈l->q.reqs.length<=qz l
 |x::l,q,h=>by
  simp only[qz,dj,qjw];rcases c0.1 h with rfl|h
  .omega
  .have:=xtj h;simp only[qz]at this;omega
theorem xpj:∀{l:List LQ},(∀q∈l,q.reqs≠[])->l.length<=qz l
 | [],_=>cn _
 |x::l,h=>by
  have ih:=xpj λq hq=>h q (List.mem_cons_of_mem _ hq);have h1:=List.length_pos_iff.2 (h x ac);simp only[qz,dj,qjw,dy]at ih|-;omega
theorem xmx(t:Int):∀(qs:List LQ),(qs.flatMap λq=>yi t q.reqs).length<=qz qs
 | []=>cn _
 |q::l=>by
  have h1:=xm2 t q.reqs;have h2:=xmx t l;simp only[List.flatMap_cons,c7,qz,dj,qjw]at h2|-;omega
theorem jfe{qs:List LQ}{n:Nat}(h:n<qs.length):qz (qs.take n)+qs[n].reqs.length<=qz qs:=by
 have h1:qs=qs.take n++qs[n]::qs.drop (n+1):=ac;have h2:qz qs=qz (qs.take n++qs[n]::qs.drop (n+1)):=ac;rw[h2];simp only[qz,eg,dj,List.sum_append,qjw];omega
theorem xhr(h:TabOk fs R T)(n:Nat):(n∉R->nv (λx:LReq=>decide (x.t=(n:Int))) T.glob = -1)/\(n∈R->0<=nv (λx:LReq=>decide (x.t=(n:Int))) T.glob):=by
 rw[h.glob];rcases qzz (λx:LReq=>decide (x.t=(n:Int))) (R.map λ(i:Nat)=>⟨(i:Int),(fs i).all⟩)with⟨h1,h2⟩|⟨m,hm,h1,h2⟩
 .refine⟨λ_=>h1,λhn=>?_⟩;have:=List.find?_eq_none.1 h2 _ (cy.2 ⟨n,hn,rfl⟩);simp at this
 .grind
end
def fE(fs:List Foot)(i:Nat):Foot:=qw0 (fs.getD i ⟨true,[],[]⟩)
theorem jbf(fs:List Foot)(i:Nat):qa (fE fs i).all (fE fs i).reads (fE fs i).writes=true:=jdb _
structure TabIn(fs:List Foot)(R:List Nat)(T:LT):Prop where
 tab:TabOk (fE fs) R T
 asc:R.Pairwise (· < ·)
 sz:qz T.qs<=128 * fs.length
 lt:∀i∈R,i<fs.length
section
variable {fs:List Foot} {R:List Nat} {T:LT}
theorem TabIn.valid(h:TabIn fs R T):qlz T=true:=xid h.tab h.asc λi _=>jbf fs i
end
structure Nd where
 node:Int
 prs:List Pr
 tab:LT
 inbox:List Mail
 sent:List Bool
 exd:List Bool
structure Sy where
 nds:List Nd
 tr:List Mail
 efs:List Eff
inductive Act where
 |send (i t:Nat)
 |dlv (i:Nat)
 |exe (i t:Nat)
def ftZ:Foot:=⟨false,[],[]⟩
def oe(t:Txn):Foot:=if fOk t.ft=true then t.ft else ftZ
def jn(txns:List Txn)(t:Nat):Foot:=match txns[t]? with|some x=>oe x|none=>ftZ
def p6(l:List Int)(n:Int):Bool:=l.any λx=>decide (x=n)
theorem qdp{l:List Int}{n:Int}:p6 l n=true↔n∈l:=by simp[p6]
def qox(p:Plc)(prs:List Pr)(f:Foot):List Pr:=if (pf p f&&jl prs)=true then prs.filter λx=>f.all||l8 f.reads x.key else []
def yl(p:Plc)(n:Int)(prs:List Pr)(t:Nat)(f:Foot):List Mail :=
 if (pf p f&&jl prs&&p6 (l9 p f) n)=true then(ma p f).map λto=>⟨(t:Int),n,to,ql6 p f.reads n,qox p prs f⟩else []
def qr4(p:Plc)(f:Foot)(t:Nat)(n:Int)(l:List Mail):Bool:=pf p f&&(l9 p f).all λm=>l.any λx=>decide (x.txn=(t:Int))&&decide (x.frm=m)&&decide (x.to=n)
def pq(p:Plc)(l:List Pr)(n:Int):List Pr:=l.filter λx=>decide (ly p x.key=n)
def grS(T:LT)(t:Nat):Bool:=qlz T&&decide (0<=nv (λx:LReq=>decide (x.t=(t:Int))) T.glob)&&(ql9 T t).isEmpty
def relS(T:LT)(t:Nat):LT:=if (qlz T&&decide (0<=nv (λx:LReq=>decide (x.t=(t:Int))) T.glob))=true then qrr t T else T
section
variable (fmt:Int->ig) (procs:List Proc) (p:Plc) (txns:List Txn)
def qll(nd:Nd)(t:Nat):Bool:=p6 (l9 p (jn txns t)) nd.node&&!nd.sent.getD t false&&grS nd.tab t
def qmx(nd:Nd)(t:Nat):Bool:=p6 (ma p (jn txns t)) nd.node&&!nd.exd.getD t false&&qr4 p (jn txns t) t nd.node nd.inbox
def p7(σ:Sy):Act->Sy
 | .send i t=>match σ.nds[i]? with
  |none=>σ
  |some nd=>⟨σ.nds.set i ⟨nd.node,nd.prs,if p6 (ma p (jn txns t)) nd.node=true then nd.tab else relS nd.tab t,nd.inbox,nd.sent.set t true,nd.exd⟩,σ.tr++yl p nd.node nd.prs t (jn txns t),σ.efs⟩
 | .dlv i=>match σ.tr[i]? with
  |none=>σ
  |some m=>⟨σ.nds.map λnd=>if nd.node=m.to then⟨nd.node,nd.prs,nd.tab,nd.inbox++[m],nd.sent,nd.exd⟩else nd,σ.tr.eraseIdx i,σ.efs⟩
 | .exe i t=>match σ.nds[i]?,txns[t]? with
  |some nd,some x =>
   let e:=(ru fmt procs (u3 t nd.node nd.inbox).1 x).2
   ⟨σ.nds.set i ⟨nd.node,if e.status=1/\jl nd.prs=true/\r9 (pq p e.writes nd.node)=true then rx nd.prs (pq p e.writes nd.node)else nd.prs,relS nd.tab t,nd.inbox,nd.sent,nd.exd.set t true⟩,σ.tr,if (ma p (jn txns t)).head?=some nd.node then σ.efs.set t e else σ.efs⟩
  |_,_=>σ
def uc(nd:Nd)(t:Nat):Bool:=if p6 (ma p (jn txns t)) nd.node=true then nd.exd.getD t false else nd.sent.getD t false
def xc(nd:Nd):List Nat:=(List.range txns.length).filter λt=>p6 (l9 p (jn txns t)) nd.node&&!uc p txns nd t
abbrev vy(n:Int)(t:Nat):Foot:=qrb p (jn txns t) n
structure NdOk(s:List Pr)(nd:Nd):Prop where
 ls:nd.sent.length=txns.length
 le:nd.exd.length=txns.length
 st:jl nd.prs=true
 rg:l6 nd.prs
 ow:∀q∈nd.prs,ly p q.key=nd.node
 tb:TabOk (vy p txns nd.node) (xc p txns nd) nd.tab
 ord:∀u,nd.sent.getD u false=true->∀t,t<u->nd.node∈l9 p (jn txns t)->qmm (vy p txns nd.node t) (vy p txns nd.node u)=true->uc p txns nd t=true
 sp:∀t,nd.sent.getD t false=true->t<txns.length/\nd.node∈l9 p (jn txns t)
 xp:∀t,nd.exd.getD t false=true->t<txns.length/\nd.node∈ma p (jn txns t)
 xs:∀t,nd.exd.getD t false=true->nd.node∈l9 p (jn txns t)->nd.sent.getD t false=true
 get:∀k,ly p k=nd.node->∀j,j<=txns.length->(∀t (h:t<txns.length),yw (yu fmt procs s txns t txns[t]) k=true->(nd.exd.getD t false=true↔t<j))->jw nd.prs k=jw (ym fmt procs s txns j) k
 inb:∀m∈nd.inbox,m.to=nd.node
structure MlOk(s:List Pr)(nds:List Nd)(m:Mail):Prop where
 ex:∃t,t<txns.length/\m.txn=(t:Int)/\m.frm∈l9 p (jn txns t)/\m.to∈ma p (jn txns t)/\m.keys=ql6 p (jn txns t).reads m.frm/\(∀q∈m.prs,rdF (jn txns t) q.key)/\(∀k,ly p k=m.frm->rdF (jn txns t) k->jw m.prs k=jw (ym fmt procs s txns t) k)/\∃y∈nds,y.node=m.frm/\y.sent.getD t false=true
 st:jl m.prs=true
 rg:l6 m.prs
 ow:∀q∈m.prs,ly p q.key=m.frm
structure SyOk(s:List Pr)(σ:Sy):Prop where
 nodes:σ.nds.map (·.node)=nq p
 nd:∀x∈σ.nds,NdOk fmt procs p txns s x
 el:σ.efs.length=txns.length
 sx:∀x∈σ.nds,∀t,x.exd.getD t false=true->∀y∈σ.nds,y.node∈l9 p (jn txns t)->y.sent.getD t false=true
 mt:∀m∈σ.tr,MlOk fmt procs p txns s σ.nds m
 mi:∀x∈σ.nds,∀m∈x.inbox,MlOk fmt procs p txns s σ.nds m
 has:∀y∈σ.nds,∀t,y.sent.getD t false=true->∀x∈σ.nds,x.node∈ma p (jn txns t)->∃m,(m∈σ.tr\/m∈x.inbox)/\m.txn=(t:Int)/\m.frm=y.node/\m.to=x.node
 ef:∀x∈σ.nds,∀t (h:t<txns.length),x.exd.getD t false=true->(ma p (jn txns t)).head?=some x.node->σ.efs[t]?=some (yu fmt procs s txns t txns[t])
end
section
variable {fmt:Int->ig} {procs:List Proc} {p:Plc} {txns:List Txn} {s:List Pr}
theorem jj6(t:Txn):fOk (oe t)=true:=by
 unfold oe;split
 .assumption
 .rfl
theorem xvk(txns:List Txn)(t:Nat):fOk (jn txns t)=true:=by
 unfold jn;split
 .exact jj6 _
 .rfl
theorem zg(hp:jy p=true)(t:Nat):pf p (jn txns t)=true:=by simp[pf,hp,xvk]
theorem qt5{t:Nat}(h:t<txns.length):jn txns t=oe txns[t]:=by grind[cu,jn]
theorem xes(hB:BatchIn fmt procs txns)(hs:l6 s){t:Nat}(h:t<txns.length){k:ig}(hw:yw (yu fmt procs s txns t txns[t]) k=true):wrF (jn txns t) k:=by
 obtain⟨h1,h2⟩:=xw6 hB hs h hw;rw[qt5 h];unfold oe;rw[if_pos h1];exact h2.imp id wm.1
theorem qxy{l:List Bool}{i j:Nat}:(l.set i true).getD j false=true↔(l.getD j false=true\/(j=i/\i<l.length)):=af
theorem xgd(nd:Nd):(xc p txns nd).Pairwise (· < ·):=List.pairwise_lt_range.filter _
theorem qxn{nd:Nd}{t:Nat}:t∈xc p txns nd↔t<txns.length/\nd.node∈l9 p (jn txns t)/\uc p txns nd t=false:=by
 unfold xc;rw[e9,ga,cw,qdp,gv]
theorem qxf(hp:jy p=true)(n:Int)(t:Nat):fOk (vy p txns n t)=true:=xiy (zg hp t) n
theorem NdOk.valid(hp:jy p=true){nd:Nd}(N:NdOk fmt procs p txns s nd):qlz nd.tab=true:=xid N.tb (xgd nd) λi _=>qxf hp _ i
theorem NdOk.granted(hp:jy p=true){nd:Nd}(N:NdOk fmt procs p txns s nd){t:Nat}:grS nd.tab t=true↔t∈xc p txns nd/\∀j∈xc p txns nd,j<t->qmm (vy p txns nd.node j) (vy p txns nd.node t)=false:=by
 have hx:=xhr N.tb t;unfold grS;rw[N.valid hp,dh,cw,decide_eq_true_eq,List.isEmpty_iff];constructor
 .rintro⟨h1,h2⟩;have hm:t∈xc p txns nd:=Classical.byContradiction λhn=>by have:=hx.1 hn;omega
  exact⟨hm,(xq2 N.tb (xgd nd) (λi _=>qxf hp _ i) hm).1 h2⟩
 .rintro⟨h1,h2⟩;exact⟨hx.2 h1,(xq2 N.tb (xgd nd) (λi _=>qxf hp _ i) h1).2 h2⟩
theorem NdOk.relS(hp:jy p=true){nd:Nd}(N:NdOk fmt procs p txns s nd)(t:Nat):TabOk (vy p txns nd.node) ((xc p txns nd).filter λi=>!decide (i=t)) (relS nd.tab t):=by
 have hx:=xhr N.tb t;unfold Cw.relS;rw[N.valid hp,dh];split
 .exact xur N.tb t
 .rename_i h;simp only[decide_eq_true_eq]at h;have hm:t∉xc p txns nd:=λhm=>h (hx.2 hm);rw[List.filter_eq_self.2]
  .exact N.tb
  .grind
theorem NdOk.reads(hp:jy p=true)(hB:BatchIn fmt procs txns)(hs:l6 s){nd:Nd}(N:NdOk fmt procs p txns s nd){t:Nat}(ht:t<txns.length)(y8:∀u,u<t->nd.node∈l9 p (jn txns u)->qmm (vy p txns nd.node u) (vy p txns nd.node t)=true->uc p txns nd u=true)(kf:uc p txns nd t=false)(hpt:nd.node∈l9 p (jn txns t)){k:ig}(hk:ly p k=nd.node)(hr:rdF (jn txns t) k\/wrF (jn txns t) k)
  (it:∀h:t<txns.length,nd.exd.getD t false=true->yw (yu fmt procs s txns t txns[t]) k=true->False):jw nd.prs k=jw (ym fmt procs s txns t) k:=by
 refine N.get k hk t aa λu hu hw=>?_;have hwu:=xes hB hs hu hw;have hux:nd.node∈ma p (jn txns u):=hk▸xlw (zg hp u) hwu;have hup:nd.node∈l9 p (jn txns u):=hk▸xjh (zg hp u) hwu;have jr:uc p txns nd u=nd.exd.getD u false:=by unfold uc;rw[if_pos (qdp.2 hux)]
 constructor
 .intro hx;rcases qjq u t with h|h|h
  .exact h
  .grind
  .have hsu:nd.sent.getD u false=true->False:=λhsu=>by
    have:=N.ord u hsu t h hpt (by
     rw[jgf,<-hk];exact xkn (zg hp u) (zg hp t) hwu hr)
    rw[kf]at this;cases this
   exact(hsu (N.xs u hx hup)).elim
 .intro h;rw[<-jr];exact y8 u h hup (by rw[<-hk];exact xkn (zg hp u) (zg hp t) hwu hr)
def pm(p:Plc)(txns:List Txn)(nd:Nd)(t:Nat):Nd:=⟨nd.node,nd.prs,if p6 (ma p (jn txns t)) nd.node=true then nd.tab else relS nd.tab t,nd.inbox,nd.sent.set t true,nd.exd⟩
theorem qxp{nd:Nd}{t:Nat}:qll p txns nd t=true↔nd.node∈l9 p (jn txns t)/\nd.sent.getD t false=false/\grS nd.tab t=true:=by
 unfold qll;rw[cw,cw,qdp,gv,and_assoc]
theorem xfs{a b:Bool}(h:a=true↔b=true):a=b:=Bool.eq_iff_iff.2 h
theorem xyj{nd:Nd}{t u:Nat}(ht:t<nd.sent.length):uc p txns (pm p txns nd t) u=true↔(uc p txns nd u=true\/(u=t/\nd.node∉ma p (jn txns t))):=by
 unfold uc pm;simp only;by_cases hx:p6 (ma p (jn txns u)) nd.node=true
 .rw[if_pos hx,if_pos hx];refine⟨.inl,λh=>h.elim id ?_⟩;rintro⟨rfl,h⟩;exact(h (qdp.1 hx)).elim
 .rw[if_neg hx,if_neg hx,qxy];constructor
  .rintro(h|⟨rfl,_⟩)
   .grind
   .exact .inr ⟨rfl,λh=>hx (qdp.2 h)⟩
  .grind
theorem xzl(hp:jy p=true){nd:Nd}(N:NdOk fmt procs p txns s nd){t:Nat}(hc:qll p txns nd t=true):NdOk fmt procs p txns s (pm p txns nd t):=by
 obtain⟨hpt,kn,hg⟩:=qxp.1 hc;obtain⟨hm,hg⟩:=(N.granted hp).1 hg;obtain⟨ht,_,jr⟩:=qxn.1 hm;have hr:=λu=>xyj (p:=p) (txns:=txns) (nd:=nd) (t:=t) (u:=u) qgm;have hsd:∀u,(pm p txns nd t).sent.getD u false=true↔(nd.sent.getD u false=true\/(u=t/\t<nd.sent.length)):=λu=>qxy;refine { ls:=by simp[pm,N.ls],le:=N.le,st:=N.st,rg:=N.rg,ow:=N.ow,tb:=?_,ord:=λu hu t' il hpt' hcf=>?_,sp:=λu hu=>?_,xp:=N.xp,xs:=λu hu hpu=>(hsd u).2 (.inl (N.xs u hu hpu)),get:=N.get,inb:=N.inb }
 .show TabOk (vy p txns nd.node) (xc p txns (pm p txns nd t)) (if p6 (ma p (jn txns t)) nd.node=true then nd.tab else relS nd.tab t);by_cases hx:p6 (ma p (jn txns t)) nd.node=true
  .rw[if_pos hx];have:xc p txns (pm p txns nd t)=xc p txns nd:=by
    unfold xc;refine qju λu _=>?_;have:uc p txns (pm p txns nd t) u=uc p txns nd u:=xfs ((hr u).trans ⟨λh=>h.elim id λh=>(h.2 (qdp.1 hx)).elim,.inl⟩);rw[this];rfl
   rw[this];exact N.tb
  .rw[if_neg hx];have:xc p txns (pm p txns nd t)=(xc p txns nd).filter λi=>!decide (i=t):=by
    unfold xc;rw[qki];refine qju λu _=>?_;by_cases e:u=t
    .subst e;have:uc p txns (pm p txns nd u) u=true:=(hr u).2 (.inr ⟨rfl,λh=>hx (qdp.2 h)⟩);simp[this]
    .simp_all[pm,xfs]
   rw[this];exact N.relS hp t
 .rw[hr];rcases(hsd u).1 hu with h|⟨rfl,_⟩
  .exact .inl (N.ord u h t' il hpt' hcf)
  .refine .inl ?_;rcases hz:uc p txns nd t' with _|_
   .have hcf:qmm (vy p txns nd.node t') (vy p txns nd.node u)=true:=hcf;rw[hg t' (qxn.2 ⟨aa,hpt',hz⟩) il]at hcf;cases hcf
   .rfl
 .rcases(hsd u).1 hu with h|⟨rfl,_⟩
  .exact N.sp u h
  .exact⟨ht,hpt⟩
theorem joz{l:List Pr}{q:ig->Bool}(h:kg (pb l)):kg (pb (l.filter λx=>q x.key)):=List.Pairwise.sublist (List.filter_sublist.map _) h
theorem xxl{l:List Pr}(h:r9 l=true)(q:ig->Bool):r9 (l.filter λx=>q x.key)=true:=by grind[qbp]
theorem xhx{l:List Pr}(h:jl l=true)(q:ig->Bool):jl (l.filter λx=>q x.key)=true:=by grind[tn]
theorem xk1{q:ig->Bool}{k:ig}:∀{l:List Pr},jw (l.filter λx=>q x.key) k=if q k=true then jw l k else V.nil
 | []=>by simp[jw]
 |x::l=>by
  have ih:=xk1 (q:=q) (k:=k) (l:=l);rw[List.filter_cons];by_cases hx:q x.key=true
  .grind[jw]
  .grind[jw]
theorem xz6{q:ig->Bool}{k:ig}{l:List Pr}:nf (l.filter λx=>q x.key) k=(q k&&nf l k):=by
 refine xfs ?_;rw[cw,qdj,qdj];constructor
 .grind
 .grind
theorem MlOk.mono{a b:List Nd}{m:Mail}(h:MlOk fmt procs p txns s a m)(hab:∀y∈a,∃z∈b,z.node=y.node/\∀t,y.sent.getD t false=true->z.sent.getD t false=true):MlOk fmt procs p txns s b m:=by
 obtain⟨⟨t,h1,h2,h3,h4,h5,h6,h7,y,hy,h8,h9⟩,st,rg,ow⟩:=h;obtain⟨z,hz,g1,g2⟩:=hab y hy;exact⟨⟨t,h1,h2,h3,h4,h5,h6,h7,z,hz,g1.trans h8,g2 t h9⟩,st,rg,ow⟩
theorem xlp{α:Type}{l:List α}{i:Nat}{b x:α}(hi:i<l.length)(hx:x∈l):x∈l.set i b\/x=l[i]:=by
 obtain⟨j,hj,rfl⟩:=qja hx;by_cases e:j=i
 .grind
 .refine .inl (cv (i:=j) ?_);rw[ct aa,cu hj]
theorem xbr{α:Type}{l:List α}{i:Nat}{b:α}(hi:i<l.length):b∈l.set i b:=cv (i:=i) af
theorem xph{α β:Type}{l:List α}{i:Nat}{b:α}{f:α->β}(hi:i<l.length)(h:f b=f l[i]):(l.set i b).map f=l.map f:=by
 rw[qiz,h];refine List.ext_getElem ac λj h1 h2=>?_;rw[List.getElem_set];split
 .grind
 .rfl
theorem jj3(hp:jy p=true)(hB:BatchIn fmt procs txns)(hs:l6 s)(h0:jl s=true){nds:List Nd}{nd:Nd}(N:NdOk fmt procs p txns s nd){t:Nat}(hc:qll p txns nd t=true)(hn:pm p txns nd t∈nds):∀m∈yl p nd.node nd.prs t (jn txns t),MlOk fmt procs p txns s nds m:=λm hm=>by
 obtain⟨hpt,kn,hg⟩:=qxp.1 hc;obtain⟨og,hg⟩:=(N.granted hp).1 hg;obtain⟨ht,_,jr⟩:=qxn.1 og;have hrt:=zg (txns:=txns) hp t;unfold yl at hm;split at hm
 rotate_left
 .cases hm
 obtain⟨to,hto,rfl⟩:=cy.1 hm;have hloc:qox p nd.prs (jn txns t)=nd.prs.filter λx=>(λk=>(jn txns t).all||l8 (jn txns t).reads k) x.key:=by grind[qox]
 have hq:∀k,((jn txns t).all||l8 (jn txns t).reads k)=true↔rdF (jn txns t) k:=λk=>by
  rw[gu,wm];rfl
 have hrd:=λk=>N.reads (k:=k) hp hB hs ht (λu hu hpu hcf=>by
  rcases hz:uc p txns nd u with _|_
  .rw[hg u (qxn.2 ⟨aa,hpu,hz⟩) hu]at hcf;cases hcf
  .rfl) jr hpt
 refine⟨⟨t,ht,rfl,hpt,hto,rfl,λq hq'=>?_,λk hk hr=>?_,_,hn,rfl,?_⟩,?_,?_,?_⟩
 .grind
 .show jw (qox p nd.prs (jn txns t)) k=_;rw[hloc,xk1 (q:=λk=>(jn txns t).all||l8 (jn txns t).reads k),if_pos ((hq k).2 hr)];exact hrd k hk (.inl hr) λh hx _=>by
   have:=N.xs t hx hpt;rw[kn]at this;cases this
 .show(nd.sent.set t true).getD t false=true;exact qxy.2 (.inr ⟨rfl,qgm⟩)
 .show jl (qox p nd.prs (jn txns t))=true;rw[hloc];exact xhx N.st λk=>(jn txns t).all||l8 (jn txns t).reads k
 .simp only[hloc];exact λq hq'=>N.rg q (e9.1 hq').1
 .simp only[hloc];exact λq hq'=>N.ow q (e9.1 hq').1
theorem jj7(hp:jy p=true)(hB:BatchIn fmt procs txns)(hs:l6 s)(h0:jl s=true){σ:Sy}(Y:SyOk fmt procs p txns s σ){i t:Nat}(hi:i<σ.nds.length)(hc:qll p txns σ.nds[i] t=true):SyOk fmt procs p txns s (p7 fmt procs p txns σ (.send i t)):=by
 have hd:p7 fmt procs p txns σ (.send i t)=⟨σ.nds.set i (pm p txns σ.nds[i] t),σ.tr++yl p σ.nds[i].node σ.nds[i].prs t (jn txns t),σ.efs⟩:=by
  simp only[p7,cu hi];rfl
 rw[hd];have mw:=dk hi;have N:=Y.nd _ mw;obtain⟨hpt,kn,hg⟩:=qxp.1 hc;have ht:t<σ.nds[i].sent.length:=by rw[N.ls];exact(qxn.1 ((N.granted hp).1 hg).1).1
 have hsd:∀u,(pm p txns σ.nds[i] t).sent.getD u false=true↔(σ.nds[i].sent.getD u false=true\/(u=t/\t<σ.nds[i].sent.length)):=λu=>qxy;have tz:∀x∈σ.nds.set i (pm p txns σ.nds[i] t),x∈σ.nds\/x=pm p txns σ.nds[i] t:=λx hx=>qkj hx;have qt6:∀y∈σ.nds,∃z∈σ.nds.set i (pm p txns σ.nds[i] t),z.node=y.node/\∀t,y.sent.getD t false=true->z.sent.getD t false=true:=λy hy=>by
  rcases xlp (b:=pm p txns σ.nds[i] t) hi hy with h|rfl
  .grind
  .exact⟨_,xbr hi,rfl,λu hu=>(hsd u).2 (.inl hu)⟩
 have qpr:∀x∈σ.nds.set i (pm p txns σ.nds[i] t),∃y∈σ.nds,x.node=y.node/\x.inbox=y.inbox/\x.exd=y.exd/\∀u,y.sent.getD u false=true->x.sent.getD u false=true:=λx hx=>by
  rcases tz x hx with h|rfl
  .grind
  .exact⟨_,mw,rfl,rfl,rfl,λu hu=>(hsd u).2 (.inl hu)⟩
 refine { nodes:=?_,nd:=λx hx=>?_,el:=Y.el,sx:=λx hx u hu y hy hpy=>?_,mt:=λm hm=>?_,mi:=λx hx m hm=>?_,has:=λy hy u hu x hx tc=>?_,ef:=λx hx u h hu he=>?_ }
 .exact(xph (f:=λx:Nd=>x.node) (b:=pm p txns σ.nds[i] t) hi rfl).trans Y.nodes
 .rcases tz x hx with h|rfl
  .exact Y.nd x h
  .grind[xzl]
 .obtain⟨x0,o6,e1,_,e3,_⟩:=qpr x hx;obtain⟨y0,hy0,f1,_,_,f4⟩:=qpr y hy;exact f4 u (Y.sx x0 o6 u af y0 hy0 af)
 .rcases dw.1 hm with h|h
  .exact(Y.mt m h).mono qt6
  .exact jj3 hp hB hs h0 N hc (xbr hi) m h
 .obtain⟨x0,o6,e1,e2,_,_⟩:=qpr x hx;exact(Y.mi x0 o6 m af).mono qt6
 .obtain⟨x0,o6,e1,e2,_,_⟩:=qpr x hx;rw[e1]at tc|-;rw[e2];have uv:∀y0∈σ.nds,y.node=y0.node->y0.sent.getD u false=true->∃m,(m∈σ.tr++yl p σ.nds[i].node σ.nds[i].prs t (jn txns t)\/m∈x0.inbox)/\m.txn=(u:Int)/\m.frm=y.node/\m.to=x0.node:=λy0 hy0 f1 hs0=>by
   obtain⟨m,g1,g2⟩:=Y.has y0 hy0 u hs0 x0 o6 tc;rw[f1];exact⟨m,g1.imp (λh=>by simp[h]) id,g2⟩
  rcases tz y hy with h|rfl
  .grind
  .rcases(hsd u).1 hu with h|⟨rfl,_⟩
   .exact uv _ mw rfl h
   .refine⟨⟨(u:Int),σ.nds[i].node,x0.node,ql6 p (jn txns u).reads σ.nds[i].node,qox p σ.nds[i].prs (jn txns u)⟩,.inl (dw.2 (.inr ?_)),rfl,rfl,rfl⟩;unfold yl;rw[if_pos (by rw[zg hp,N.st,qdp.2 hpt];rfl)];exact cy.2 ⟨_,tc,rfl⟩
 .obtain⟨x0,o6,e1,_,e3,_⟩:=qpr x hx;exact Y.ef x0 o6 u h af (by rw[he,e1])
end
section
variable {fmt:Int->ig} {procs:List Proc} {p:Plc} {txns:List Txn} {s:List Pr}
theorem NdOk.inb'{nd:Nd}(N:NdOk fmt procs p txns s nd){l:List Mail}(h:∀m∈l,m.to=nd.node):NdOk fmt procs p txns s ⟨nd.node,nd.prs,nd.tab,l,nd.sent,nd.exd⟩ :=
 { ls:=N.ls,le:=N.le,st:=N.st,rg:=N.rg,ow:=N.ow,tb:=N.tb,ord:=N.ord,sp:=N.sp,xp:=N.xp,xs:=N.xs,get:=N.get,inb:=h }
def r6(m:Mail)(nd:Nd):Nd:=if nd.node=m.to then⟨nd.node,nd.prs,nd.tab,nd.inbox++[m],nd.sent,nd.exd⟩else nd
theorem qdk(m:Mail)(nd:Nd):(r6 m nd).node=nd.node/\(r6 m nd).sent=nd.sent/\(r6 m nd).exd=nd.exd/\(∀x∈(r6 m nd).inbox,x∈nd.inbox\/(x=m/\m.to=nd.node))/\(∀x∈nd.inbox,x∈(r6 m nd).inbox)/\(m.to=nd.node->m∈(r6 m nd).inbox):=by grind[r6]
theorem jet{σ:Sy}(Y:SyOk fmt procs p txns s σ){i:Nat}(hi:i<σ.tr.length):SyOk fmt procs p txns s (p7 fmt procs p txns σ (.dlv i)):=by
 have hd:p7 fmt procs p txns σ (.dlv i)=⟨σ.nds.map (r6 σ.tr[i]),σ.tr.eraseIdx i,σ.efs⟩:=by
  simp only[p7,cu hi];rfl
 rw[hd];obtain⟨m,hm⟩:∃m,m=σ.tr[i]:=⟨_,rfl⟩
 rw[<-hm];have hmi:m∈σ.tr:=hm▸dk hi;have qt6:∀y∈σ.nds,∃z∈σ.nds.map (r6 m),z.node=y.node/\∀t,y.sent.getD t false=true->z.sent.getD t false=true:=λy hy=>by grind[qdk]
 refine { nodes:=?_,nd:=λx hx=>?_,el:=Y.el,sx:=λx hx u hu y hy hpy=>?_,mt:=λx hx=>(Y.mt x (List.mem_of_mem_eraseIdx hx)).mono qt6,mi:=λx hx z hz=>?_,has:=λy hy u hu x hx tc=>?_,ef:=λx hx u h hu he=>?_ }
 .show(σ.nds.map (r6 m)).map (·.node)=_
  rw[qi3,<-Y.nodes];exact qjr λx _=>(qdk m x).1
 .obtain⟨x0,o6,rfl⟩:=cy.1 hx;have N:=Y.nd x0 o6;unfold r6;split
  .rename_i h;exact N.inb' λz hz=>by
    rcases dw.1 hz with hz|hz
    .exact N.inb z hz
    .grind
  .exact N
 .obtain⟨x0,o6,rfl⟩:=cy.1 hx;obtain⟨y0,hy0,rfl⟩:=cy.1 hy;obtain⟨a1,a2,a3,_⟩:=qdk m x0;obtain⟨b1,b2,b3,_⟩:=qdk m y0;rw[b2];exact Y.sx x0 o6 u af y0 hy0 af
 .obtain⟨x0,o6,rfl⟩:=cy.1 hx;rcases(qdk m x0).2.2.2.1 z hz with h|⟨rfl,_⟩
  .exact(Y.mi x0 o6 z h).mono qt6
  .exact(Y.mt z hmi).mono qt6
 .obtain⟨x0,o6,rfl⟩:=cy.1 hx;obtain⟨y0,hy0,rfl⟩:=cy.1 hy;obtain⟨a1,a2,a3,a4,a5,a6⟩:=qdk m x0;obtain⟨b1,b2,b3,_⟩:=qdk m y0;rw[b2]at hu;rw[a1]at tc;obtain⟨z,hz,g1,g2,g3⟩:=Y.has y0 hy0 u hu x0 o6 tc;rw[a1,b1];rcases hz with hz|hz
  .by_cases e:z=m
   .grind
   .refine⟨z,.inl ?_,g1,g2,g3⟩;obtain⟨j,hj,rfl⟩:=qja hz;exact List.mem_eraseIdx_iff_getElem.2 ⟨j,hj,λe'=>e af,rfl⟩
  .grind
 .obtain⟨x0,o6,rfl⟩:=cy.1 hx;obtain⟨a1,a2,a3,_⟩:=qdk m x0;rw[a3]at hu;rw[a1]at he;exact Y.ef x0 o6 u h hu he
theorem jas{σ:Sy}(Y:SyOk fmt procs p txns s σ){x y:Nd}(hx:x∈σ.nds)(hy:y∈σ.nds)(h:x.node=y.node):x=y:=by
 have hn:(σ.nds.map (·.node)).Nodup:=by rw[Y.nodes];exact xpi p
 obtain⟨i,hi,rfl⟩:=qja hx;obtain⟨j,hj,rfl⟩:=qja hy;rcases qjq i j with h'|h'|h'
 .grind[qjs]
 .grind
 .grind[qjs]
theorem xlr{p:Plc}{f:Foot}{t:Nat}{n:Int}{l:List Mail}(h:qr4 p f t n l=true):∀m∈l9 p f,∃x∈l,x.txn=(t:Int)/\x.frm=m/\x.to=n:=λm hm=>by
 unfold qr4 at h;rw[cw]at h;obtain⟨x,hx,h2⟩:=gc.1 (dr.1 h.2 m hm);simp only[cw,decide_eq_true_eq]at h2;exact⟨x,hx,h2.1.1,h2.1.2,h2.2⟩
theorem xtt{nds:List Nd}{t:Nat}{m x:Mail}(hm:MlOk fmt procs p txns s nds m)(hx:MlOk fmt procs p txns s nds x)(h1:m.txn=(t:Int))(h2:x.txn=(t:Int))(h3:m.to=x.to)(h4:m.frm=x.frm):m=x:=by
 obtain⟨⟨t1,a1,a2,a3,a4,a5,a6,a7,_⟩,ast,arg,aow⟩:=hm;obtain⟨⟨t2,b1,b2,b3,b4,b5,b6,b7,_⟩,bst,brg,bow⟩:=hx;obtain rfl:t1=t:=aa;obtain rfl:t2=t1:=aa;have hp:m.prs=x.prs:=by grind[xau,xga]
 obtain⟨mt,mf,mo,mk,mp⟩:=m;obtain⟨xt,xf,xo,xk,xp⟩:=x;simp only at *;subst h1 h3 h4 hp;rw[a5,b5,h2]
theorem xj3(hp:jy p=true)(hB:BatchIn fmt procs txns)(hs:l6 s)(h0:jl s=true){σ:Sy}(Y:SyOk fmt procs p txns s σ){nd:Nd}(mw:nd∈σ.nds){t:Nat}(ht:t<txns.length)(hc:qr4 p (jn txns t) t nd.node nd.inbox=true) :
  jl (u3 t nd.node nd.inbox).1=true/\l6 (u3 t nd.node nd.inbox).1/\(ru fmt procs (u3 t nd.node nd.inbox).1 txns[t]).2=yu fmt procs s txns t txns[t]:=by
 have hM:=Y.mi nd mw;obtain⟨c1,c2,c3⟩:=jap (own:=ly p) (t:=t) (n:=nd.node) (l:=nd.inbox) (λm hm x hx h1 h2 h3 h4 h5=>xtt (hM m hm) (hM x hx) h1 h2 (h3.trans h4.symm) h5) (λm hm _ _=>⟨(hM m hm).st,(hM m hm).rg,(hM m hm).ow⟩);refine⟨c1,c2,jgx (xd4 hB hs h0 t) c1 λk hk=>?_⟩;obtain⟨f1,f2⟩:=xxk (fmt:=fmt) (procs:=procs) (s:=s) ht hk;have hr:rdF (jn txns t) k:=by
  rw[qt5 ht];unfold oe;rw[if_pos f1];exact f2.imp id wm.1
 obtain⟨m,hm,g1,g2,g3⟩:=xlr hc _ (jeq (zg hp t) hr);obtain⟨t1,a1,a2,a3,a4,a5,a6,a7,_⟩:=(hM m hm).ex;obtain rfl:t1=t:=aa;rw[(c3 k).1 m hm g1 g3 g2.symm,a7 k g2.symm hr]
def qj(fmt:Int->ig)(procs:List Proc)(p:Plc)(nd:Nd)(t:Nat)(e:Eff):Nd:=⟨nd.node,if e.status=1/\jl nd.prs=true/\r9 (pq p e.writes nd.node)=true then rx nd.prs (pq p e.writes nd.node)else nd.prs,relS nd.tab t,nd.inbox,nd.sent,nd.exd.set t true⟩
theorem qx4{nd:Nd}{t:Nat}:qmx p txns nd t=true↔nd.node∈ma p (jn txns t)/\nd.exd.getD t false=false/\qr4 p (jn txns t) t nd.node nd.inbox=true:=by
 unfold qmx;rw[cw,cw,qdp,gv,and_assoc]
theorem jk8{a b:List Pr}{n:Int}(ha:jl a=true)(hb:r9 b=true)(h1:∀q∈a,ly p q.key=n)(h2:∀q∈b,ly p q.key=n):∀q∈rx a b,ly p q.key=n:=λq hq=>by
 obtain⟨a1,a2,a3⟩:=(tn a).1 ha;obtain⟨b1,b2,b3⟩:=(qbp b).1 hb;have kp:=xan ha hb;have hg:=xb1 ((tn _).1 kp).2.2 hq;rw[xar a3 b3 b1]at hg;have it:q.v≠V.nil:=λe=>by
  have:=(((tn _).1 kp).1 q hq).2;rw[e]at this;exact this rfl
 split at hg
 .rename_i hh;obtain⟨x,hx,e⟩:=cy.1 (qdj.1 hh);rw[<-e];exact h2 x hx
 .grind[xa1]
theorem xak{l:List Pr}(n:Int)(h:r9 l=true):r9 (pq p l n)=true:=xxl h λk=>decide (ly p k=n)
theorem xiz{l:List Pr}{n:Int}{k:ig}(hk:ly p k=n):jw (pq p l n) k=jw l k:=by
 have:=xk1 (q:=λk=>decide (ly p k=n)) (k:=k) (l:=l);rw[if_pos af]at this;exact this
theorem ji8{l:List Pr}{n:Int}{k:ig}(hk:ly p k=n):nf (pq p l n) k=nf l k:=by
 have:=xz6 (q:=λk=>decide (ly p k=n)) (k:=k) (l:=l);rw[show decide (ly p k=n)=true by simpa using hk,dh]at this;exact this
theorem jhi{nd:Nd}{t u:Nat}{e:Eff}(ht:t<nd.exd.length)(hx:nd.node∈ma p (jn txns t)):uc p txns (qj fmt procs p nd t e) u=true↔(uc p txns nd u=true\/u=t):=by
 unfold uc qj;simp only;by_cases h:p6 (ma p (jn txns u)) nd.node=true
 .grind
 .rw[if_neg h,if_neg h];refine⟨.inl,λg=>g.elim id ?_⟩;rintro rfl;exact(h (qdp.2 hx)).elim
theorem jff(hp:jy p=true)(hB:BatchIn fmt procs txns)(hs:l6 s)(h0:jl s=true){nd:Nd}(N:NdOk fmt procs p txns s nd){t:Nat}(ht:t<txns.length)(hc:qmx p txns nd t=true)(hse:nd.node∈l9 p (jn txns t)->nd.sent.getD t false=true){e:Eff}(he:e=yu fmt procs s txns t txns[t]) :
  NdOk fmt procs p txns s (qj fmt procs p nd t e):=by
 obtain⟨hx,hxd,_⟩:=qx4.1 hc;have hte:t<nd.exd.length:=qgn;have hr:=λu=>jhi (fmt:=fmt) (procs:=procs) (p:=p) (txns:=txns) (nd:=nd) (t:=t) (u:=u) (e:=e) hte hx;have hO:=xqv hB hs ht;have hso:=xd4 hB hs h0 (fmt:=fmt) t;have hcom:e.status=1->r9 e.writes=true:=λh=>by
  rw[he]at h|-;exact(hO.com h).2
 have tc:∀u,(qj fmt procs p nd t e).exd.getD u false=true↔(nd.exd.getD u false=true\/(u=t/\t<nd.exd.length)):=λu=>qxy;have hrt:uc p txns nd t=false:=by unfold uc;rw[if_pos (qdp.2 hx)];exact hxd
 -- the pairs
 obtain⟨P,hP⟩:∃P,P=(qj fmt procs p nd t e).prs:=⟨_,rfl⟩
 have hP':P=if e.status=1 then rx nd.prs (pq p e.writes nd.node)else nd.prs:=by
  rw[hP];show(if e.status=1/\jl nd.prs=true/\r9 (pq p e.writes nd.node)=true then _ else _)=_;by_cases h1:e.status=1
  .rw[if_pos h1,if_pos ⟨h1,N.st,xak _ (hcom h1)⟩]
  .grind
 have kn:jl P=true:=by
  rw[hP'];split
  .rename_i h1;exact xan N.st (xak _ (hcom h1))
  .exact N.st
 have hrg:l6 P:=by
  rw[hP'];split
  .rename_i h1;refine xcr N.rg (λq hq=>?_) N.st (xak _ (hcom h1));have:=hO.wrng;rw[show(ru fmt procs (ym fmt procs s txns t) txns[t]).2=e from he.symm]at this;exact this q (e9.1 hq).1
  .exact N.rg
 have how:∀q∈P,ly p q.key=nd.node:=by
  rw[hP'];split
  .rename_i h1;exact jk8 N.st (xak _ (hcom h1)) N.ow λq hq=>by simpa using(e9.1 hq).2
  .exact N.ow
 have px:∀k,ly p k=nd.node->jw P k=if yw e k=true then jw e.writes k else jw nd.prs k:=λk hk=>by
  rw[hP'];unfold yw;by_cases h1:e.status=1
  .rw[if_pos h1];obtain⟨a1,a2,a3⟩:=(tn _).1 N.st;obtain⟨b1,b2,b3⟩:=(qbp _).1 (xak (p:=p) nd.node (hcom h1));rw[xar a3 b3 b1,ji8 hk,xiz hk];simp[h1]
  .grind
 refine { ls:=N.ls,le:=by simp[qj,N.le],st:=hP▸kn,rg:=hP▸hrg,ow:=hP▸how,tb:=?_,ord:=λu hu t' il hpt' hcf=>(hr t').2 (.inl (N.ord u hu t' il hpt' hcf)),sp:=N.sp,xp:=λu hu=>?_,xs:=λu hu hpu=>?_,get:=λk hk j hj hw=>?_,inb:=N.inb }
 .show TabOk (vy p txns nd.node) (xc p txns (qj fmt procs p nd t e)) (relS nd.tab t);have:xc p txns (qj fmt procs p nd t e)=(xc p txns nd).filter λi=>!decide (i=t):=by
   unfold xc;rw[qki];refine qju λu _=>?_;by_cases e1:u=t
   .grind
   .have:uc p txns (qj fmt procs p nd t e) u=uc p txns nd u:=xfs ((hr u).trans ⟨λh=>h.elim id λh=>(e1 h).elim,.inl⟩);rw[this];simp[e1,qj]
  rw[this];exact N.relS hp t
 .rcases(tc u).1 hu with h|⟨rfl,_⟩
  .exact N.xp u h
  .exact⟨ht,hx⟩
 .rcases(tc u).1 hu with h|⟨rfl,_⟩
  .exact N.xs u h hpu
  .exact hse hpu
 .have hk:ly p k=nd.node:=hk;rw[<-hP,px k hk];by_cases wy:yw e k=true
  .rw[if_pos wy];have hwr':yw (yu fmt procs s txns t txns[t]) k=true:=he▸wy;have hwt:=xes hB hs ht hwr';have hpt:nd.node∈l9 p (jn txns t):=hk▸xjh (zg hp t) hwt;have htj:t<j:=(hw t ht hwr').1 ((tc t).2 (.inr ⟨rfl,hte⟩));have h1:jw (ym fmt procs s txns (t+1)) k=jw e.writes k:=by
    rw[xtu ht,hO.upd,xp5 hso (λh=>(hO.com h).2)];rw[show(ru fmt procs (ym fmt procs s txns t) txns[t]).2=e from he.symm,if_pos wy]
   rw[<-h1];refine(xg1 hB hs h0 k (t+1) j aa hj λn hn h2 h3=>?_).symm;rcases hz:yw (yu fmt procs s txns n txns[n]) k with _|_
   .rfl
   .exfalso;have hwn:=xes hB hs hn hz;have hpn:nd.node∈l9 p (jn txns n):=hk▸xjh (zg hp n) hwn;rcases(tc n).1 ((hw n hn hz).2 h3)with h4|⟨h4,_⟩
    .have:=N.ord n (N.xs n h4 hpn) t aa hpt (by rw[<-hk];exact xkn (zg hp t) (zg hp n) hwt (.inr hwn));rw[hrt]at this;cases this
    .omega
  .rw[if_neg wy];refine N.get k hk j hj λu hu hwu=>?_;rw[<-hw u hu hwu,tc];refine⟨.inl,λh=>h.elim id ?_⟩;rintro⟨rfl,_⟩;exact(wy (he▸hwu)).elim
theorem je0(hp:jy p=true)(hB:BatchIn fmt procs txns)(hs:l6 s)(h0:jl s=true){σ:Sy}(Y:SyOk fmt procs p txns s σ){i t:Nat}(hi:i<σ.nds.length)(ht:t<txns.length)(hc:qmx p txns σ.nds[i] t=true):SyOk fmt procs p txns s (p7 fmt procs p txns σ (.exe i t)):=by
 obtain⟨e,hE⟩:∃e,e=(ru fmt procs (u3 t σ.nds[i].node σ.nds[i].inbox).1 txns[t]).2:=⟨_,rfl⟩
 have hd:p7 fmt procs p txns σ (.exe i t)=⟨σ.nds.set i (qj fmt procs p σ.nds[i] t e),σ.tr,if (ma p (jn txns t)).head?=some σ.nds[i].node then σ.efs.set t e else σ.efs⟩:=by
  simp only[p7,cu hi,cu ht,hE];rfl
 rw[hd];have mw:=dk hi;have N:=Y.nd _ mw;obtain⟨hx,hxd,lw⟩:=qx4.1 hc;have he:e=yu fmt procs s txns t txns[t]:=hE.trans (xj3 hp hB hs h0 Y mw ht lw).2.2;have hte:t<σ.nds[i].exd.length:=qgn
 -- all that take part have sent
 have iz:∀y∈σ.nds,y.node∈l9 p (jn txns t)->y.sent.getD t false=true:=λy hy hpy=>by
  obtain⟨m,hm,g1,g2,g3⟩:=xlr lw _ hpy;obtain⟨t1,a1,a2,_,_,_,_,_,z,hz,a3,a4⟩:=(Y.mi _ mw m hm).ex;obtain rfl:t1=t:=aa;rw[jas Y hy hz (by rw[a3,g2])];exact a4
 have hN:=jff hp hB hs h0 N ht hc (iz _ mw) he;have tc:∀u,(qj fmt procs p σ.nds[i] t e).exd.getD u false=true↔(σ.nds[i].exd.getD u false=true\/(u=t/\t<σ.nds[i].exd.length)):=λu=>qxy;have tz:∀x∈σ.nds.set i (qj fmt procs p σ.nds[i] t e),x∈σ.nds\/x=qj fmt procs p σ.nds[i] t e:=λx hx=>qkj hx;have qt6:∀y∈σ.nds,∃z∈σ.nds.set i (qj fmt procs p σ.nds[i] t e),z.node=y.node/\∀t,y.sent.getD t false=true->z.sent.getD t false=true:=λy hy=>by
  rcases xlp (b:=qj fmt procs p σ.nds[i] t e) hi hy with h|rfl
  .grind
  .exact⟨_,xbr hi,rfl,λu hu=>hu⟩
 have qpr:∀x∈σ.nds.set i (qj fmt procs p σ.nds[i] t e),∃y∈σ.nds,x.node=y.node/\x.inbox=y.inbox/\x.sent=y.sent/\∀u,x.exd.getD u false=true->(y.exd.getD u false=true\/u=t):=λx hx=>by
  rcases tz x hx with h|rfl
  .grind
  .exact⟨_,mw,rfl,rfl,rfl,λu hu=>((tc u).1 hu).imp id And.left⟩
 refine { nodes:=?_,nd:=λx hx=>?_,el:=?_,sx:=λx hx u hu y hy hpy=>?_,mt:=λm hm=>(Y.mt m hm).mono qt6,mi:=λx hx m hm=>?_,has:=λy hy u hu x hx tc=>?_,ef:=λx hx u h hu he'=>?_ }
 .exact(xph (f:=λx:Nd=>x.node) (b:=qj fmt procs p σ.nds[i] t e) hi rfl).trans Y.nodes
 .rcases tz x hx with h|rfl
  .exact Y.nd x h
  .exact hN
 .show(if _ then σ.efs.set t e else σ.efs).length=_;split
  .rw[gz];exact Y.el
  .exact Y.el
 .obtain⟨x0,o6,e1,_,_,e4⟩:=qpr x hx;obtain⟨y0,hy0,f1,_,f3,_⟩:=qpr y hy;rw[f3];rw[f1]at hpy;rcases e4 u hu with h|rfl
  .exact Y.sx x0 o6 u h y0 hy0 hpy
  .grind
 .obtain⟨x0,o6,e1,e2,_,_⟩:=qpr x hx;exact(Y.mi x0 o6 m af).mono qt6
 .obtain⟨x0,o6,e1,e2,_,_⟩:=qpr x hx;obtain⟨y0,hy0,f1,_,f3,_⟩:=qpr y hy;rw[e1]at tc|-;rw[e2,f1];exact Y.has y0 hy0 u af x0 o6 tc
 .obtain⟨x0,o6,e1,_,_,e4⟩:=qpr x hx;rw[e1]at he';show(if (ma p (jn txns t)).head?=some σ.nds[i].node then σ.efs.set t e else σ.efs)[u]?=_;have uv:x0.exd.getD u false=true->σ.efs[u]?=some (yu fmt procs s txns u txns[u]):=λh'=>Y.ef x0 o6 u h h' he';by_cases eu:u=t
  .subst eu;split
   .rw[du (by rw[Y.el];exact h),he]
   .rename_i hh;rcases tz x hx with h1|rfl
    .exact Y.ef x h1 u h hu (e1▸he')
    .exact(hh (e1▸he')).elim
  .grind
end
end Go.Cw
