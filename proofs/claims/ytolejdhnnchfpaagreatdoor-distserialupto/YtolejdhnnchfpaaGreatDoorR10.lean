/- Part 10 of a proof. -/
import Derived.Laws.Strings
import Derived.Test.YtolejdhnnchfpaaGreatDoorR06
import Derived.Test.YtolejdhnnchfpaaGreatDoorR09
set_option linter.all false
set_option maxRecDepth 100000
set_option maxHeartbeats 4000000
namespace Go.Cw
open Go Go.Abs
structure Nd where
 node:Int
 prs:List Pr
 tab:LT
 inbox:List Mail
 sent:List Bool
 exd:List Bool
structure Sy where
 nds:List Nd
 tr:List Mail
 efs:List Eff
inductive Act where
 |send (i t:Nat)
 |dlv (i:Nat)
 |exe (i t:Nat)
def GB:Foot:=⟨false,[],[]⟩
def uw(t:Txn):Foot:=if lU t.ft=true then t.ft else GB
def pc(A:List Txn)(t:Nat):Foot:=match A[t]? with|some x=>uw x|none=>GB
def wn(l:List Int)(n:Int):Bool:=l.any λx=>decide (x=n)
theorem tG{l:List Int}{n:Int}:wn l n=true↔n∈l:=by simp[wn]
def pU(p:Plc)(prs:List Pr)(f:Foot):List Pr:=if (v6 p f&&ph prs)=true then prs.filter λx=>f.all||qa f.reads x.key else []
def fU(p:Plc)(n:Int)(prs:List Pr)(t:Nat)(f:Foot):List Mail :=
 if (v6 p f&&ph prs&&wn (sh p f) n)=true then(sj p f).map λto=>⟨(t:Int),n,to,lI p f.reads n,pU p prs f⟩else []
def tU(p:Plc)(f:Foot)(t:Nat)(n:Int)(l:List Mail):Bool:=v6 p f&&(sh p f).all λm=>l.any λx=>decide (x.txn=(t:Int))&&decide (x.frm=m)&&decide (x.to=n)
def wc(p:Plc)(l:List Pr)(n:Int):List Pr:=l.filter λx=>decide (sg p x.key=n)
def BG(T:LT)(t:Nat):Bool:=kV T&&decide (0<=ul (λx:LReq=>decide (x.t=(t:Int))) T.glob)&&(mZ T t).isEmpty
def relS(T:LT)(t:Nat):LT:=if (kV T&&decide (0<=ul (λx:LReq=>decide (x.t=(t:Int))) T.glob))=true then uM t T else T
section
variable (fmt:Int->na) (nb:List Proc) (p:Plc) (A:List Txn)
def lV(nd:Nd)(t:Nat):Bool:=wn (sh p (pc A t)) nd.node&&!nd.sent.getD t false&&BG nd.tab t
def mA(nd:Nd)(t:Nat):Bool:=wn (sj p (pc A t)) nd.node&&!nd.exd.getD t false&&tU p (pc A t) t nd.node nd.inbox
def we(σ:Sy):Act->Sy
 | .send i t=>match σ.nds[i]? with
  |none=>σ
  |some nd=>⟨σ.nds.set i ⟨nd.node,nd.prs,if wn (sj p (pc A t)) nd.node=true then nd.tab else relS nd.tab t,nd.inbox,nd.sent.set t true,nd.exd⟩,σ.tr++fU p nd.node nd.prs t (pc A t),σ.efs⟩
 | .dlv i=>match σ.tr[i]? with
  |none=>σ
  |some m=>⟨σ.nds.map λnd=>if nd.node=m.to then⟨nd.node,nd.prs,nd.tab,nd.inbox++[m],nd.sent,nd.exd⟩else nd,σ.tr.eraseIdx i,σ.efs⟩
 | .exe i t=>match σ.nds[i]?,A[t]? with
  |some nd,some x =>
   let e:=(vx fmt nb (cN t nd.node nd.inbox).1 x).2
   ⟨σ.nds.set i ⟨nd.node,if e.status=1/\ph nd.prs=true/\y9 (wc p e.writes nd.node)=true then y7 nd.prs (wc p e.writes nd.node)else nd.prs,relS nd.tab t,nd.inbox,nd.sent,nd.exd.set t true⟩,σ.tr,if (sj p (pc A t)).head?=some nd.node then σ.efs.set t e else σ.efs⟩
  |_,_=>σ
def aP(nd:Nd)(t:Nat):Bool:=if wn (sj p (pc A t)) nd.node=true then nd.exd.getD t false else nd.sent.getD t false
def eN(nd:Nd):List Nat:=(List.range A.length).filter λt=>wn (sh p (pc A t)) nd.node&&!aP p A nd t
abbrev dN(n:Int)(t:Nat):Foot:=tK p (pc A t) n
structure NdOk(s:List Pr)(nd:Nd):Prop where
 ls:nd.sent.length=A.length
 le:nd.exd.length=A.length
 st:ph nd.prs=true
 rg:q8 nd.prs
 ow:∀q∈nd.prs,sg p q.key=nd.node
 tb:TabOk (dN p A nd.node) (eN p A nd) nd.tab
 ord:∀u,nd.sent.getD u false=true->∀t,t<u->nd.node∈sh p (pc A t)->mB (dN p A nd.node t) (dN p A nd.node u)=true->aP p A nd t=true
 sp:∀t,nd.sent.getD t false=true->t<A.length/\nd.node∈sh p (pc A t)
 xp:∀t,nd.exd.getD t false=true->t<A.length/\nd.node∈sj p (pc A t)
 xs:∀t,nd.exd.getD t false=true->nd.node∈sh p (pc A t)->nd.sent.getD t false=true
 get:∀k,sg p k=nd.node->∀j,j<=A.length->(∀t (h:t<A.length),gD (fO fmt nb s A t A[t]) k=true->(nd.exd.getD t false=true↔t<j))->pp nd.prs k=pp (fY fmt nb s A j) k
 inb:∀m∈nd.inbox,m.to=nd.node
structure MlOk(s:List Pr)(nds:List Nd)(m:Mail):Prop where
 ex:∃t,t<A.length/\m.txn=(t:Int)/\m.frm∈sh p (pc A t)/\m.to∈sj p (pc A t)/\m.keys=lI p (pc A t).reads m.frm/\(∀q∈m.prs,A2 (pc A t) q.key)/\(∀k,sg p k=m.frm->A2 (pc A t) k->pp m.prs k=pp (fY fmt nb s A t) k)/\∃y∈nds,y.node=m.frm/\y.sent.getD t false=true
 st:ph m.prs=true
 rg:q8 m.prs
 ow:∀q∈m.prs,sg p q.key=m.frm
structure SyOk(s:List Pr)(σ:Sy):Prop where
 nodes:σ.nds.map (·.node)=uk p
 nd:∀x∈σ.nds,NdOk fmt nb p A s x
 el:σ.efs.length=A.length
 sx:∀x∈σ.nds,∀t,x.exd.getD t false=true->∀y∈σ.nds,y.node∈sh p (pc A t)->y.sent.getD t false=true
 mt:∀m∈σ.tr,MlOk fmt nb p A s σ.nds m
 mi:∀x∈σ.nds,∀m∈x.inbox,MlOk fmt nb p A s σ.nds m
 has:∀y∈σ.nds,∀t,y.sent.getD t false=true->∀x∈σ.nds,x.node∈sj p (pc A t)->∃m,(m∈σ.tr\/m∈x.inbox)/\m.txn=(t:Int)/\m.frm=y.node/\m.to=x.node
 ef:∀x∈σ.nds,∀t (h:t<A.length),x.exd.getD t false=true->(sj p (pc A t)).head?=some x.node->σ.efs[t]?=some (fO fmt nb s A t A[t])
end
section
variable {fmt:Int->na} {nb:List Proc} {p:Plc} {A:List Txn} {s:List Pr}
section
variable{t i:Nat}{k:na}{nd:Nd}{l:List Pr}{α:Type}
theorem XF(t:Txn):lU (uw t)=true:=by
 unfold uw;split
 .assumption
 rfl
theorem qnx(A:List Txn)(t:Nat):lU (pc A t)=true:=by
 unfold pc;split
 .exact XF _
 rfl
theorem iD(hp:qw p=true)(t:Nat):v6 p (pc A t)=true:=by simp[v6,hp,qnx]
theorem yV(h:t<A.length):pc A t=uw A[t]:=by grind[ii,pc]
theorem FG(hB:BatchIn fmt nb A)(hs:q8 s)(h:t<A.length)(hw:gD (fO fmt nb s A t A[t]) k=true):Bt (pc A t) k:=by obtain⟨O,U⟩:=Vo hB hs h hw;rw[yV h];unfold uw;rw[gh O];exact U.imp id aD.1
theorem B1{l:List Bool}{j:Nat}:(l.set i true).getD j false=true↔(l.getD j false=true\/(j=i/\i<l.length)):=W
theorem Jx(nd:Nd):(eN p A nd).Pairwise (· < ·):=List.pairwise_lt_range.filter _
theorem AI:t∈eN p A nd↔t<A.length/\nd.node∈sh p (pc A t)/\aP p A nd t=false:=by unfold eN;rw[kl,qil,gy,tG,mh]
theorem Bx(hp:qw p=true)(n:Int)(t:Nat):lU (dN p A n t)=true:=Lq (iD hp t) n
theorem NdOk.valid(hp:qw p=true)(N:NdOk fmt nb p A s nd):kV nd.tab=true:=Iq N.tb (Jx nd) λi _=>Bx hp _ i
theorem NdOk.granted(hp:qw p=true)(N:NdOk fmt nb p A s nd):BG nd.tab t=true↔t∈eN p A nd/\∀j∈eN p A nd,j<t->mB (dN p A nd.node j) (dN p A nd.node t)=false:=by
 have hx:=Io N.tb t;unfold BG;rw[N.valid hp,jb,gy,jm,List.isEmpty_iff];constructor
 .rintro⟨O,U⟩;have hm:t∈eN p A nd:=Classical.byContradiction λhn=>by have:=hx.1 hn;omega
  exact⟨hm,(NT N.tb (Jx nd) (λi _=>Bx hp _ i) hm).1 U⟩
 rintro⟨O,U⟩;exact⟨hx.2 O,(NT N.tb (Jx nd) (λi _=>Bx hp _ i) O).2 U⟩
theorem NdOk.relS(hp:qw p=true)(N:NdOk fmt nb p A s nd)(t:Nat):TabOk (dN p A nd.node) ((eN p A nd).filter λi=>!decide (i=t)) (relS nd.tab t):=by
 have hx:=Io N.tb t;unfold Cw.relS;rw[N.valid hp,jb];split
 .exact Uc N.tb t
 rename_i h;simp only[jm]at h;have hm:t∉eN p A nd:=λhm=>h (hx.2 hm);rw[List.filter_eq_self.2]
 .exact N.tb
 grind
theorem NdOk.reads(hp:qw p=true)(hB:BatchIn fmt nb A)(hs:q8 s)(N:NdOk fmt nb p A s nd)(ht:t<A.length)(gK:∀u,u<t->nd.node∈sh p (pc A u)->mB (dN p A nd.node u) (dN p A nd.node t)=true->aP p A nd u=true)(qz:aP p A nd t=false)(sR:nd.node∈sh p (pc A t))(hk:sg p k=nd.node)(G:A2 (pc A t) k\/Bt (pc A t) k)
  (nv:∀h:t<A.length,nd.exd.getD t false=true->gD (fO fmt nb s A t A[t]) k=true->False):pp nd.prs k=pp (fY fmt nb s A t) k:=by
 refine N.get k hk t J λu Q hw=>?_;have hwu:=FG hB hs Q hw;have hux:nd.node∈sj p (pc A u):=hk▸Ph (iD hp u) hwu;have hup:nd.node∈sh p (pc A u):=hk▸K1 (iD hp u) hwu;have pq:aP p A nd u=nd.exd.getD u false:=by unfold aP;rw[gh (tG.2 hux)]
 constructor
 .intro hx;rcases qjs u t with h|h|h
  .exact h
  .grind
  have hsu:nd.sent.getD u false=true->False:=λhsu=>by
   have:=N.ord u hsu t h sR (by rw[qrk,<-hk];exact Ip (iD hp u) (iD hp t) hwu G)
   grind
  exact(hsu (N.xs u hx hup)).elim
 intro h;rw[<-pq];exact gK u h hup (by rw[<-hk];exact Ip (iD hp u) (iD hp t) hwu G)
def wg(p:Plc)(A:List Txn)(nd:Nd)(t:Nat):Nd:=⟨nd.node,nd.prs,if wn (sj p (pc A t)) nd.node=true then nd.tab else relS nd.tab t,nd.inbox,nd.sent.set t true,nd.exd⟩
theorem CS:lV p A nd t=true↔nd.node∈sh p (pc A t)/\nd.sent.getD t false=false/\BG nd.tab t=true:=by unfold lV;rw[gy,gy,tG,mh,and_assoc]
theorem Ga{a b:Bool}(h:a=true↔b=true):a=b:=Bool.eq_iff_iff.2 h
theorem qsh{u:Nat}(ht:t<nd.sent.length):aP p A (wg p A nd t) u=true↔(aP p A nd u=true\/(u=t/\nd.node∉sj p (pc A t))):=by
 unfold aP wg;simp only;by_cases hx:wn (sj p (pc A u)) nd.node=true
 .rw[gh hx,gh hx];refine⟨.inl,λh=>h.elim id ?_⟩;rintro⟨rfl,h⟩;exact(h (tG.1 hx)).elim
 rw[gg hx,gg hx,B1];constructor
 .rintro(h|⟨rfl,_⟩)
  .grind
  exact .inr ⟨rfl,λh=>hx (tG.2 h)⟩
 grind
theorem Tc(hp:qw p=true)(N:NdOk fmt nb p A s nd)(hc:lV p A nd t=true):NdOk fmt nb p A s (wg p A nd t):=by
 obtain⟨sR,r7,hg⟩:=CS.1 hc;obtain⟨hm,hg⟩:=(N.granted hp).1 hg;obtain⟨ht,_,pq⟩:=AI.1 hm;have G:=λu=>qsh (p:=p) (A:=A) (nd:=nd) (t:=t) (u:=u) fc;have hsd:∀u,(wg p A nd t).sent.getD u false=true↔(nd.sent.getD u false=true\/(u=t/\t<nd.sent.length)):=λu=>B1;refine { ls:=by simp[wg,N.ls],le:=N.le,st:=N.st,rg:=N.rg,ow:=N.ow,tb:=?_,ord:=λu Q t' ni hpt' jE=>?_,sp:=λu Q=>?_,xp:=N.xp,xs:=λu Q hpu=>(hsd u).2 (.inl (N.xs u Q hpu)),get:=N.get,inb:=N.inb }
 .show TabOk (dN p A nd.node) (eN p A (wg p A nd t)) (if wn (sj p (pc A t)) nd.node=true then nd.tab else relS nd.tab t);by_cases hx:wn (sj p (pc A t)) nd.node=true
  .rw[gh hx];have:eN p A (wg p A nd t)=eN p A nd:=by
    unfold eN;refine qjw λu _=>?_;have:aP p A (wg p A nd t) u=aP p A nd u:=Ga ((G u).trans ⟨λh=>h.elim id λh=>(h.2 (tG.1 hx)).elim,.inl⟩);rw[this];rfl
   rw[this];exact N.tb
  rw[gg hx];have:eN p A (wg p A nd t)=(eN p A nd).filter λi=>!decide (i=t):=by
   unfold eN;rw[qkb];refine qjw λu _=>?_;by_cases e:u=t
   .subst e;have:aP p A (wg p A nd u) u=true:=(G u).2 (.inr ⟨rfl,λh=>hx (tG.2 h)⟩);simp[this]
   simp_all[wg,Ga]
  rw[this];exact N.relS hp t
 .rw[G];rcases(hsd u).1 Q with h|⟨rfl,_⟩
  .exact .inl (N.ord u h t' ni hpt' jE)
  refine .inl ?_;rcases hz:aP p A nd t' with _|_
  .have jE:mB (dN p A nd.node t') (dN p A nd.node u)=true:=jE;rw[hg t' (AI.2 ⟨J,hpt',hz⟩) ni]at jE;cases jE
  rfl
 rcases(hsd u).1 Q with h|⟨rfl,_⟩
 .exact N.sp u h
 exact⟨ht,sR⟩
theorem qwe{q:na->Bool}(h:qg (ur l)):qg (ur (l.filter λx=>q x.key)):=List.Pairwise.sublist (List.filter_sublist.map _) h
theorem qll(h:y9 l=true)(q:na->Bool):y9 (l.filter λx=>q x.key)=true:=by grind[oN]
theorem Kx(h:ph l=true)(q:na->Bool):ph (l.filter λx=>q x.key)=true:=by grind[zz]
theorem J8{q:na->Bool}{k:na}:∀{l:List Pr},pp (l.filter λx=>q x.key) k=if q k=true then pp l k else AV.nil
 | []=>by simp[pp]
 |x::l=>by have ih:=J8 (q:=q) (k:=k) (l:=l);grind[pp]
theorem qpa{q:na->Bool}:tf (l.filter λx=>q x.key) k=(q k&&tf l k):=by refine Ga ?_;rw[gy,rH,rH];grind
theorem MlOk.mono{a b:List Nd}{m:Mail}(h:MlOk fmt nb p A s a m)(sW:∀y∈a,∃hI∈b,hI.node=y.node/\∀t,y.sent.getD t false=true->hI.sent.getD t false=true):MlOk fmt nb p A s b m:=by obtain⟨⟨t,O,U,h3,h4,h5,h6,h7,y,hy,h8,h9⟩,st,rg,ow⟩:=h;obtain⟨hI,hz,g1,g2⟩:=sW y hy;exact⟨⟨t,O,U,h3,h4,h5,h6,h7,hI,hz,g1.trans h8,g2 t h9⟩,st,rg,ow⟩
theorem NO{l:List α}{b x:α}(hi:i<l.length)(hx:x∈l):x∈l.set i b\/x=l[i]:=by
 obtain⟨j,hj,rfl⟩:=qja hx;by_cases e:j=i
 .grind
 refine .inl (gw (i:=j) ?_);grind
theorem Ef{l:List α}{b:α}(hi:i<l.length):b∈l.set i b:=gw (i:=i) W
theorem M2{β:Type}{l:List α}{b:α}{f:α->β}(hi:i<l.length)(h:f b=f l[i]):(l.set i b).map f=l.map f:=by rw[qiq,h];refine List.ext_getElem Z λj O U=>?_;rw[List.getElem_set];grind
theorem TO(hp:qw p=true)(hB:BatchIn fmt nb A)(hs:q8 s)(L:ph s=true){nds:List Nd}(N:NdOk fmt nb p A s nd)(hc:lV p A nd t=true)(hn:wg p A nd t∈nds):∀m∈fU p nd.node nd.prs t (pc A t),MlOk fmt nb p A s nds m:=λm hm=>by
 obtain⟨sR,r7,hg⟩:=CS.1 hc;obtain⟨uz,hg⟩:=(N.granted hp).1 hg;obtain⟨ht,_,pq⟩:=AI.1 uz;have hrt:=iD (A:=A) hp t;unfold fU at hm;split at hm
 rotate_left
 .cases hm
 obtain⟨to,hto,rfl⟩:=ig.1 hm;have hloc:pU p nd.prs (pc A t)=nd.prs.filter λx=>(λk=>(pc A t).all||qa (pc A t).reads k) x.key:=by grind[pU]
 have hq:∀k,((pc A t).all||qa (pc A t).reads k)=true↔A2 (pc A t) k:=λk=>by rw[qis,aD];rfl
 have qG:=λk=>N.reads (k:=k) hp hB hs ht (λu Q hpu jE=>by
  rcases hz:aP p A nd u with _|_
  .rw[hg u (AI.2 ⟨J,hpu,hz⟩) Q]at jE;cases jE
  rfl) pq sR
 refine⟨⟨t,ht,rfl,sR,hto,rfl,λq hq'=>?_,λk hk G=>?_,_,hn,rfl,?_⟩,?_,?_,?_⟩
 .grind
 .show pp (pU p nd.prs (pc A t)) k=_;rw[hloc,J8 (q:=λk=>(pc A t).all||qa (pc A t).reads k),gh ((hq k).2 G)];exact qG k hk (.inl G) λh hx _=>by have:=N.xs t hx sR;grind
 .show(nd.sent.set t true).getD t false=true;exact B1.2 (.inr ⟨rfl,fc⟩)
 .show ph (pU p nd.prs (pc A t))=true;rw[hloc];exact Kx N.st λk=>(pc A t).all||qa (pc A t).reads k
 .simp only[hloc];exact λq hq'=>N.rg q (kl.1 hq').1
 simp only[hloc];exact λq hq'=>N.ow q (kl.1 hq').1
theorem qk7(hp:qw p=true)(hB:BatchIn fmt nb A)(hs:q8 s)(L:ph s=true){σ:Sy}(h':SyOk fmt nb p A s σ)(hi:i<σ.nds.length)(hc:lV p A σ.nds[i] t=true):SyOk fmt nb p A s (we fmt nb p A σ (.send i t)):=by
 have hd:we fmt nb p A σ (.send i t)=⟨σ.nds.set i (wg p A σ.nds[i] t),σ.tr++fU p σ.nds[i].node σ.nds[i].prs t (pc A t),σ.efs⟩:=by exact Qdv
 rw[hd];have th:=ij hi;have N:=h'.nd _ th;obtain⟨sR,r7,hg⟩:=CS.1 hc;have ht:t<σ.nds[i].sent.length:=by rw[N.ls];exact(AI.1 ((N.granted hp).1 hg).1).1
 have hsd:∀u,(wg p A σ.nds[i] t).sent.getD u false=true↔(σ.nds[i].sent.getD u false=true\/(u=t/\t<σ.nds[i].sent.length)):=λu=>B1;have cB:∀x∈σ.nds.set i (wg p A σ.nds[i] t),x∈σ.nds\/x=wg p A σ.nds[i] t:=λx hx=>qkc hx;have yX:∀y∈σ.nds,∃hI∈σ.nds.set i (wg p A σ.nds[i] t),hI.node=y.node/\∀t,y.sent.getD t false=true->hI.sent.getD t false=true:=λy hy=>by
  rcases NO (b:=wg p A σ.nds[i] t) hi hy with h|rfl
  .grind
  exact⟨_,Ef hi,rfl,λu Q=>(hsd u).2 (.inl Q)⟩
 have sC:∀x∈σ.nds.set i (wg p A σ.nds[i] t),∃y∈σ.nds,x.node=y.node/\x.inbox=y.inbox/\x.exd=y.exd/\∀u,y.sent.getD u false=true->x.sent.getD u false=true:=λx hx=>by
  rcases cB x hx with h|rfl
  .grind
  exact⟨_,th,rfl,rfl,rfl,λu Q=>(hsd u).2 (.inl Q)⟩
 refine { nodes:=?_,nd:=λx hx=>?_,el:=h'.el,sx:=λx hx u Q y hy hpy=>?_,mt:=λm hm=>?_,mi:=λx hx m hm=>?_,has:=λy hy u Q x hx aJ=>?_,ef:=λx hx u h Q he=>?_ }
 .exact(M2 (f:=λx:Nd=>x.node) (b:=wg p A σ.nds[i] t) hi rfl).trans h'.nodes
 .rcases cB x hx with h|rfl
  .exact h'.nd x h
  grind[Tc]
 .obtain⟨x0,vl,e1,_,e3,_⟩:=sC x hx;obtain⟨y0,qN,f1,_,_,f4⟩:=sC y hy;exact f4 u (h'.sx x0 vl u W y0 qN W)
 .rcases jj.1 hm with h|h
  .exact(h'.mt m h).mono yX
  exact TO hp hB hs L N hc (Ef hi) m h
 .exact Qdw
 .obtain⟨x0,vl,e1,e2,_,_⟩:=sC x hx;rw[e1]at aJ|-;rw[e2];have cG:∀y0∈σ.nds,y.node=y0.node->y0.sent.getD u false=true->∃m,(m∈σ.tr++fU p σ.nds[i].node σ.nds[i].prs t (pc A t)\/m∈x0.inbox)/\m.txn=(u:Int)/\m.frm=y.node/\m.to=x0.node:=λy0 qN f1 hs0=>by
   obtain⟨m,g1,g2⟩:=h'.has y0 qN u hs0 x0 vl aJ;grind
  rcases cB y hy with h|rfl
  .grind
  rcases(hsd u).1 Q with h|⟨rfl,_⟩
  .exact cG _ th rfl h
  refine⟨⟨(u:Int),σ.nds[i].node,x0.node,lI p (pc A u).reads σ.nds[i].node,pU p σ.nds[i].prs (pc A u)⟩,.inl (jj.2 (.inr ?_)),rfl,rfl,rfl⟩;unfold fU;rw[gh (by rw[iD hp,N.st,tG.2 sR];rfl)];grind
 obtain⟨x0,vl,e1,_,e3,_⟩:=sC x hx;exact h'.ef x0 vl u h W (by rw[he,e1])
end
end
section
variable {fmt:Int->na} {nb:List Proc} {p:Plc} {A:List Txn} {s:List Pr}
section
variable{nd:Nd}{l:List Pr}{σ:Sy}{i t:Nat}{e:Eff}
def NdOk.inb'(N:NdOk fmt nb p A s nd){l:List Mail}(h:∀m∈l,m.to=nd.node):NdOk fmt nb p A s ⟨nd.node,nd.prs,nd.tab,l,nd.sent,nd.exd⟩ :=
 { ls:=N.ls,le:=N.le,st:=N.st,rg:=N.rg,ow:=N.ow,tb:=N.tb,ord:=N.ord,sp:=N.sp,xp:=N.xp,xs:=N.xs,get:=N.get,inb:=h }
def y5(m:Mail)(nd:Nd):Nd:=if nd.node=m.to then⟨nd.node,nd.prs,nd.tab,nd.inbox++[m],nd.sent,nd.exd⟩else nd
theorem pH(m:Mail)(nd:Nd):(y5 m nd).node=nd.node/\(y5 m nd).sent=nd.sent/\(y5 m nd).exd=nd.exd/\(∀x∈(y5 m nd).inbox,x∈nd.inbox\/(x=m/\m.to=nd.node))/\(∀x∈nd.inbox,x∈(y5 m nd).inbox)/\(m.to=nd.node->m∈(y5 m nd).inbox):=by grind[y5]
theorem ZJ(h':SyOk fmt nb p A s σ)(hi:i<σ.tr.length):SyOk fmt nb p A s (we fmt nb p A σ (.dlv i)):=by
 have hd:we fmt nb p A σ (.dlv i)=⟨σ.nds.map (y5 σ.tr[i]),σ.tr.eraseIdx i,σ.efs⟩:=by exact Qdv
 rw[hd];obtain⟨m,hm⟩:∃m,m=σ.tr[i]:=⟨_,rfl⟩
 rw[<-hm];have hmi:m∈σ.tr:=hm▸ij hi;have yX:∀y∈σ.nds,∃hI∈σ.nds.map (y5 m),hI.node=y.node/\∀t,y.sent.getD t false=true->hI.sent.getD t false=true:=λy hy=>by grind[pH]
 refine { nodes:=?_,nd:=λx hx=>?_,el:=h'.el,sx:=λx hx u Q y hy hpy=>?_,mt:=λx hx=>(h'.mt x (List.mem_of_mem_eraseIdx hx)).mono yX,mi:=λx hx hI hz=>?_,has:=λy hy u Q x hx aJ=>?_,ef:=λx hx u h Q he=>?_ }
 .show(σ.nds.map (y5 m)).map (·.node)=_
  rw[qio,<-h'.nodes];exact qi7 λx _=>(pH m x).1
 .obtain⟨x0,vl,rfl⟩:=ig.1 hx;have N:=h'.nd x0 vl;unfold y5;split
  .rename_i h;exact N.inb' λhI hz=>by
    rcases jj.1 hz with hz|hz
    .exact N.inb hI hz
    grind
  exact N
 .obtain⟨x0,vl,rfl⟩:=ig.1 hx;obtain⟨y0,qN,rfl⟩:=ig.1 hy;obtain⟨a1,a2,a3,_⟩:=pH m x0;obtain⟨b1,b2,b3,_⟩:=pH m y0;rw[b2];exact h'.sx x0 vl u W y0 qN W
 .obtain⟨x0,vl,rfl⟩:=ig.1 hx;rcases(pH m x0).2.2.2.1 hI hz with h|⟨rfl,_⟩
  .exact(h'.mi x0 vl hI h).mono yX
  exact(h'.mt hI hmi).mono yX
 .obtain⟨x0,vl,rfl⟩:=ig.1 hx;obtain⟨y0,qN,rfl⟩:=ig.1 hy;obtain⟨a1,a2,a3,a4,a5,a6⟩:=pH m x0;obtain⟨b1,b2,b3,_⟩:=pH m y0;rw[b2]at Q;rw[a1]at aJ;obtain⟨hI,hz,g1,g2,g3⟩:=h'.has y0 qN u Q x0 vl aJ;rw[a1,b1];rcases hz with hz|hz
  .by_cases e:hI=m
   .grind
   refine⟨hI,.inl ?_,g1,g2,g3⟩;obtain⟨j,hj,rfl⟩:=qja hz;exact List.mem_eraseIdx_iff_getElem.2 ⟨j,hj,λe'=>e W,rfl⟩
  grind
 obtain⟨x0,vl,rfl⟩:=ig.1 hx;obtain⟨a1,a2,a3,_⟩:=pH m x0;rw[a3]at Q;rw[a1]at he;exact h'.ef x0 vl u h Q he
theorem Th(h':SyOk fmt nb p A s σ){x y:Nd}(hx:x∈σ.nds)(hy:y∈σ.nds)(h:x.node=y.node):x=y:=by
 have hn:(σ.nds.map (·.node)).Nodup:=by rw[h'.nodes];exact M4 p
 grind[qju,qja]
def Pb{p:Plc}{f:Foot}{n:Int}{l:List Mail}(h:tU p f t n l=true):∀m∈sh p f,∃x∈l,x.txn=(t:Int)/\x.frm=m/\x.to=n:=λm hm=>by unfold tU at h;grind
def O3{nds:List Nd}{m x:Mail}(hm:MlOk fmt nb p A s nds m)(hx:MlOk fmt nb p A s nds x)(O:m.txn=(t:Int))(U:x.txn=(t:Int))(h3:m.to=x.to)(h4:m.frm=x.frm):m=x:=by
 obtain⟨⟨t1,a1,a2,a3,a4,a5,a6,a7,_⟩,ast,arg,aow⟩:=hm;obtain⟨⟨t2,b1,b2,b3,b4,b5,b6,b7,_⟩,bst,brg,bow⟩:=hx;obtain rfl:t1=t:=J;obtain rfl:t2=t1:=J;have hp:m.prs=x.prs:=by grind[Dj,KR]
 obtain⟨mt,mf,mo,mk,mp⟩:=m;obtain⟨xt,xf,xo,xk,xp⟩:=x;grind
def Kv(hp:qw p=true)(hB:BatchIn fmt nb A)(hs:q8 s)(L:ph s=true)(h':SyOk fmt nb p A s σ)(th:nd∈σ.nds)(ht:t<A.length)(hc:tU p (pc A t) t nd.node nd.inbox=true) :
  ph (cN t nd.node nd.inbox).1=true/\q8 (cN t nd.node nd.inbox).1/\(vx fmt nb (cN t nd.node nd.inbox).1 A[t]).2=fO fmt nb s A t A[t]:=by
 have hM:=h'.mi nd th;obtain⟨c1,c2,c3⟩:=Xl (own:=sg p) (t:=t) (n:=nd.node) (l:=nd.inbox) (λm hm x hx O U h3 h4 h5=>O3 (hM m hm) (hM x hx) O U (h3.trans h4.symm) h5) (λm hm _ _=>⟨(hM m hm).st,(hM m hm).rg,(hM m hm).ow⟩);refine⟨c1,c2,qkn (FE hB hs L t) c1 λk hk=>?_⟩;obtain⟨f1,f2⟩:=qmr (fmt:=fmt) (nb:=nb) (s:=s) ht hk;have G:A2 (pc A t) k:=by rw[yV ht];unfold uw;rw[gh f1];exact f2.imp id aD.1
 obtain⟨m,hm,g1,g2,g3⟩:=Pb hc _ (qni (iD hp t) G);obtain⟨t1,a1,a2,a3,a4,a5,a6,a7,_⟩:=(hM m hm).ex;grind
def yc(fmt:Int->na)(nb:List Proc)(p:Plc)(nd:Nd)(t:Nat)(e:Eff):Nd:=⟨nd.node,if e.status=1/\ph nd.prs=true/\y9 (wc p e.writes nd.node)=true then y7 nd.prs (wc p e.writes nd.node)else nd.prs,relS nd.tab t,nd.inbox,nd.sent,nd.exd.set t true⟩
def B6:mA p A nd t=true↔nd.node∈sj p (pc A t)/\nd.exd.getD t false=false/\tU p (pc A t) t nd.node nd.inbox=true:=by unfold mA;rw[gy,gy,tG,mh,and_assoc]
def qmh{a b:List Pr}{n:Int}(ha:ph a=true)(hb:y9 b=true)(O:∀q∈a,sg p q.key=n)(U:∀q∈b,sg p q.key=n):∀q∈y7 a b,sg p q.key=n:=λq hq=>by
 obtain⟨a1,a2,a3⟩:=(zz a).1 ha;obtain⟨b1,b2,b3⟩:=(oN b).1 hb;have pg:=EJ ha hb;have hg:=CK ((zz _).1 pg).2.2 hq;rw[Dy a3 b3 b1]at hg;have nv:q.v≠AV.nil:=λe=>by have:=(((zz _).1 pg).1 q hq).2;rw[e]at this;exact this rfl
 grind[D4]
theorem De(n:Int)(h:y9 l=true):y9 (wc p l n)=true:=qll h λk=>decide (sg p k=n)
theorem Li{n:Int}{k:na}(hk:sg p k=n):pp (wc p l n) k=pp l k:=by have:=J8 (q:=λk=>decide (sg p k=n)) (k:=k) (l:=l);rw[gh W]at this;exact this
theorem UC{n:Int}{k:na}(hk:sg p k=n):tf (wc p l n) k=tf l k:=by have:=qpa (q:=λk=>decide (sg p k=n)) (k:=k) (l:=l);rw[show decide (sg p k=n)=true by simpa using hk,jb]at this;exact this
def Xb{u:Nat}(ht:t<nd.exd.length)(hx:nd.node∈sj p (pc A t)):aP p A (yc fmt nb p nd t e) u=true↔(aP p A nd u=true\/u=t):=by
 unfold aP yc;simp only;by_cases h:wn (sj p (pc A u)) nd.node=true
 .grind
 rw[gg h,gg h];refine⟨.inl,λg=>g.elim id ?_⟩;rintro rfl;exact(h (tG.2 hx)).elim
def Xf(hp:qw p=true)(hB:BatchIn fmt nb A)(hs:q8 s)(L:ph s=true)(N:NdOk fmt nb p A s nd)(ht:t<A.length)(hc:mA p A nd t=true)(hse:nd.node∈sh p (pc A t)->nd.sent.getD t false=true)(he:e=fO fmt nb s A t A[t]) :
  NdOk fmt nb p A s (yc fmt nb p nd t e):=by
 obtain⟨hx,hxd,_⟩:=B6.1 hc;have hte:t<nd.exd.length:=fe;have G:=λu=>Xb (fmt:=fmt) (nb:=nb) (p:=p) (A:=A) (nd:=nd) (t:=t) (u:=u) (e:=e) hte hx;have hO:=OB hB hs ht;have hso:=FE hB hs L (fmt:=fmt) t;have hcom:e.status=1->y9 e.writes=true:=λh=>by rw[he]at h|-;exact(hO.com h).2
 have aJ:∀u,(yc fmt nb p nd t e).exd.getD u false=true↔(nd.exd.getD u false=true\/(u=t/\t<nd.exd.length)):=λu=>B1;have hrt:aP p A nd t=false:=by unfold aP;rw[gh (tG.2 hx)];exact hxd
 obtain⟨P,hP⟩:∃P,P=(yc fmt nb p nd t e).prs:=⟨_,rfl⟩
 have hP':P=if e.status=1 then y7 nd.prs (wc p e.writes nd.node)else nd.prs:=by
  rw[hP];show(if e.status=1/\ph nd.prs=true/\y9 (wc p e.writes nd.node)=true then _ else _)=_;by_cases O:e.status=1
  .rw[gh O,gh ⟨O,N.st,De _ (hcom O)⟩]
  grind
 have r7:ph P=true:=by
  rw[hP'];split
  .rename_i O;exact EJ N.st (De _ (hcom O))
  exact N.st
 have hrg:q8 P:=by
  rw[hP'];split
  .rename_i O;refine DV N.rg (λq hq=>?_) N.st (De _ (hcom O));have:=hO.wrng;rw[show(vx fmt nb (fY fmt nb s A t) A[t]).2=e from he.symm]at this;exact this q (kl.1 hq).1
  exact N.rg
 have how:∀q∈P,sg p q.key=nd.node:=by
  rw[hP'];split
  .rename_i O;exact qmh N.st (De _ (hcom O)) N.ow λq hq=>by simpa using(kl.1 hq).2
  exact N.ow
 have wb:∀k,sg p k=nd.node->pp P k=if gD e k=true then pp e.writes k else pp nd.prs k:=λk hk=>by
  rw[hP'];unfold gD;by_cases O:e.status=1
  .rw[gh O];obtain⟨a1,a2,a3⟩:=(zz _).1 N.st;obtain⟨b1,b2,b3⟩:=(oN _).1 (De (p:=p) nd.node (hcom O));grind[Dy,UC,Li]
  grind
 refine { ls:=N.ls,le:=by simp[yc,N.le],st:=hP▸r7,rg:=hP▸hrg,ow:=hP▸how,tb:=?_,ord:=λu Q t' ni hpt' jE=>(G t').2 (.inl (N.ord u Q t' ni hpt' jE)),sp:=N.sp,xp:=λu Q=>?_,xs:=λu Q hpu=>?_,get:=λk hk j hj hw=>?_,inb:=N.inb }
 .show TabOk (dN p A nd.node) (eN p A (yc fmt nb p nd t e)) (relS nd.tab t);have:eN p A (yc fmt nb p nd t e)=(eN p A nd).filter λi=>!decide (i=t):=by
   unfold eN;rw[qkb];refine qjw λu _=>?_;by_cases e1:u=t
   .grind
   have:aP p A (yc fmt nb p nd t e) u=aP p A nd u:=Ga ((G u).trans ⟨λh=>h.elim id λh=>(e1 h).elim,.inl⟩);rw[this];simp[e1,yc]
  rw[this];exact N.relS hp t
 .rcases(aJ u).1 Q with h|⟨rfl,_⟩
  .exact N.xp u h
  exact⟨ht,hx⟩
 .rcases(aJ u).1 Q with h|⟨rfl,_⟩
  .exact N.xs u h hpu
  exact hse hpu
 have hk:sg p k=nd.node:=hk;rw[<-hP,wb k hk];by_cases aN:gD e k=true
 .rw[gh aN];have hwr':gD (fO fmt nb s A t A[t]) k=true:=he▸aN;have fW:=FG hB hs ht hwr';have sR:nd.node∈sh p (pc A t):=hk▸K1 (iD hp t) fW;have htj:t<j:=(hw t ht hwr').1 ((aJ t).2 (.inr ⟨rfl,hte⟩));have O:pp (fY fmt nb s A (t+1)) k=pp e.writes k:=by
   rw[RI ht,hO.upd,Nl hso (λh=>(hO.com h).2)];rw[show(vx fmt nb (fY fmt nb s A t) A[t]).2=e from he.symm,gh aN]
  rw[<-O];refine(JE hB hs L k (t+1) j J hj λn hn U h3=>?_).symm;rcases hz:gD (fO fmt nb s A n A[n]) k with _|_
  .rfl
  exfalso;have qP:=FG hB hs hn hz;have hpn:nd.node∈sh p (pc A n):=hk▸K1 (iD hp n) qP;rcases(aJ n).1 ((hw n hn hz).2 h3)with h4|⟨h4,_⟩
  .have:=N.ord n (N.xs n h4 hpn) t J sR (by rw[<-hk];exact Ip (iD hp t) (iD hp n) fW (.inr qP));grind
  omega
 rw[gg aN];refine N.get k hk j hj λu Q hwu=>?_;rw[<-hw u Q hwu,aJ];grind
theorem qp9(hp:qw p=true)(hB:BatchIn fmt nb A)(hs:q8 s)(L:ph s=true)(h':SyOk fmt nb p A s σ)(hi:i<σ.nds.length)(ht:t<A.length)(hc:mA p A σ.nds[i] t=true):SyOk fmt nb p A s (we fmt nb p A σ (.exe i t)):=by
 obtain⟨e,hE⟩:∃e,e=(vx fmt nb (cN t σ.nds[i].node σ.nds[i].inbox).1 A[t]).2:=⟨_,rfl⟩
 have hd:we fmt nb p A σ (.exe i t)=⟨σ.nds.set i (yc fmt nb p σ.nds[i] t e),σ.tr,if (sj p (pc A t)).head?=some σ.nds[i].node then σ.efs.set t e else σ.efs⟩:=by simp only[we,ii hi,ii ht,hE];rfl
 rw[hd];have th:=ij hi;have N:=h'.nd _ th;obtain⟨hx,hxd,r9⟩:=B6.1 hc;have he:e=fO fmt nb s A t A[t]:=hE.trans (Kv hp hB hs L h' th ht r9).2.2;have hte:t<σ.nds[i].exd.length:=fe;have nz:∀y∈σ.nds,y.node∈sh p (pc A t)->y.sent.getD t false=true:=λy hy hpy=>by obtain⟨m,hm,g1,g2,g3⟩:=Pb r9 _ hpy;obtain⟨t1,a1,a2,_,_,_,_,_,hI,hz,a3,a4⟩:=(h'.mi _ th m hm).ex;obtain rfl:t1=t:=J;rw[Th h' hy hz (by rw[a3,g2])];exact a4
 have B:=Xf hp hB hs L N ht hc (nz _ th) he;have aJ:∀u,(yc fmt nb p σ.nds[i] t e).exd.getD u false=true↔(σ.nds[i].exd.getD u false=true\/(u=t/\t<σ.nds[i].exd.length)):=λu=>B1;have cB:∀x∈σ.nds.set i (yc fmt nb p σ.nds[i] t e),x∈σ.nds\/x=yc fmt nb p σ.nds[i] t e:=λx hx=>qkc hx;have yX:∀y∈σ.nds,∃hI∈σ.nds.set i (yc fmt nb p σ.nds[i] t e),hI.node=y.node/\∀t,y.sent.getD t false=true->hI.sent.getD t false=true:=λy hy=>by
  rcases NO (b:=yc fmt nb p σ.nds[i] t e) hi hy with h|rfl
  .grind
  exact⟨_,Ef hi,rfl,λu Q=>Q⟩
 have sC:∀x∈σ.nds.set i (yc fmt nb p σ.nds[i] t e),∃y∈σ.nds,x.node=y.node/\x.inbox=y.inbox/\x.sent=y.sent/\∀u,x.exd.getD u false=true->(y.exd.getD u false=true\/u=t):=λx hx=>by
  rcases cB x hx with h|rfl
  .grind
  exact⟨_,th,rfl,rfl,rfl,λu Q=>((aJ u).1 Q).imp id And.left⟩
 refine { nodes:=?_,nd:=λx hx=>?_,el:=?_,sx:=λx hx u Q y hy hpy=>?_,mt:=λm hm=>(h'.mt m hm).mono yX,mi:=λx hx m hm=>?_,has:=λy hy u Q x hx aJ=>?_,ef:=λx hx u h Q he'=>?_ }
 .exact(M2 (f:=λx:Nd=>x.node) (b:=yc fmt nb p σ.nds[i] t e) hi rfl).trans h'.nodes
 .rcases cB x hx with h|rfl
  .exact h'.nd x h
  exact B
 .show(if _ then σ.efs.set t e else σ.efs).length=_;split
  .rw[mr];exact h'.el
  exact h'.el
 .obtain⟨x0,vl,e1,_,_,e4⟩:=sC x hx;obtain⟨y0,qN,f1,_,f3,_⟩:=sC y hy;rw[f3];rw[f1]at hpy;rcases e4 u Q with h|rfl
  .exact h'.sx x0 vl u h y0 qN hpy
  grind
 .exact Qdw
 .obtain⟨x0,vl,e1,e2,_,_⟩:=sC x hx;obtain⟨y0,qN,f1,_,f3,_⟩:=sC y hy;rw[e1]at aJ|-;rw[e2,f1];exact h'.has y0 qN u W x0 vl aJ
 obtain⟨x0,vl,e1,_,_,e4⟩:=sC x hx;rw[e1]at he';show(if (sj p (pc A t)).head?=some σ.nds[i].node then σ.efs.set t e else σ.efs)[u]?=_;have cG:x0.exd.getD u false=true->σ.efs[u]?=some (fO fmt nb s A u A[u]):=λY=>h'.ef x0 vl u h Y he';by_cases eu:u=t
 .subst eu;split
  .rw[ji (by rw[h'.el];exact h),he]
  rename_i hh;rcases cB x hx with O|rfl
  .exact h'.ef x O u h Q (e1▸he')
  exact(hh (e1▸he')).elim
 grind
end
end
structure Shard where
 node:Int
 prs:List Pr
def Shard.c(x:Shard):List V:=[I x.node,.slice (x.prs.map Pr.c)]
def zm(p:Plc)(A:List Txn)(n:Int):Nat->LT
 | 0=>⟨[],[]⟩
 |m+1=>if wn (sh p (pc A m)) n=true then⟨(zm p A n m).glob++[⟨(m:Int),(dN p A n m).all⟩],uV m (dN p A n m) (zm p A n m).qs⟩else zm p A n m
def vU(p:Plc)(A:List Txn)(x:Shard):Nd:=⟨x.node,x.prs,zm p A x.node A.length,[],List.replicate A.length false,List.replicate A.length false⟩
def effZ:Eff:=⟨0,0,[],[],[],[],em,0⟩
def cW(p:Plc)(A:List Txn)(l:List Shard):Sy:=⟨l.map (vU p A),[],List.replicate A.length effZ⟩
section
variable (fmt:Int->na) (nb:List Proc) (p:Plc) (A:List Txn)
def vW(σ:Sy):List Act:=σ.nds.zipIdx.flatMap λx=>((List.range A.length).filter (lV p A x.1)).map (Act.send x.2)
def BI(σ:Sy):List Act:=(List.range σ.tr.length).map Act.dlv
def Ev(σ:Sy):List Act:=σ.nds.zipIdx.flatMap λx=>((List.range A.length).filter (mA p A x.1)).map (Act.exe x.2)
def eB(σ:Sy):List Act:=vW p A σ++BI σ++Ev p A σ
def bP(nd:Nd):Nat:=((List.range A.length).filter λt=>wn (sh p (pc A t)) nd.node&&!nd.sent.getD t false).length
def fJ(nd:Nd):Nat:=((List.range A.length).filter λt=>wn (sj p (pc A t)) nd.node&&!nd.exd.getD t false).length
def pN(l:List Nat):Nat:=l.foldr (· + ·) 0
def mu(σ:Sy):Nat:=17 * pN (σ.nds.map (bP p A))+σ.tr.length+pN (σ.nds.map (fJ p A))
def vO(choices:List Int):Nat->Nat->Sy->Sy
 | 0,_,σ=>σ
 |f+1,step,σ=>match (eB p A σ)[vV choices step (eB p A σ).length]? with
  |none=>σ
  |some a=>vO choices f (step+1) (we fmt nb p A σ a)
def HL(l:List Shard)(choices:List Int):List Shard×List Eff :=
 let σ:=vO fmt nb p A choices (mu p A (cW p A l)) 0 (cW p A l)
 (σ.nds.map λx=>⟨x.node,x.prs⟩,σ.efs)
end
section
variable {fmt:Int->na} {nb:List Proc} {p:Plc} {A:List Txn} {s:List Pr}
section
variable{l:List Shard}{σ:Sy}
theorem K9(hp:qw p=true)(n:Int):∀m,TabOk (dN p A n) ((List.range m).filter λt=>wn (sh p (pc A t)) n) (zm p A n m)
 | 0=>by simp[zm,qn8]
 |m+1=>by
  rw[zm,List.range_succ,List.filter_append];have ih:=K9 hp n m;by_cases h:wn (sh p (pc A m)) n=true
  .rw[gh h];have:[m].filter (λt=>wn (sh p (pc A t)) n)=[m]:=cn;rw[this];exact qml ih (Bx hp n m)
  grind
theorem JG(n t:Nat):(List.replicate n false).getD t false=false:=W
theorem M8(hp:qw p=true)(hB:BatchIn fmt nb A)(hs:q8 s)(L:ph s=true)(hn:l.map (·.node)=uk p)(hl:∀x∈l,ph x.prs=true/\q8 x.prs/\(∀q∈x.prs,sg p q.key=x.node)/\∀k,sg p k=x.node->pp x.prs k=pp s k) :
  SyOk fmt nb p A s (cW p A l):=by
 have G:∀(x:Shard) t,aP p A (vU p A x) t=false:=λx t=>by grind[aP,vU,JG]
 have hsd:∀(x:Shard) t,(vU p A x).sent.getD t false=false:=λx t=>JG _ _;have hxd:∀(x:Shard) t,(vU p A x).exd.getD t false=false:=λx t=>JG _ _;refine { nodes:=?_,nd:=λx hx=>?_,el:=by simp[cW],sx:=λx hx u Q=>?_,mt:=λm hm=>gd,mi:=λx hx m hm=>?_,has:=λy hy u Q=>?_,ef:=λx hx u h Q=>?_ }
 .rw[<-hn];simp[cW,vU,qio]
 .obtain⟨x0,vl,rfl⟩:=ig.1 hx;obtain⟨a1,a2,a3,a4⟩:=hl x0 vl;refine { ls:=by simp[vU],le:=by simp[vU],st:=a1,rg:=a2,ow:=a3,tb:=?_,ord:=λu Q=>?_,sp:=λu Q=>?_,xp:=λu Q=>?_,xs:=λu Q=>?_,get:=λk hk j hj hw=>?_,inb:=λm hm=>gd }
  .grind[vU,eN,qjw,K9]
  .grind
  .grind
  .grind
  .grind
  rw[JE hB hs L k 0 j J hj λn lC O U=>?_]
  .exact a4 k hk
  grind
 .obtain⟨x0,vl,rfl⟩:=ig.1 hx;grind
 .obtain⟨x0,vl,rfl⟩:=ig.1 hx;cases hm
 .obtain⟨x0,vl,rfl⟩:=ig.1 hy;grind
 obtain⟨x0,vl,rfl⟩:=ig.1 hx;grind
theorem Dz{a:Act}:a∈vW p A σ↔∃i t,∃hi:i<σ.nds.length,t<A.length/\lV p A σ.nds[i] t=true/\a=.send i t:=by unfold vW;simp only[qjm,ig,kl,qil,Prod.exists];grind
theorem EI{a:Act}:a∈Ev p A σ↔∃i t,∃hi:i<σ.nds.length,t<A.length/\mA p A σ.nds[i] t=true/\a=.exe i t:=by unfold Ev;simp only[qjm,ig,kl,qil,Prod.exists];grind
theorem Do{a:Act}:a∈BI σ↔∃i,i<σ.tr.length/\a=.dlv i:=by grind[BI]
theorem Bn{a:Act}:a∈eB p A σ↔a∈vW p A σ\/a∈BI σ\/a∈Ev p A σ:=by simp[jj,eB]
theorem O7(hp:qw p=true)(hB:BatchIn fmt nb A)(hs:q8 s)(L:ph s=true)(h':SyOk fmt nb p A s σ){a:Act}(ha:a∈eB p A σ):SyOk fmt nb p A s (we fmt nb p A σ a):=by
 rcases Bn.1 ha with h|h|h
 .grind[qk7,Dz]
 .grind[ZJ,Do]
 grind[qp9,EI]
theorem Zi(hp:qw p=true)(h':SyOk fmt nb p A s σ)(ha:eB p A σ=[]):∀t,t<A.length->(∀y∈σ.nds,y.node∈sh p (pc A t)->y.sent.getD t false=true)/\∀x∈σ.nds,x.node∈sj p (pc A t)->x.exd.getD t false=true:=by
 have qz:∀a,a∉eB p A σ:=λa h=>by rw[ha]at h;cases h
 intro t
 induction t using Nat.strongRecOn with
 |ind t ih =>
  intro ht;have O:∀y∈σ.nds,y.node∈sh p (pc A t)->y.sent.getD t false=true:=λy hy hpy=>by
   rcases hz:y.sent.getD t false with _|_
   .exfalso;have N:=h'.nd y hy;have hrt:aP p A y t=false:=by
     unfold aP;split
     .rcases hx:y.exd.getD t false with _|_
      .rfl
      rw[N.xs t hx hpy]at hz;cases hz
     exact hz
    have hc:lV p A y t=true:=CS.2 ⟨hpy,hz,(N.granted hp).2 ⟨AI.2 ⟨ht,hpy,hrt⟩,λj hj ni=>by
     obtain⟨hj1,hj2,hj3⟩:=AI.1 hj;obtain⟨g1,g2⟩:=ih j ni hj1;exfalso;unfold aP at hj3;split at hj3
     .rename_i hx;rw[g2 y hy (tG.1 hx)]at hj3;cases hj3
     rw[g1 y hy hj2]at hj3;cases hj3⟩⟩
    obtain⟨i,hi,rfl⟩:=qja hy;exact qz _ (Bn.2 (.inl (Dz.2 ⟨i,t,hi,ht,hc,rfl⟩)))
   rfl
  refine⟨O,λx hx aJ=>?_⟩;rcases hz:x.exd.getD t false with _|_
  .exfalso;have htr:σ.tr=[]:=by
    cases hh:σ.tr with
    |nil=>rfl
    |cons m l=>exact(qz (.dlv 0) (Bn.2 (.inr (.inl (Do.2 ⟨0,by rw[hh];simp,rfl⟩))))).elim
   have r9:tU p (pc A t) t x.node x.inbox=true:=by unfold tU;rw[iD hp,jb,jk];intro m hm;have hmn:=Fe (iD hp t) m hm;rw[<-h'.nodes]at hmn;obtain⟨y,hy,rfl⟩:=ig.1 hmn;obtain⟨hI,g1,g2,g3,g4⟩:=h'.has y hy t (O y hy hm) x hx aJ;grind
   have hc:mA p A x t=true:=B6.2 ⟨aJ,hz,r9⟩;obtain⟨i,hi,rfl⟩:=qja hx;exact qz _ (Bn.2 (.inr (.inr (EI.2 ⟨i,t,hi,ht,hc,rfl⟩))))
  rfl
def cT(p:Plc)(s:List Pr):List Shard:=if (qw p&&ph s)=true then(uk p).map λn=>⟨n,wc p s n⟩else []
theorem VK(hp:qw p=true)(hB:BatchIn fmt nb A)(hs:q8 s)(L:ph s=true)(h':SyOk fmt nb p A s σ)(ha:eB p A σ=[]):(σ.nds.map λx=>(⟨x.node,x.prs⟩:Shard))=cT p (vp fmt nb s A).1/\σ.efs=(vp fmt nb s A).2:=by
 have hd:=Zi hp h' ha;have rY:fY fmt nb s A A.length=(vp fmt nb s A).1:=by simp[mj,fY]
 have pg:ph (vp fmt nb s A).1=true:=rY▸FE hB hs L _;constructor
 .unfold cT;rw[gh W,<-h'.nodes,qio];refine qi7 λx hx=>?_;have N:=h'.nd x hx;have:x.prs=wc p (vp fmt nb s A).1 x.node:=by
   refine KR N.st (Kx pg λk=>decide (sg p k=x.node)) λk=>?_;by_cases hk:sg p k=x.node
   .rw[Li hk,<-rY];refine N.get k hk _ (gj _) λt ht hw=>⟨λ_=>ht,λ_=>?_⟩
    exact(hd t ht).2 x hx (hk▸Ph (iD hp t) (FG hB hs ht hw))
   rw[Dj,Dj]
   .rintro q hq rfl;have:=(kl.1 hq).2;grind
   rintro q hq rfl;exact hk (N.ow q hq)
  grind
 refine kp λt=>?_;by_cases ht:t<A.length
 .rw[TU A t ht];have nv:=qnj (iD (A:=A) hp t);obtain⟨n,r,G⟩:=List.exists_cons_of_ne_nil nv;have bL:=Mo (iD (A:=A) hp t) n W;rw[<-h'.nodes]at bL;obtain⟨x,hx,rfl⟩:=ig.1 bL;exact h'.ef x hx t ht ((hd t ht).2 x hx W) W
 rw[lf (by rw[h'.el];omega),lf (by rw[Ja];omega)]
theorem DJ:∀(l:List Nat) (i b:Nat) (hi:i<l.length),pN (l.set i b)+l[i]=pN l+b
 |x::l,0,b,hi=>by simp[pN];omega
 |x::l,i+1,b,hi=>by have:=DJ l i b W;grind[pN]
theorem Fy{q r:Nat->Bool}{t n:Nat}(ht:t<n)(O:q t=true)(U:∀u,r u=(q u&&!decide (u=t))):((List.range n).filter r).length+1=((List.range n).filter q).length:=by
 have:(List.range n).filter r=((List.range n).filter q).erase t:=by rw[List.Nodup.erase_eq_filter (List.nodup_range.filter _),qkb];grind[Bool.and_comm,qjw]
 grind
theorem HK{l:List Bool}{i:Nat}(hi:i<l.length)(j:Nat):(!(l.set i true).getD j false)=(!l.getD j false&&!decide (j=i)):=W
theorem ER{α:Type}[DecidableEq α]:∀(l m:List α),l.Nodup->(∀x∈l,x∈m)->l.length<=m.length
 | [],m,_,_=>il _
 |x::l,m,hn,hs=>by obtain⟨O,U⟩:=l7.1 hn;have hx:=hs x Z;have ih:=ER l (m.erase x) U λy hy=>(List.mem_erase_of_ne W).2 (hs y c0);rw[List.length_erase_of_mem hx]at ih;grind
theorem QL(hp:qw p=true)(f:Foot)(hn:(uk p).length<=16):(sj p f).length<=16:=by
 by_cases h:v6 p f=true
 .refine jh ?_ hn;exact ER _ _ ((qnn p f).imp λh=>by omega) λx hx=>Mo h x hx
 grind[sj]
theorem OD(hp:qw p=true)(hn:(uk p).length<=16)(h':SyOk fmt nb p A s σ){a:Act}(ha:a∈eB p A σ):mu p A (we fmt nb p A σ a)<mu p A σ:=by
 rcases Bn.1 ha with h|h|h
 .obtain⟨i,t,hi,ht,hc,rfl⟩:=Dz.1 h;obtain⟨c1,c2,c3⟩:=CS.1 hc;have hd:we fmt nb p A σ (.send i t)=⟨σ.nds.set i (wg p A σ.nds[i] t),σ.tr++fU p σ.nds[i].node σ.nds[i].prs t (pc A t),σ.efs⟩:=by
   exact Qdv
  rw[hd];have N:=h'.nd _ (ij hi);have O:bP p A (wg p A σ.nds[i] t)+1=bP p A σ.nds[i]:=by exact Qdx
  have U:fJ p A (wg p A σ.nds[i] t)=fJ p A σ.nds[i]:=rfl;have h3:(fU p σ.nds[i].node σ.nds[i].prs t (pc A t)).length<=16:=by grind[ka,fU,QL]
  grind[qiq,it,mu,DJ]
 .obtain⟨i,hi,rfl⟩:=Do.1 h;have hd:we fmt nb p A σ (.dlv i)=⟨σ.nds.map (y5 σ.tr[i]),σ.tr.eraseIdx i,σ.efs⟩:=by
   exact Qdv
  rw[hd];unfold mu;simp only[qio];rw[List.length_eraseIdx_of_lt hi];have e1:σ.nds.map (bP p A∘y5 σ.tr[i])=σ.nds.map (bP p A):=qi7 λx _=>by simp[bP,pH]
  have e2:σ.nds.map (fJ p A∘y5 σ.tr[i])=σ.nds.map (fJ p A):=qi7 λx _=>by simp[fJ,pH]
  rw[e1,e2];omega
 obtain⟨i,t,hi,ht,hc,rfl⟩:=EI.1 h;obtain⟨c1,c2,c3⟩:=B6.1 hc;obtain⟨e,hE⟩:∃e,e=(vx fmt nb (cN t σ.nds[i].node σ.nds[i].inbox).1 A[t]).2:=⟨_,rfl⟩
 have hd:we fmt nb p A σ (.exe i t)=⟨σ.nds.set i (yc fmt nb p σ.nds[i] t e),σ.tr,if (sj p (pc A t)).head?=some σ.nds[i].node then σ.efs.set t e else σ.efs⟩:=by simp only[we,ii hi,ii ht,hE];rfl
 rw[hd];have N:=h'.nd _ (ij hi);have O:fJ p A (yc fmt nb p σ.nds[i] t e)+1=fJ p A σ.nds[i]:=by exact Qdy
 have U:bP p A (yc fmt nb p σ.nds[i] t e)=bP p A σ.nds[i]:=rfl;grind[qiq,mu,DJ]
theorem ND{l:List Act}{choices:List Int}{step:Nat}(h:l≠[]):∃a∈l,l[vV choices step l.length]?=some a:=by
 have hl:0<l.length:=List.length_pos_iff.2 h;have hc:=Yc (choices:=choices) (step:=step) hl
 simp_all
theorem M1(hp:qw p=true)(hn:(uk p).length<=16)(hB:BatchIn fmt nb A)(hs:q8 s)(L:ph s=true)(choices:List Int):∀(f step:Nat) (σ:Sy),SyOk fmt nb p A s σ->mu p A σ<=f->SyOk fmt nb p A s (vO fmt nb p A choices f step σ)/\eB p A (vO fmt nb p A choices f step σ)=[]
 |f,step,σ,h',hf=>by
  by_cases he:eB p A σ=[]
  .have:vO fmt nb p A choices f step σ=σ:=by
    cases f with
    |zero=>rfl
    |succ f=>rw[vO,he];rfl
   grind
  obtain⟨a,ha,hg⟩:=ND (choices:=choices) (step:=step) he;have hm:=OD hp hn h' ha;cases f with
  |zero=>omega
  |succ f =>
   rw[vO,hg];exact M1 hp hn hB hs L choices f (step+1) _ (O7 hp hB hs L h' ha) J
theorem Zt(hp:qw p=true)(hn:(uk p).length<=16)(hB:BatchIn fmt nb A)(hs:q8 s)(L:ph s=true)(xc:l.map (·.node)=uk p)(hl:∀x∈l,ph x.prs=true/\q8 x.prs/\(∀q∈x.prs,sg p q.key=x.node)/\∀k,sg p k=x.node->pp x.prs k=pp s k)(choices:List Int) :
  HL fmt nb p A l choices=(cT p (vp fmt nb s A).1,(vp fmt nb s A).2):=by
 obtain⟨h',he⟩:=M1 hp hn hB hs L choices _ 0 _ (M8 hp hB hs L xc hl) (gj _);grind[HL,VK]
end
end
theorem Mn:∀(l qf:List Part),eT qf l=true->∀x∈l,jX x.node=true/\(x.dest≠0->jX x.dest=true)
 | [],_,_,x,hx=>by cases hx
 |y::l,qf,h,x,hx=>by
  rw[eT]at h;simp only[gy]at h;obtain⟨⟨⟨⟨⟨_,_⟩,O⟩,U⟩,_⟩,h3⟩:=h;rcases iq.1 hx with rfl|hx
  .refine⟨O,λhd=>?_⟩;unfold pS at U;grind
  exact Mn l _ h3 x hx
theorem Md{p:Plc}:∀n∈uk p,1<=n/\n<=16:=λn hn=>by
 unfold uk at hn;split at hn
 .rename_i hv;rw[xJ]at hn;obtain⟨x,hx,hm⟩:=qjm.1 hn;unfold qw at hv;simp only[gy]at hv;grind[jX,Mn]
 cases hn
theorem uR(p:Plc):(uk p).length<=16:=by
 have:=ER (uk p) ((List.range 16).map λi:Nat=>(i:Int)+1) (M4 p) λn hn=>by obtain⟨O,U⟩:=Md n hn;exact ig.2 ⟨(n - 1).toNat,qil.2 J,J⟩
 grind
theorem Na(p:Plc)(f:Foot):(sh p f).length<=16:=by
 by_cases h:v6 p f=true
 .refine jh ?_ (uR p);exact ER _ _ ((LS p f).imp λh=>by omega) λx hx=>Fe h x hx
 grind[sh]
theorem Ir(p:Plc)(f:Foot):(sj p f).length<=16:=by
 by_cases h:v6 p f=true
 .exact QL (nN h).1 f (uR p)
 grind[sj]
def mK(p:Plc)(x:Shard):Bool:=ph x.prs&&x.prs.all λq=>decide (sg p q.key=x.node)
def mJ(p:Plc)(l:List Shard):Bool:=qw p&&decide (l.map (·.node)=uk p)&&l.all (mK p)
theorem El{p:Plc}{l:List Shard}:mJ p l=true↔qw p=true/\l.map (·.node)=uk p/\∀x∈l,ph x.prs=true/\∀q∈x.prs,sg p q.key=x.node:=by unfold mJ mK;grind
def vK:Option Int->List Shard->Bool
 |_,[]=>true
 |q,x::l=>(match q with|none=>true|some y=>decide (y<x.node))&&ph x.prs&&vK (some x.node) l
def pE:List Shard->List Pr->List Pr×Int
 | [],out=>(out,0)
 |x::l,out=>if (cC out x.prs).2≠0 then([],(cC out x.prs).2)else pE l (cC out x.prs).1
def kT(l:List Shard):List Pr×Int:=if vK none l=true then pE l []else([],1)
theorem Qq:∀(l:List Shard) (q:Option Int),(l.map (·.node)).Pairwise (· < ·)->(∀y,q=some y->∀x∈l,y<x.node)->(∀x∈l,ph x.prs=true)->vK q l=true
 | [],_,_,_,_=>rfl
 |x::l,q,h,hq,hs=>by
  obtain⟨O,U⟩:=jy.1 h;have ih:=Qq l (some x.node) U (λy e hI hz=>by cases e;exact O _ (ig.2 ⟨hI,hz,rfl⟩)) λhI hz=>hs hI (by simp[hz]);have hx:=hs x Z;cases q with
  |none=>simp[vK,hx,ih]
  |some y =>
   grind[vK]
theorem L9{own:na->Int}:∀(l:List Shard) (qf:List Int) (out:List Pr),(qf++l.map (·.node)).Nodup->(∀x∈l,ph x.prs=true/\∀q∈x.prs,own q.key=x.node)->ph out=true->(∀q∈out,own q.key∈qf) ->
  ∃lQ,pE l out=(lQ,0)/\ph lQ=true/\((∀x∈l,q8 x.prs)->q8 out->q8 lQ)/\∀k,(∀x∈l,own k=x.node->pp lQ k=pp x.prs k)/\((∀x∈l,own k≠x.node)->pp lQ k=pp out k)
 | [],qf,out,_,_,h,_=>⟨out,by rw[pE],h,λ_ h=>h,λk=>⟨λm hm=>gd,λ_=>rfl⟩⟩
 |m::l,qf,out,hn,hl,h,ho=>by
  obtain⟨m1,m3⟩:=hl m Z;have lC:(qf++[m.node]++l.map (·.node)).Nodup:=W
  have bQ:m.node∉qf:=λhx=>by grind
  have hfl:∀x∈l,x.node≠m.node:=λx hx e=>by grind
  have Q:cC out m.prs=(y7 out m.prs,0):=by unfold cC;rw[gg W,gg];simp only[qip,not_exists,not_and];intro x hx hh;obtain⟨q,hq,e⟩:=ig.1 (rH.1 hh);grind
  have aN:y9 m.prs=true:=by obtain⟨b1,b2,b3⟩:=(zz m.prs).1 m1;grind[oN]
  have ha:=EJ h aN;have vX:∀q∈y7 out m.prs,own q.key∈qf++[m.node]:=λq hq=>by
   have hg:=CK ((zz _).1 ha).2.2 hq;rw[BY h m1]at hg;rcases hx:tf m.prs q.key with _|_
   .rw[hx,gg Z]at hg;have nv:pp out q.key≠AV.nil:=by
     exact Qdu
    have:=ho _ (D4 nv);grind
   obtain⟨x,hx,e⟩:=ig.1 (rH.1 hx);grind
  obtain⟨lQ,g1,g2,g3,g4⟩:=L9 l (qf++[m.node]) (y7 out m.prs) lC (λx hx=>hl x be) ha vX;refine⟨lQ,?_,g2,λkH hr2=>g3 (λx hx=>kH x be) (DV hr2 (kH m Z) h aN),λk=>⟨λx hx e=>?_,λhk=>?_⟩⟩
  .grind[pE]
  .rcases iq.1 hx with rfl|hx
   .rw[(g4 k).2 (λy hy=>by rw[e];exact(hfl y hy).symm),BY h m1];split
    .rfl
    rename_i hh;rw[G0 (k:=k) (a:=x.prs) W,G0];rcases hz:tf out k with _|_
    .rfl
    obtain⟨q,hq,e1⟩:=ig.1 (rH.1 hz);grind
   grind
  rw[(g4 k).2 (λy hy=>hk y c0),BY h m1,gg];intro hh;obtain⟨x,hx,e⟩:=ig.1 (rH.1 hh);grind
theorem JK{p:Plc}{l:List Shard}(h:mJ p l=true):∃s,kT l=(s,0)/\ph s=true/\((∀x∈l,q8 x.prs)->q8 s)/\∀x∈l,∀k,sg p k=x.node->pp x.prs k=pp s k:=by
 obtain⟨O,U,h3⟩:=El.1 h;have An:(l.map (·.node)).Pairwise (· < ·):=by grind[Em]
 obtain⟨s,g1,g2,g3,g4⟩:=L9 (own:=sg p) l [] [] W h3 rfl Z;refine⟨s,?_,g2,λG=>g3 G (by simp[q8]),λx hx k hk=>((g4 k).1 x hx hk).symm⟩;unfold kT;rw[gh (Qq l none An Z λx hx=>(h3 x hx).1),g1]
theorem Ao{p:Plc}{s:List Pr}(hp:qw p=true)(hs:ph s=true):mJ p (cT p s)=true:=by unfold cT;rw[gh W];refine El.2 ⟨hp,by simp[qio,Function.comp_def],λx hx=>?_⟩;obtain⟨n,hn,rfl⟩:=ig.1 hx;exact⟨Kx hs λk=>decide (sg p k=n),λq hq=>by simpa using(kl.1 hq).2⟩
theorem Zj{p:Plc}{s:List Pr}(hp:qw p=true)(hs:ph s=true):kT (cT p s)=(s,0):=by
 obtain⟨s',g1,g2,_,g4⟩:=JK (Ao hp hs);rw[g1];have:s'=s:=KR g2 hs λk=>by
  have hx:(⟨sg p k,wc p s (sg p k)⟩:Shard)∈cT p s:=by unfold cT;rw[gh W];exact ig.2 ⟨_,EF hp k,rfl⟩
  grind[Li]
 rw[this]
theorem O0{p:Plc}{s:List Pr}(G:q8 s):∀x∈cT p s,q8 x.prs:=λx hx=>by
 unfold cT at hx;split at hx
 .obtain⟨n,hn,rfl⟩:=ig.1 hx;exact λq hq=>G q (kl.1 hq).1
 cases hx
section
variable (fmt:Int->na) (nb:List Proc) (p:Plc) (l:List Shard) (A:List Txn) (choices:List Int)
def yP:List Shard×List Eff:=if mJ p l=true then HL fmt nb p A l choices else([],[])
def A4:List Shard×List Eff:=if mJ p l=true then(cT p (vp fmt nb (kT l).1 A).1,(vp fmt nb (kT l).1 A).2)else([],[])
end
section
variable {fmt:Int->na} {nb:List Proc} {p:Plc} {l:List Shard} {A:List Txn} {choices:List Int}
theorem LK(hB:BatchIn fmt nb A)(G:∀x∈l,q8 x.prs):yP fmt nb p l A choices=A4 fmt nb p l A:=by
 unfold yP A4;by_cases h:mJ p l=true
 .rw[gh h,gh h];obtain⟨O,U,h3⟩:=El.1 h;obtain⟨s,g1,g2,g3,g4⟩:=JK h;rw[g1];exact Zt O (uR p) hB (g3 G) g2 U (λx hx=>⟨(h3 x hx).1,G x hx,(h3 x hx).2,λk hk=>g4 x hx k hk⟩) choices
 grind
theorem qqu{s:List Pr}(hB:BatchIn fmt nb A)(G:q8 s)(hp:qw p=true)(hs:ph s=true):yP fmt nb p (cT p s) A choices=(cT p (vp fmt nb s A).1,(vp fmt nb s A).2):=by rw[LK hB (O0 G)];unfold A4;rw[gh (Ao hp hs),Zj hp hs]
end
section
variable{k:Nat}
theorem LA:∀(p a b:List UInt8),Op.bytesLess (p++a) (p++b)=Op.bytesLess a b
 | [],_,_=>rfl
 |x::p,a,b=>by simp[Op.bytesLess,LA p a b,UInt8.lt_irrefl]
theorem Zd(a b:na):px a b=Op.bytesLess (bl a) (bl b):=by simp[ByteArray.toList_eq,px,bl]
theorem Hw{a b:na}(he:(bl a).take k=(bl b).take k):px a b=Op.bytesLess ((bl a).drop k) ((bl b).drop k):=by grind[Zd,me,LA]
theorem Gl(s:na):(bl s).length=s.size:=by simp[bl]
def Ze{a b:na}(ha:k<a.size)(hb:k<b.size)(he:(bl a).take k=(bl b).take k)(h:w9 a k=w9 b k):(bl a).take (k+1)=(bl b).take (k+1):=by
 rw[jn qhi,jn qhi,he];have O:(bl a)[k]'qhi=w9 a k:=by grind[Gl,w9]
 have U:(bl b)[k]'qhi=w9 b k:=by grind[Gl,w9]
 rw[O,U,h]
theorem ZQ{a b:na}(he:(bl a).take k=(bl b).take k)(h:k=b.size):px a b=false:=by rw[Hw he,gq (show(bl b).length<=k by rw[Gl];omega)];cases(bl a).drop k<;>rfl
theorem Wm{a b:na}(he:(bl a).take k=(bl b).take k)(ha:k<a.size)(hb:k<b.size)(h:w9 b k<w9 a k):px a b=false:=by rw[Hw he,lJ ha,lJ hb];simp[Op.bytesLess,UInt8.lt_asymm h];intro e;rw[e]at h;exact(UInt8.lt_irrefl _ h).elim
theorem Tk{a b:na}(he:(bl a).take k=(bl b).take k)(ha:k=a.size)(hb:k<b.size):px a b=true:=by rw[Hw he,lJ hb,gq (show(bl a).length<=k by rw[Gl];omega)];rfl
theorem ZX{a b:na}(he:(bl a).take k=(bl b).take k)(ha:k<a.size)(hb:k<b.size)(h:w9 a k<w9 b k):px a b=true:=by rw[Hw he,lJ ha,lJ hb];simp[Op.bytesLess,h]
end
structure YH(P:Program)(l:Nat)(HF:Nat->mz)(HX:Nat->Ex->mz)(vf:Ex->Bool)(n0:Nat):Prop where
 len:∀k,(HF k).length=n0
 lenX:∀k x,(HX k x).length=n0
 und:∀k,hUnder n0 (HF k)=true
 undX:∀k x,hUnder n0 (HX k x)=true
 y:∀k (x:Ex) (h0:mz),AYield P l [.agg x.x] (HF k++h0) λr Y=>(vf x=true->r=.ret (Bo false)/\Y=HX k x++h0)/\(vf x=false->r=.ret (Bo true)/\Y=HF (k+1)++h0)
theorem YH.ext{P:Program}{l:Nat}{HF:Nat->mz}{HX:Nat->Ex->mz}{vf:Ex->Bool}{n0:Nat}(h':YH P l HF HX vf n0)(h0:mz)(hL:hUnder (n0+h0.length) h0=true):YH P l (λk=>HF k++h0) (λk x=>HX k x++h0) vf (n0+h0.length) where
 len:=λk=>by rw[it,h'.len]
 lenX:=λk x=>by rw[it,h'.lenX]
 und:=λk=>by rw[xh,aQ J (h'.und k),hL];rfl
 undX:=λk x=>by rw[xh,aQ J (h'.undX k x),hL];rfl
 y:=λk x L'=>by simpa[jf]using h'.y k x (h0++L')
def fI(HF:Nat->mz)(HX:Nat->Ex->mz)(r:Nat×Option Ex):mz:=match r.2 with
 |none=>HF r.1
 |some e=>HX r.1 e
def gM(ms:List (Option Nat)):mz:=ms.map λ|none=>.none|some D=>uj D
def dM(ms:List (Option Nat)):List Deferred:=(ms.filterMap id).reverse.map mD
def lN:Nat->List (Option Nat)->List (Nat×Nat)
 |_,[]=>[]
 |k,none::l=>lN (k+1) l
 |k,some D::l=>lN (k+1) l++[(k,D)]
theorem Hi:∀(ms:List (Option Nat)) (k:Nat),(lN k ms).map (λp=>mD p.2)=dM ms
 | [],_=>rfl
 |none::l,k=>by simp only[lN,Hi l];rfl
 |some D::l,k=>by simp[lN,Hi l,dM]
def AA:∀(ms:List (Option Nat)) (k:Nat) (p:Nat×Nat),p∈lN k ms->k<=p.1/\p.1<k+ms.length/\(gM ms)[p.1 - k]?=some (uj p.2)
 | [],_,p,h=>by simp[lN]at h
 |none::l,k,p,h=>by obtain⟨O,U,h3⟩:=AA l (k+1) p h;refine⟨J,au,?_⟩;rw[show p.1 - k=(p.1 - (k+1))+1 by omega];exact h3
 |some D::l,k,p,h=>by
  rw[lN,jj]at h;rcases h with h|h
  .obtain⟨O,U,h3⟩:=AA l (k+1) p h;refine⟨J,au,?_⟩;rw[show p.1 - k=(p.1 - (k+1))+1 by omega];exact h3
  grind[gM]
def Gm:∀(ms:List (Option Nat)) (k:Nat),((lN k ms).map (·.1)).Nodup
 | [],_=>qiz
 |none::l,k=>Gm l (k+1)
 |some D::l,k=>by rw[lN,jr,qjb];refine⟨Gm l (k+1),Z,λa ha b hb=>?_⟩;rw[ig]at ha;obtain⟨p,hp,rfl⟩:=ha;have:=(AA l (k+1) p hp).1;simp at hb;omega
def Fl:∀(l:List (Nat×Nat)) (mw ac:mz),(∀p,p∈l->mw.length<=p.1)->∃Z',oQ l (mw++ac)=mw++Z'
 | [],mw,ac,_=>⟨ac,rfl⟩
 |p::l,mw,ac,h=>by rw[oQ,ku _ _ (h p Z)];exact Fl l mw _ λq hq=>h q fk
theorem qsm(a b:List (Option Nat)):gM (a++b)=gM a++gM b:=by simp[gM]
def qok(ms:List (Option Nat))(D:Nat):dM (ms++[none,none,some D])=mD D::dM ms:=by simp[dM,List.filterMap_append]
theorem Oq(ms:List (Option Nat))(m:Nat):hUnder m (gM ms)=true:=by rw[lY];intro o ho;simp only[gM,ig]at ho;obtain⟨x,_,rfl⟩:=ho;cases x<;>rfl
section
variable {P:Program} {E:Ent} {p:Tmp} {rn body:Code}
def bA(E:Ent)(e:Env)(p:Tmp)(rn body:Code)(l D:Nat)(fn:FuncId)(st:LoopState)(pe:Option Code):AObj:=.raw l (bK st pe fn #[p] rn body D) (slots E.N e)
def Nc(E:Ent)(kE:Nat)(r0 rb rd:AObj)(R:AEnd->mz->Prop):AExit->List Deferred->Env->Prop
 | .normal,_,e=>e.h[kE]?=some rb/\∃Y,Wk E ⟨[],e.h.set kE r0⟩ ⟨[],Y⟩/\R (.ret (.val (.bool true))) Y
 | .ret,_,e=>e.h[kE]?=some rb/\∃Y,Wk E ⟨[],e.h.set kE rd⟩ ⟨[],Y⟩/\R (.ret (.val (.bool false))) Y
 |_,_,_=>False
def qst{g:Operand}{gf:FuncId}{pk:List V}{hu:AExit->List Deferred->Env->Prop}{ds:List Deferred}{e:Env}(hg:e.get g=.fn (.func gf) [] pk)(hcaps:∀H,qu H pk=pk)
  (hN:Nat->mz) (X:Nat->Ex->mz) (vf:Ex->Bool) (xs:List Ex) (k n0:Nat) (hB:e.h=hN k) (len:∀j,(hN j).length=n0) (lenX:∀j x,(X j x).length=n0) (und:∀j,hUnder n0 (hN j)=true) (undX:∀j x,hUnder n0 (X j x)=true)
  (tj:q9 n0 (slots E.N e)=true) (hp:p<E.N)
  (hit:∀(l:Nat) (h0:mz) (HX:Nat->Ex->mz) (n1:Nat),YH P l (λj=>hN j++h0) HX vf n1->ACalls P gf ([.fn (.yield l) [] []]++pk) (hN k++h0) λr Y=>r=.ret (.tuple [])/\Y=fI (λj=>hN j++h0) HX (aL vf xs k))
  (H9:∀(E':Ent) (l D j:Nat) (x:Ex) (h0:mz) (r0 rb rd:AObj),(∀m,n0<=m->r0.under m=true/\rb.under m=true/\rd.under m=true)->E'.N=E.N->E'.h=hN j++uj D::r0::h0->hUnder E'.h.length E'.h=true->(V.agg x.x).bd ->
   wv P E' (some l) rn (Ak (λds e1=>ds=[]/\e1.h[n0+1]?=some r0 /\
    wv P E' (some l) body (Nc E' (n0+1) r0 rb rd λr Y =>
     (vf x=true->r=.ret (Bo false)/\Y=X j x++uj D::rd::h0)/\(vf x=false->r=.ret (Bo true)/\Y=hN (j+1)++uj D::r0::h0))
     [] ⟨e1.t,e1.h.set (n0+1) rb⟩) (λ_ _ _=>False)) [] ⟨(p,.agg x.x)::jI 0 (slots E.N e),E'.h⟩)
  (hdone:∀(j D:Nat) (o:AObj),aL vf xs k=(j,none)->hu .normal (mD D::ds) ⟨e.t,hN j++[uj D,o]⟩)
  (hstop:∀(j:Nat) (x:Ex) (D:Nat) (o:AObj),aL vf xs k=(j,some x)->hu .ret (mD D::ds) ⟨e.t,X j x++[uj D,o]⟩) :
  wv P E none (.rangeFunc g #[p] rn body) hu ds e:=by
 refine PC hg λfn D l=>?_;have hL:∀st pe,hUnder (n0+2) [uj D,bA E e p rn body l D fn st pe]=true:=λst pe=>by simp only[hUnder,uj,bA,AObj.under,q9,jb,kg];exact pC J _ tj
 have xc:qu (e.h++[uj D,.raw l (bK .ready none fn #[p] rn body D) (slots E.N e)]) ([.fn (.yield l) [] []]++pk)=[.fn (.yield l) [] []]++pk:=by grind[qu,V.norm]
 rw[xc,hB];have h':YH P l (λj=>hN j++[uj D,bA E e p rn body l D fn .ready none]) (λj x=>X j x++[uj D,bA E e p rn body l D fn .done (some .ret)]) vf (n0+2):={
  len:=λj=>by simp[len]
  lenX:=λj x=>by simp[lenX]
  und:=λj=>by rw[xh,aQ J (und j),hL];rfl
  undX:=λj x=>by rw[xh,aQ J (undX j x),hL];rfl
  y:=λj x h0=>by
   have hidx:(hN j++[uj D,bA E e p rn body l D fn .ready none]++h0)[n0+1]?=some (.raw l (bK .ready none fn #[p] rn body D) (slots E.N e)):=by rw[jf,gz W,len,show n0+1 - n0=1 by omega];rfl
   refine RY hidx qh1 λE' B hh Q rB _=>?_;have jB:E'.N=E.N:=qh1;have iE:E'.h=hN j++uj D::bA E e p rn body l D fn .ready none::h0:=W;have gV:∀st pe m,n0<=m->(bA E e p rn body l D fn st pe).under m=true:=λst pe m hm=>pC hm _ tj;have:=H9 E' l D j x h0 _ (bA E e p rn body l D fn .busy none) (bA E e p rn body l D fn .done (some .ret)) (λm hm=>⟨gV _ _ m hm,gV _ _ m hm,gV _ _ m hm⟩) jB iE W rB;have hJ:∀R,Nc E' (n0+1) (bA E e p rn body l D fn .ready none) (bA E e p rn body l D fn .busy none) (bA E e p rn body l D fn .done (some .ret)) R=OZ E' (n0+1) l fn #[p] rn body D (slots E.N e) R:=λR=>by funext x ds e;cases x<;>rfl
   rw[hJ,iE]at this;simpa[bA]using this }
 refine(hit l [uj D,bA E e p rn body l D fn .ready none] _ (n0+2) h').mono ?_;rintro r Y ⟨rfl,rfl⟩;refine⟨⟨_,rfl⟩,?_⟩;rcases hsc:aL vf xs k with⟨j,_|x⟩
 .refine⟨.ready,none,Z,?_,?_⟩
  .simp only[fI];rw[gz W,len,len,show n0+1 - n0=1 by omega];rfl
  simp_all[fI]
 refine⟨.done,some .ret,Z,?_,?_⟩
 .simp only[fI];rw[gz W,len,lenX,show n0+1 - n0=1 by omega];rfl
 simp_all[fI,Iw]
end
structure RM where
 vars:List Pr
 own:List Pr
 st:Int
 code:Int
 out:List AV
 reads:List na
 puts:List na
 miss:na
 steps:Int
def RM.c(C:Cfg)(m:RM):List V:=[.slice (C.state.map Pr.c),Bo C.all,.slice (C.rd.map ny),.slice (C.wr.map ny),.slice (m.vars.map Pr.c),.slice (m.own.map Pr.c),I m.st,I m.code,.slice (m.out.map AV.c),.slice (m.reads.map ny),.slice (m.puts.map ny),.slice [],my m.miss,I m.steps]
def RM.ab(m:RM)(c:Int):RM:={ m with st:=2,code:=c,out:=[] }
def RM.rst(m:RM)(k:na):RM:={ m with st:=3,code:=0,out:=[],miss:=k }
def yI(l:List Pr)(k:na):Nat:=if (l[zq k l]?).map Pr.key=some k then zq k l+1 else zq k l
def yj(l:List Pr)(p:Pr):List Pr:=l.take (zq p.key l)++p::l.drop (yI l p.key)
def u7(C:Cfg)(m:RM)(k:na):AV×RM :=
 if zp k=false then(AV.nil,m.ab 1004)
 else if qa m.puts k=true then(pp m.own k,m)
 else if C.all=false/\qa C.rd k=false then(AV.nil,m.rst k)
 else(pp C.state k,{ m with reads:=zj m.reads k })
def kN(C:Cfg)(m:RM)(k:na)(v:AV):RM :=
 if zp k=false then m.ab 1004
 else if C.all=false/\qa C.wr k=false then m.rst k
 else { m with puts:=zj m.puts k,own:=yj m.own ⟨k,v⟩ }
def qO(m:RM)(v:AV):RM:=if 16<=(m.out.length:Int)then m.ab 1007 else { m with out:=m.out++[v] }
def xz(m:RM):RM:=if 16384<p9 (m.steps+1)then { m with steps:=p9 (m.steps+1) }.ab 1008 else { m with steps:=p9 (m.steps+1) }
def jC(m:RM)(r:Int×Int):AV×RM:=if r.2=4 then(AV.nil,m.ab 1002)else if r.2≠0 then(AV.nil,m.ab 1001)else(vI r.1,m)
def mQ(op a b:Int):Int×Int:=if op=4 then sQ a b else if op=5 then aE a b else if op=6 then kF a b else if op=7 then mY a b else kU a b
def uH(a b:AV):Int:=if a.n<b.n\/px a.s b.s=true then -1 else if bM a b=true then 0 else 1
def fP(m:RM)(op:Int)(a b:AV):AV×RM :=
 if op=4\/op=5\/op=6\/op=7\/op=8 then(if a.k=1/\b.k=1 then jC m (mQ op a.n b.n)else(AV.nil,m.ab 1009))
 else if op=16 then(if a.k=3/\b.k=3 then(vB (decide (a.n=1)&&decide (b.n=1)),m)else(AV.nil,m.ab 1009))
 else if op=17 then(if a.k=3/\b.k=3 then(vB (decide (a.n=1)||decide (b.n=1)),m)else(AV.nil,m.ab 1009))
 else if op=19 then(if a.k=2/\b.k=2 then(if 64<p9 (a.s.size+b.s.size:Int)then(AV.nil,m.ab 1006)else(vS (a.s++b.s),m))else(AV.nil,m.ab 1009))
 else if (a.k=1/\b.k=1)\/(a.k=2/\b.k=2)\/(a.k=3/\b.k=3/\(op=10\/op=11))then(vB (gI op (uH a b)),m)
 else(AV.nil,m.ab 1009)
def xW(op:Int):Int:=if op=18 then 3 else if op=9\/op=20 then 1 else 2
def bR(C:Cfg)(m:RM)(op:Int)(a:AV):AV×RM :=
 if a.k≠xW op then(AV.nil,m.ab 1009)
 else if op=9 then jC m (eF a.n)
 else if op=18 then(vB (decide (a.n=0)),m)
 else if op=20 then(vS (C.fmt a.n),m)
 else if op=21 then(vI a.s.size,m)
 else
  let x:=u7 C m a.s
  if x.2.st≠0 then(AV.nil,x.2)
  else if op=24 then(vB (!decide (x.1.k=0)),x.2)
  else if x.1.k=0 then(⟨if op=23 then 2 else 1,0,em⟩,x.2)
  else if x.1.k≠(if op=23 then 2 else 1)then(AV.nil,x.2.ab 1003)
  else(x.1,x.2)
def qB(C:Cfg)(m:RM)(op:Int)(l:List AV):AV×RM :=
 match l with
 | [a]=>bR C m op a
 | [a,b]=>fP m op a b
 |_=>(AV.nil,m.ab 1009)
section
variable (C:Cfg)
mutual
def pm:Ex->RM->AV×RM
 | .mk op n s args,m =>
  if op=1 then(vI n,m)
  else if op=2 then(vS s,m)
  else if op=3 then(if tf m.vars s=true then(pp m.vars s,m)else(AV.nil,m.ab 1009))
  else
   let x:=cF args m
   if x.2.st≠0 then(AV.nil,x.2)else qB C x.2 op x.1
def cF:List Ex->RM->List AV×RM
 | [],m=>([],m)
 |e::l,m =>
  let x:=pm e m
  if x.2.st≠0 then([],x.2)
  else
   let y:=cF l x.2
   (x.1::y.1,y.2)
end
theorem qrt(e:Ex)(m:RM):pm C e m=if e.op=1 then(vI e.n,m)
  else if e.op=2 then(vS e.s,m)
  else if e.op=3 then(if tf m.vars e.s=true then(pp m.vars e.s,m)else(AV.nil,m.ab 1009))
  else if (cF C e.args m).2.st≠0 then(AV.nil,(cF C e.args m).2)else qB C (cF C e.args m).2 e.op (cF C e.args m).1:=by
 cases e;rw[pm];rfl
end
theorem iO{α:Type}:∀(l:List (na×α)) (s k:na) (v:α),pb (qc l s v) k=if s=k then some v else pb l k
 | [],s,k,v=>by simp only[qc,pb]
 |p::l,s,k,v=>by
  rw[qc];split
  .grind[pb]
  rename_i h;rw[pb,iO l s k v,pb];grind
def RZ:∀(a b:List UInt8),(Go.Lib.compareBytes a b<0↔Op.bytesLess a b=true)/\(Go.Lib.compareBytes a b=0↔a=b)
 | [],[]=>by simp[Go.Lib.compareBytes,Op.bytesLess]
 | [],_::_=>by simp[Go.Lib.compareBytes,Op.bytesLess]
 |_::_,[]=>by simp[Go.Lib.compareBytes,Op.bytesLess]
 |x::a,y::b=>by
  have ih:=RZ a b;simp only[Go.Lib.compareBytes,Op.bytesLess,List.cons.injEq];split
  .rename_i h;grind
  rename_i h;grind
theorem Dk(a b:na):(yC a b<0↔px a b=true)/\(yC a b=0↔a=b):=by
 have h:=RZ a.data.toList b.data.toList;have e:∀x:na,x.toList=x.data.toList:=λx=>by simp[ByteArray.toList_eq]
 refine⟨?_,?_⟩
 .grind[yC,px]
 unfold yC;rw[h.2];constructor
 .intro he;have:a.data=b.data:=Array.toList_inj.1 he;cases a;cases b;simp_all
 grind
theorem qr5{p q:Pr}{l:List Pr}(h:px q.key p.key=true):yj (q::l) p=q::yj l p:=by grind[zq,qjk,yj,yI]
theorem C7(l:List Pr)(p:Pr)(k:na):tf (yj l p) k=(decide (p.key=k)||tf l k)/\pp (yj l p) k=if p.key=k then p.v else pp l k:=by
 induction l with
 |nil=>simp[yj,yI,zq,tf,ut,pp]
 |cons q l ih =>
  grind[qr5,tf,ut,pp,Bool.or_assoc,Bool.or_comm,uI,zq,yj,yI]
theorem Zn(l:List Pr)(p:Pr):ur (yj l p)=zj (ur l) p.key:=by
 have hp:=QN p.key l;unfold yj zj yI;rw[<-hp];have hg:(ur l)[zq p.key l]?=(l[zq p.key l]?).map Pr.key:=by simp[ur]
 rw[hg];split
 .rename_i h;obtain⟨q,hq,hk⟩:=iy.1 h;obtain⟨ni,rfl⟩:=gn.1 hq;have e:l=l.take (zq p.key l)++l[zq p.key l]::l.drop (zq p.key l+1):=Z
  conv=>rhs;rw[e]
  grind
 simp[ur]
structure Sim(s:MS)(m:RM):Prop where
 vars:∀k,pb s.vars k=if tf m.vars k=true then some (pp m.vars k)else none
 own:∀k,pb s.own k=if qa s.puts k=true then some (pp m.own k)else none
 keys:ur m.own=s.puts
 out:m.out=s.out
 reads:m.reads=s.reads
 puts:m.puts=s.puts
 steps:m.steps=s.steps
 st:m.st=0
 code:m.code=0
 miss:m.miss=em
structure Dead(hI:Stop)(s:MS)(m:RM):Prop where
 reads:m.reads=s.reads
 puts:m.puts=s.puts
 steps:m.steps=s.steps
 out:m.out=[]
 st:m.st=hI.status
 code:m.code=hI.code
 miss:m.miss=hI.miss
 ne:hI.status≠0
theorem Sim.ab{s:MS}{m:RM}(h:Sim s m)(c:Int):Dead (ab c) s (m.ab c):=⟨h.reads,h.puts,h.steps,rfl,rfl,rfl,h.miss,by simp[Go.Cw.ab]⟩
theorem Sim.rst{s:MS}{m:RM}(h:Sim s m)(k:na):Dead (rst k) s (m.rst k):=⟨h.reads,h.puts,h.steps,rfl,rfl,rfl,rfl,by simp[Go.Cw.rst]⟩
def EvSim(x:EV×MS)(y:AV×RM):Prop:=match x.1 with
 | .ok v=>y.1=v/\Sim x.2 y.2
 | .error hI=>y.1=AV.nil/\Dead hI x.2 y.2
theorem EvSim.ok{v:AV}{s:MS}{m:RM}(h:Sim s m):EvSim (.ok v,s) (v,m):=⟨rfl,h⟩
theorem EvSim.ab{c:Int}{s:MS}{m:RM}(h:Sim s m):EvSim (.error (ab c),s) (AV.nil,m.ab c):=⟨rfl,h.ab c⟩
theorem ZF(l:List na)(k x:na):qa (zj l k) x=(decide (k=x)||qa l x):=by have h:∀a:Bool,∀P:Prop,(a=true↔P)->∀b:Bool,(b=true↔P)->a=b:=Z;refine h _ (x=k\/x∈l) (aD.trans CF) _ ?_;simp only[qis,jm,aD];grind
section
variable {C:Cfg}
section
variable{m:RM}{v:AV}
def WE{s:MS}(h:Sim s m)(k:na):EvSim (y4 C k s) (u7 C m k):=by
 unfold y4 u7;split
 .exact .ab h
 have ho:=h.own k;rw[h.puts];by_cases hp:qa s.puts k=true
 .rw[gh hp]at ho;rw[ho,gh hp];exact .ok h
 rw[gg hp]at ho;rw[ho,gg hp];simp only;split
 .exact⟨rfl,h.rst k⟩
 exact⟨rfl,⟨h.vars,h.own,h.keys,h.out,by simp only[h.reads],rfl,h.steps,h.st,h.code,h.miss⟩⟩
def Km(x:Except Stop Unit×MS)(m:RM):Prop:=match x.1 with
 | .ok _=>Sim x.2 m
 | .error hI=>Dead hI x.2 m
def VP{s:MS}(h:Sim s m)(k:na)(v:AV):Km (yl C k v s) (kN C m k v):=by
 unfold yl kN;split
 .exact h.ab _
 split
 .exact h.rst k
 refine⟨h.vars,λx=>?_,?_,h.out,h.reads,by simp only[h.puts],h.steps,h.st,h.code,h.miss⟩
 .simp only;rw[iO,(C7 _ _ _).2,ZF];by_cases hx:k=x
  .simp[hx]
  simp[hx,h.own x]
 simp only;rw[Zn,h.keys]
def Tv{s:MS}(h:Sim s m)(hl:s.out.length<=16)(v:AV):Km (bO v s) (qO m v):=by
 unfold bO qO;rw[h.out];by_cases hk:s.out.length=16
 .rw[gh hk,gh J];exact h.ab _
 rw[gg hk,gg J];exact⟨h.vars,h.own,h.keys,by simp only,h.reads,h.puts,h.steps,h.st,h.code,h.miss⟩
def qro{s:MS}(h:Sim s m)(hs:s.steps<=16384):Km (xx s) (xz m):=by
 unfold xx xz;have e:p9 (m.steps+1)=(s.steps+1:Nat):=by rw[h.steps,sK J J];simp
 rw[e];have Y:Sim { s with steps:=s.steps+1 } { m with steps:=((s.steps+1:Nat):Int) }:=⟨h.vars,h.own,h.keys,h.out,h.reads,h.puts,rfl,h.st,h.code,h.miss⟩
 by_cases hk:16384<s.steps+1
 .rw[gh hk,gh J];exact Y.ab 1008
 rw[gg hk,gg J];exact Y
theorem QP{s:MS}(h:Sim s m)(r:Int×Int):EvSim (yz r,s) (jC m r):=by
 unfold yz jC;by_cases L:r.2=0
 .rw[gh L,gg J,gg J];exact .ok h
 rw[gg L];by_cases h4:r.2=4
 .rw[gh h4,gh h4];exact .ab h
 rw[gg h4,gg h4,gh L];exact .ab h
theorem ZT(h:vu v)(hk:v.k=1):v.s=em:=by grind[vu,uT,dY]
theorem Ki(h:vu v)(hk:v.k=2):v.n=0/\(v.s.size:Int)<=64:=by
 have:=Kt h hk
 simp_all[gy,tv,vu,uT,dY]
theorem Xc(h:vu v)(hk:v.k=3):v.s=em/\(v.n=0\/v.n=1):=by grind[vu,uT]
theorem To(a b:AV):bM a b=true↔a.k=b.k/\a.n=b.n/\a.s=b.s:=by simp[bM]
theorem ql6{op c d:Int}(O:c<0↔d<0)(U:c=0↔d=0):gI op c=gI op d:=by unfold gI;have h3:0<c↔0<d:=J;grind
def qou{a b:AV}(ha:vu a)(hb:vu b)(hk:a.k=b.k)(h:a.k=1\/a.k=2\/a.k=3):(nP a b<0↔uH a b<0)/\(nP a b=0↔uH a b=0):=by grind[ZT,Ki,Xc,uZ,nP,uH,wQ,Dk,To]
def qoc{s:MS}(h:Sim s m){op:Int}{a b:AV}(ha:vu a)(hb:vu b)(p8:(4<=op/\op<=8)\/(10<=op/\op<=17)\/op=19):EvSim (zu op a b,s) (fP m op a b):=by
 unfold zu fP;by_cases O:op=4\/op=5\/op=6\/op=7\/op=8
 .rw[gh O,gh O];by_cases hk:a.k=1/\b.k=1
  .grind[fF,mQ,QP]
  rw[gg hk,gg hk];exact .ab h
 rw[gg O,gg O];by_cases U:op=16
 .rw[gh U,gh U];split
  .exact .ok h
  exact .ab h
 rw[gg U,gg U];by_cases h3:op=17
 .rw[gh h3,gh h3];split
  .exact .ok h
  exact .ab h
 rw[gg h3,gg h3];by_cases h4:op=19
 .rw[gh h4,gh h4];by_cases hk:a.k=2/\b.k=2
  .rw[gh hk,gh hk];unfold dR;have l1:=(Ki ha hk.1).2;have l2:=(Ki hb hk.2).2;have e:p9 (a.s.size+b.s.size:Int)=((a.s++b.s).size:Int):=by grind[qj1,sK]
   rw[e];split
   .exact .ab h
   exact .ok h
  rw[gg hk,gg hk];exact .ab h
 rw[gg h4,gg h4];unfold wR;by_cases hk:a.k=b.k/\(a.k=1\/a.k=2\/(a.k=3/\op<=11))
 .rw[gh hk,gh J];have hc:=qou ha hb hk.1 J;rw[ql6 hc.1 hc.2];exact .ok h
 rw[gg hk,gg J];exact .ab h
end
end
def xv:List Pr->List Pr->List Pr×Bool
 | [],b=>(b,false)
 |x::a,[]=>(x::a,false)
 |x::a,y::b=>if px x.key y.key=true then(x::(xv a (y::b)).1,(xv a (y::b)).2)else if px y.key x.key=true then(y::(xv (x::a) b).1,(xv (x::a) b).2)else((xv a b).1,true)
termination_by a b=>a.length+b.length
theorem Gg:∀(a b:List Pr),(∀q∈b,q.v.k≠0)->(xv a b).2=false->(xv a b).1=vt a b
 | [],[],_,_=>by rw[xv,vt]
 | [],y::b,hb,h=>by have ih:=Gg [] b (λq hq=>hb q fk) (by rw[xv]);rw[xv]at ih|-;rw[vt,<-ih];unfold vR;rw[gg (hb y Z)]
 |x::a,[],hb,h=>by
  rw[xv];have:∀l:List Pr,vt l []=l:=λl=>by
   induction l with
   |nil=>rw[vt]
   |cons p l ih=>rw[vt,ih]
  rw[this]
 |x::a,y::b,hb,h=>by
  rw[xv]at h|-;rw[vt];have hy:=hb y Z;split
  .rename_i O;rw[gh O]at h;simp only at h|-;rw[Gg a (y::b) hb h]
  rename_i O;rw[gg O]at h;split
  .rename_i U;rw[gh U]at h;simp only at h|-;rw[Gg (x::a) b (λq hq=>hb q fk) h];unfold vR;rw[gg hy]
  rename_i U;rw[gg U]at h;cases h
termination_by a b=>a.length+b.length
theorem Iz:∀(a b:List Pr),qg (ur a)->qg (ur b)->(xv a b).2=b.any λx=>tf a x.key
 | [],b,_,_=>by
  rw[xv]
  symm
  rw[List.any_eq_false];intro x hx;simp[tf,ut]
 |x::a,[],_,_=>by rw[xv];rfl
 |x::a,y::b,ha,hb=>by
  obtain⟨a1,a2⟩:=jy.1 ha;obtain⟨b1,b2⟩:=jy.1 hb;have qz:∀(k:na),px k x.key=true->tf (x::a) k=false:=λk hk=>Dc.2 λq hq=>by
   rcases iq.1 hq with rfl|hq
   .exact λe=>uI hk e.symm
   exact λe=>uI (uK hk (a1 q.key (ig.2 ⟨q,hq,rfl⟩))) e.symm
  have hgt:∀(k:na),px x.key k=true->tf (x::a) k=tf a k:=λk hk=>by unfold tf;rw[ut,show decide (x.key=k)=false by simpa using uI hk,qir]
  have hgts:∀l:List Pr,(∀q∈l,px x.key q.key=true)->(l.any λhI=>tf (x::a) hI.key)=l.any λhI=>tf a hI.key:=λl hl=>by
   induction l with
   |nil=>rfl
   |cons q l ih=>rw[qit,qit,hgt _ (hl q Z),ih λhI hz=>hl hI (by simp[hz])]
  have hby:∀q∈b,px y.key q.key=true:=λq hq=>b1 q.key (ig.2 ⟨q,hq,rfl⟩);rw[xv];split
  .rename_i O;simp only;rw[Iz a (y::b) a2 hb,hgts (y::b)];intro q hq;rcases iq.1 hq with rfl|hq
   .exact O
   exact uK O (hby q hq)
  split
  .rename_i O U;simp only;rw[Iz (x::a) b ha b2,qit,qz _ U,qir]
  rename_i O U;have e:=AD O U;rw[qit,show tf (x::a) y.key=true from rH.2 (by simp[e])];rfl
termination_by a b=>a.length+b.length
def nR(k:Nat):List V:=[I (k:Int)]
def lR(l:List Nat):List V:=[.slice (l.map nR)]
section
variable {fmt:Int->na} {nb:List Proc} {s:List Pr} {l:List Txn} {effs:List Eff} {done:List Bool}
def Z7{choices:List Int}{step n:Nat}:vV choices step n=if h:step<choices.length then(if choices[step]<0 then 0 else choices[step].toNat % n)else 0:=by grind[ii,lf,vV]
end
structure YJ(P:Program)(l:Nat)(HF:Nat->mz)(xs:List Int)(n0:Nat):Prop where
 len:∀j,(HF j).length=n0
 und:∀j,hUnder n0 (HF j)=true
 y:∀j (hj:j<xs.length) (h0:mz),AYield P l [I xs[j]] (HF j++h0) λr Y=>r=.ret (Bo true)/\Y=HF (j+1)++h0
theorem YJ.ext{P:Program}{l:Nat}{HF:Nat->mz}{xs:List Int}{n0:Nat}(h':YJ P l HF xs n0)(h0:mz)(hL:hUnder (n0+h0.length) h0=true):YJ P l (λk=>HF k++h0) xs (n0+h0.length) where
 len:=λk=>by rw[it,h'.len]
 und:=λk=>by rw[xh,aQ J (h'.und k),hL];rfl
 y:=λk hk L'=>by simpa[jf]using h'.y k hk (h0++L')
section
variable {P:Program} {E:Ent} {p:Nat} {rn body:Code}
def WG(E:Ent)(kE:Nat)(rb r0:AObj)(H':mz):AExit->List Deferred->Env->Prop
 | .normal,_,e=>e.h[kE]?=some rb/\Wk E ⟨[],e.h.set kE r0⟩ ⟨[],H'⟩
 |_,_,_=>False
def qlh{g:Operand}{gf:FuncId}{pk:List V}{hu:AExit->List Deferred->Env->Prop}{ds:List Deferred}{e:Env}(hg:e.get g=.fn (.func gf) [] pk)(hcaps:∀H,qu H pk=pk)
  (hN:Nat->mz) (xs:List Int) (n0:Nat) (hB:e.h=hN 0) (len:∀j,(hN j).length=n0) (und:∀j,hUnder n0 (hN j)=true)
  (tj:q9 n0 (slots E.N e)=true) (hp:p<E.N)
  (hit:∀(l:Nat) (h0:mz) (n1:Nat),YJ P l (λj=>hN j++h0) xs n1->ACalls P gf ([.fn (.yield l) [] []]++pk) (hN 0++h0) λr Y=>r=.ret (.tuple [])/\Y=hN xs.length++h0)
  (H9:∀(E':Ent) (l D j:Nat) (hj:j<xs.length) (h0:mz) (r0 rb rd:AObj),(∀m,n0<=m->r0.under m=true/\rb.under m=true/\rd.under m=true)->E'.N=E.N->E'.h=hN j++uj D::r0::h0->hUnder E'.h.length E'.h=true ->
   wv P E' (some l) rn (Ak (λds e1=>ds=[]/\e1.h[n0+1]?=some r0 /\
    wv P E' (some l) body (WG E' (n0+1) rb r0 (hN (j+1)++uj D::r0::h0)) [] ⟨e1.t,e1.h.set (n0+1) rb⟩) (λ_ _ _=>False)) [] ⟨(p,I xs[j])::jI 0 (slots E.N e),E'.h⟩)
  (hdone:∀(D:Nat) (o:AObj),hu .normal (mD D::ds) ⟨e.t,hN xs.length++[uj D,o]⟩) :
  wv P E none (.rangeFunc g #[p] rn body) hu ds e:=by
 refine PC hg λfn D l=>?_;have hL:∀st pe,hUnder (n0+2) [uj D,bA E e p rn body l D fn st pe]=true:=λst pe=>by simp only[hUnder,uj,bA,AObj.under,q9,jb,kg];exact pC J _ tj
 have xc:qu (e.h++[uj D,.raw l (bK .ready none fn #[p] rn body D) (slots E.N e)]) ([.fn (.yield l) [] []]++pk)=[.fn (.yield l) [] []]++pk:=by grind[qu,V.norm]
 rw[xc,hB];have h':YJ P l (λj=>hN j++[uj D,bA E e p rn body l D fn .ready none]) xs (n0+2):={
  len:=λj=>by simp[len]
  und:=λj=>by rw[xh,aQ J (und j),hL];rfl
  y:=λj hj h0=>by
   have hidx:(hN j++[uj D,bA E e p rn body l D fn .ready none]++h0)[n0+1]?=some (.raw l (bK .ready none fn #[p] rn body D) (slots E.N e)):=by rw[jf,gz W,len,show n0+1 - n0=1 by omega];rfl
   refine RY hidx qh1 λE' B hh Q rB _=>?_;have jB:E'.N=E.N:=qh1;have iE:E'.h=hN j++uj D::bA E e p rn body l D fn .ready none::h0:=W;have gV:∀st pe m,n0<=m->(bA E e p rn body l D fn st pe).under m=true:=λst pe m hm=>pC hm _ tj;have:=H9 E' l D j hj h0 _ (bA E e p rn body l D fn .busy none) (bA E e p rn body l D fn .done (some .ret)) (λm hm=>⟨gV _ _ m hm,gV _ _ m hm,gV _ _ m hm⟩) jB iE W;rw[iE]at this;rw[show hN j++[uj D,bA E e p rn body l D fn .ready none]++h0=hN j++uj D::bA E e p rn body l D fn .ready none::h0 by simp];refine FR this λx ds e1 hx=>?_;cases x with
   |normal =>
    obtain⟨O,U,h3⟩:=hx;refine⟨O,U,FR h3 λy ds2 e2 hy=>?_⟩;cases y with
    |normal =>
     obtain⟨k1,k2⟩:=hy;exact⟨k1,_,k2,rfl,by simp[bA]⟩
    |ret=>exact hy.elim
    |exit i=>exact hy.elim
    |panic v=>exact hy.elim
   |ret=>exact hx.elim
   |exit i=>exact hx.elim
   |panic v=>exact hx.elim }
 refine(hit l [uj D,bA E e p rn body l D fn .ready none] (n0+2) h').mono ?_;rintro r Y ⟨rfl,rfl⟩;refine⟨⟨_,rfl⟩,.ready,none,Z,?_,?_⟩
 .rw[gz W,len,len,show n0+1 - n0=1 by omega];rfl
 simp_all
end
def rS(b:Bool):List V:=[.val (.bool b)]
section
variable {fmt:Int->na}
section
variable{nb:List Proc}{l:List Txn}
def WI{s:List Pr}{n:Nat}(h:n<l.length):vp fmt nb s (l.take (n+1))=((vx fmt nb (vp fmt nb s (l.take n)).1 l[n]).1,(vp fmt nb s (l.take n)).2++[(vx fmt nb (vp fmt nb s (l.take n)).1 l[n]).2]):=by rw[jn h,CX]
def qri{s:List Pr}(hB:BatchIn fmt nb l)(hs:q8 s){t:Txn}(ht:t∈l):∀p,lB nb t=some p->RunIn fmt p t.args s:=λp hp=>⟨hB.fmt,hB.body p (HI hp).1,hB.args t ht,hs⟩
def Zu{s:List Pr}(hs:q8 s)(hB:BatchIn fmt nb l)(n:Nat)(h:n<=l.length):q8 (vp fmt nb s (l.take n)).1/\(vp fmt nb s (l.take n)).1.length<=s.length+64 * n/\(vp fmt nb s (l.take n)).2.length=n:=by have U:=Fq hs (l.take n) (hB.take n);have h3:=U.len;have h4:=U.cnt;rw[kc,lx h]at h3 h4;exact⟨U.rng,h3,h4⟩
end
end
theorem KB{α β:Type}(f:α×Nat->List β)(l:List α){n:Nat}(h:n<l.length):((l.take (n+1)).zipIdx).flatMap f=((l.take n).zipIdx).flatMap f++f (l[n],n):=by grind[kc,jn]
theorem MX{β:Type}(c:Nat->Bool)(g:Nat->β)(m:Nat):((List.range (m+1)).filter c).map g=((List.range m).filter c).map g++if c m=true then [g m]else []:=by grind[List.range_succ]
theorem FA{β:Type}(c:Nat->Bool)(g:Nat->β)(m:Nat):(((List.range m).filter c).map g).length<=m:=W
theorem Ln{α β:Type}(f:α×Nat->List β)(l:List α){h0:Nat}(hf:∀x,(f x).length<=h0):∀n,n<=l.length->(((l.take n).zipIdx).flatMap f).length<=n * h0
 | 0,_=>by simp
 |n+1,h=>by rw[KB f l J,it];have:=Ln f l hf n J;have:=hf (l[n],n);rw[kz];omega
section
variable (p:Plc) (A:List Txn) (σ:Sy)
def LP(x:Nd×Nat):List Act:=((List.range A.length).filter (lV p A x.1)).map (Act.send x.2)
def JA(x:Nd×Nat):List Act:=((List.range A.length).filter (mA p A x.1)).map (Act.exe x.2)
def sZ(n:Nat):List Act:=((σ.nds.take n).zipIdx).flatMap (LP p A)
def C1(n:Nat):List Act:=((σ.nds.take n).zipIdx).flatMap (JA p A)
def qF(n:Nat)(x:Nd)(m:Nat):List Act:=sZ p A σ n++((List.range m).filter (lV p A x)).map (Act.send n)
def sI(m:Nat):List Act:=vW p A σ++(List.range m).map Act.dlv
def tO(n:Nat):List Act:=vW p A σ++BI σ++C1 p A σ n
def qC(n:Nat)(x:Nd)(m:Nat):List Act:=tO p A σ n++((List.range m).filter (mA p A x)).map (Act.exe n)
variable {p A σ}
theorem qnq:sZ p A σ 0=[]:=rfl
theorem qsy(n:Nat)(x:Nd):qF p A σ n x 0=sZ p A σ n:=by simp[qF]
theorem Yk(n:Nat)(x:Nd)(m:Nat):qF p A σ n x (m+1)=qF p A σ n x m++if lV p A x m=true then [Act.send n m]else []:=by simp[MX,jf,qF]
theorem Yu{n:Nat}(h:n<σ.nds.length):sZ p A σ (n+1)=qF p A σ n σ.nds[n] A.length:=by unfold qF sZ;rw[KB _ _ h];rfl
theorem WL:sZ p A σ σ.nds.length=sI p A σ 0:=by simp[sZ,sI,vW,mj];rfl
theorem VN(m:Nat):sI p A σ (m+1)=sI p A σ m++[Act.dlv m]:=by simp[List.range_succ,jr,jf,sI]
theorem Yz:sI p A σ σ.tr.length=tO p A σ 0:=by simp[sI,tO,C1,BI]
theorem qm3(n:Nat)(x:Nd):qC p A σ n x 0=tO p A σ n:=by simp[qC]
theorem Ys(n:Nat)(x:Nd)(m:Nat):qC p A σ n x (m+1)=qC p A σ n x m++if mA p A x m=true then [Act.exe n m]else []:=by simp[MX,jf,qC]
theorem Ws{n:Nat}(h:n<σ.nds.length):tO p A σ (n+1)=qC p A σ n σ.nds[n] A.length:=by unfold qC tO C1;rw[KB _ _ h,<-jf];rfl
theorem qot:tO p A σ σ.nds.length=eB p A σ:=by simp[tO,C1,eB,Ev,mj];rfl
theorem Vw(x:Nd×Nat):(LP p A x).length<=A.length:=FA _ _ _
theorem qk8(x:Nd×Nat):(JA p A x).length<=A.length:=FA _ _ _
theorem IR{n:Nat}(h:n<=σ.nds.length):(sZ p A σ n).length<=n * A.length:=Ln _ _ Vw n h
theorem We{n:Nat}(h:n<σ.nds.length)(x:Nd){m:Nat}(hm:m<=A.length):(qF p A σ n x m).length<=σ.nds.length * A.length:=by have O:=IR (p:=p) (A:=A) (σ:=σ) (kb h);have U:=FA (lV p A x) (Act.send n) m;have h3:(n+1) * A.length<=σ.nds.length * A.length:=jl _ h;rw[kz]at h3;unfold qF;rw[it];omega
theorem NP:(vW p A σ).length<=σ.nds.length * A.length:=by
 have h:=IR (p:=p) (A:=A) (σ:=σ) (gj _);have e:sZ p A σ σ.nds.length=vW p A σ:=by simp[sZ,vW,mj];rfl
 rw[<-e];exact h
theorem Wt{m:Nat}(hm:m<=σ.tr.length):(sI p A σ m).length<=σ.nds.length * A.length+σ.tr.length:=by grind[it,ka,qj8,sI,NP]
theorem ql5{n:Nat}(h:n<σ.nds.length)(x:Nd){m:Nat}(hm:m<=A.length):(qC p A σ n x m).length<=2 * (σ.nds.length * A.length)+σ.tr.length:=by have L:=NP (p:=p) (A:=A) (σ:=σ);have O:=Ln (JA p A) σ.nds (h0:=A.length) qk8 n (kb h);have U:=FA (mA p A x) (Act.exe n) m;have h3:(n+1) * A.length<=σ.nds.length * A.length:=jl _ h;rw[kz]at h3;unfold qC tO C1 BI;simp only[it,ka,qj8]at *;omega
end
theorem Zf(t:Int)(T:LT):(uM t T).glob.length<=T.glob.length/\bE (uM t T).qs<=bE T.qs:=by refine⟨?_,MF t T.qs⟩;have:=Rf t T.glob;show(fL t T.glob).length<=_;omega
theorem QJ(T:LT)(t:Nat):(relS T t).glob.length<=T.glob.length/\bE (relS T t).qs<=bE T.qs:=by grind[relS,Zf]
def J2{T:LT}{N:Nat}{fs:Nat->Foot}{R:List Nat}(h:TabOk fs R T)(B:bE T.qs<=N):T.qs.length<=N/\∀x∈T.qs,x.reqs.length<=N :=
 ⟨jh (PG λq hq=>((h.mem q).1 hq).2) B,λx hx=>jh (PM hx) B⟩
section
variable {fmt:Int->na} {nb:List Proc} {p:Plc} {A:List Txn} {s:List Pr}
section
variable{s0:List Pr}{t:Txn}{l:List Mail}
def KO(hp:qw p=true)(n:Int):∀m,(zm p A n m).glob.length<=m/\bE (zm p A n m).qs<=128 * m
 | 0=>by simp[zm,bE]
 |m+1=>by
  obtain⟨O,U⟩:=KO hp n m;rw[zm];split
  .have h3:=qlc (Bx (A:=A) hp n m);grind[Rk,Nm]
  omega
def Ot(z:∀p',lB nb t=some p'->RunIn fmt p' t.args s0):(vx fmt nb s0 t).2.writes.length<=64:=by grind[bI,vx,FN]
def OW(hB:BatchIn fmt nb A)(ht:t∈A)(G:q8 s0){p':Proc}(h:lB nb t=some p'):RunIn fmt p' t.args s0 :=
 ⟨hB.fmt,hB.body p' (HI h).1,hB.args t ht,G⟩
def Wh{σ:Sy}(h':SyOk fmt nb p A s σ){nd:Nd}(th:nd∈σ.nds)(t:Nat):(aX t nd.node nd.inbox).length<=16:=by
 obtain⟨O,U⟩:=CA t nd.node nd.inbox [] qiz;have hM:=h'.mi nd th;have hm:∀m∈aX t nd.node nd.inbox,m∈nd.inbox/\m.txn=(t:Int)/\m.to=nd.node:=λm hm=>by
  rcases(U m).1 hm with h|⟨h,Y⟩
  .cases h
  simp_all[wN,gy]
 have sP:((aX t nd.node nd.inbox).map (·.frm)).Nodup:=by refine List.Pairwise.map _ (λa b sW=>?_) (List.Pairwise.and_mem.1 O);obtain⟨ha,hb,nv⟩:=sW;intro e;obtain⟨a1,a2,a3⟩:=hm a ha;obtain⟨b1,b2,b3⟩:=hm b hb;exact nv (O3 (hM a a1) (hM b b1) a2 b2 (a3.trans b3.symm) e)
 have:=ER _ (sh p (pc A t)) sP λy hy=>by obtain⟨m,hmm,rfl⟩:=ig.1 hy;obtain⟨a1,a2,a3⟩:=hm m hmm;obtain⟨t1,_,b2,b3,_⟩:=(hM m a1).ex;grind
 rw[ka]at this;exact jh this (Na p _)
def VH{t n:Int}{m:Mail}(h:m∈aX t n l):m∈l:=by
 rcases((CA t n l [] qiz).2 m).1 h with h|⟨h,_⟩
 .cases h
 exact h
def MI{h0:Nat}:∀(l qf:List Mail) (out:List Pr),(∀m∈l,m.prs.length<=h0)->(vQ qf l out).1.length<=out.length+l.length * h0
 | [],qf,out,_=>by simp[vQ]
 |m::l,qf,out,h=>by
  rw[vQ];have O:=h m Z;split
  .simp
  split
  .simp
  have U:=MI l (qf++[m]) (cC out m.prs).1 λx hx=>h x be;have h3:(cC out m.prs).1.length<=out.length+m.prs.length:=qhm;grind[jp,kz]
def ZH{t n:Int}{h0:Nat}(h:∀m∈aX t n l,m.prs.length<=h0):(cN t n l).1.length<=(aX t n l).length * h0:=by
 unfold cN;split
 .simp
 split
 .simp
 have:=MI (aX t n l) [] [] h;grind
structure BdOk(p:Plc)(A:List Txn)(P PA:Nat)(σ:Sy):Prop where
 tb:∀x∈σ.nds,x.tab.glob.length<=A.length/\bE x.tab.qs<=128 * A.length
 pr:∀x∈σ.nds,x.prs.length+64 * fJ p A x<=P
 ml:∀m∈σ.tr,m.prs.length<=P
 mi:∀x∈σ.nds,∀m∈x.inbox,m.prs.length<=P
 ib:∀x∈σ.nds,x.inbox.length+(σ.tr.length+16 * pN (σ.nds.map (bP p A)))<=PA
 tr:σ.tr.length+16 * pN (σ.nds.map (bP p A))<=PA
end
variable {P PA:Nat}
theorem qos(p:Plc)(prs:List Pr)(f:Foot):(pU p prs f).length<=prs.length:=by grind[pU,qjx]
def qmc(hp:qw p=true)(hB:BatchIn fmt nb A)(hs:q8 s)(L:ph s=true){σ:Sy}(h':SyOk fmt nb p A s σ)(D:BdOk p A P PA σ){a:Act}(ha:a∈eB p A σ):BdOk p A P PA (we fmt nb p A σ a):=by
 rcases Bn.1 ha with h|h|h
 .obtain⟨i,t,hi,ht,hc,rfl⟩:=Dz.1 h;obtain⟨c1,c2,c3⟩:=CS.1 hc;have hd:we fmt nb p A σ (.send i t)=⟨σ.nds.set i (wg p A σ.nds[i] t),σ.tr++fU p σ.nds[i].node σ.nds[i].prs t (pc A t),σ.efs⟩:=by
   exact Qdv
  rw[hd];have th:=ij hi;have N:=h'.nd _ th;have O:bP p A (wg p A σ.nds[i] t)+1=bP p A σ.nds[i]:=by exact Qdx
  have U:fJ p A (wg p A σ.nds[i] t)=fJ p A σ.nds[i]:=rfl;have h3:(fU p σ.nds[i].node σ.nds[i].prs t (pc A t)).length<=16:=by grind[ka,fU,Ir]
  have h4:∀m∈fU p σ.nds[i].node σ.nds[i].prs t (pc A t),m.prs.length<=σ.nds[i].prs.length:=λm hm=>by grind[fU,qos]
  have g1:=DJ (σ.nds.map (bP p A)) i (bP p A (wg p A σ.nds[i] t)) W;rw[List.getElem_map]at g1;have cB:∀x∈σ.nds.set i (wg p A σ.nds[i] t),x∈σ.nds\/x=wg p A σ.nds[i] t:=λx hx=>qkc hx;have sE:=D.pr _ th;have hti:=D.tb _ th;have hii:=D.ib _ th;refine { tb:=λx hx=>?_,pr:=λx hx=>?_,ml:=λm hm=>?_,mi:=λx hx m hm=>?_,ib:=λx hx=>?_,tr:=?_ }
  .rcases cB x hx with h|rfl
   .exact D.tb x h
   grind[wg,QJ]
  .rcases cB x hx with h|rfl
   .exact D.pr x h
   rw[U];exact sE
  .rcases jj.1 hm with hm|hm
   .exact D.ml m hm
   grind
  .rcases cB x hx with h|rfl
   .exact D.mi x h m hm
   exact D.mi _ th m hm
  .simp only[qiq,it];rcases cB x hx with h|rfl
   .have:=D.ib x h;omega
   show σ.nds[i].inbox.length+_<=_;omega
  grind[qiq,it]
 .obtain⟨i,hi,rfl⟩:=Do.1 h;have hd:we fmt nb p A σ (.dlv i)=⟨σ.nds.map (y5 σ.tr[i]),σ.tr.eraseIdx i,σ.efs⟩:=by
   exact Qdv
  rw[hd];have hmi:=D.ml _ (ij hi);obtain⟨m,hm⟩:∃m,m=σ.tr[i]:=⟨_,rfl⟩
  rw[<-hm]at hmi|-;have e1:(σ.nds.map (y5 m)).map (bP p A)=σ.nds.map (bP p A):=by simp[qio,bP,qi7,pH]
  have hpr:∀x,(y5 m x).prs=x.prs/\(y5 m x).tab=x.tab/\(y5 m x).inbox.length<=x.inbox.length+1:=λx=>by grind[y5]
  have hel:=List.length_eraseIdx_of_lt hi;refine { tb:=λx hx=>?_,pr:=λx hx=>?_,ml:=λm hm=>D.ml m (List.mem_of_mem_eraseIdx hm),mi:=λx hx hI hz=>?_,ib:=λx hx=>?_,tr:=?_ }
  .obtain⟨y,hy,rfl⟩:=ig.1 hx;rw[(hpr y).2.1];exact D.tb y hy
  .obtain⟨y,hy,rfl⟩:=ig.1 hx;obtain⟨a1,a2,a3,_⟩:=pH m y;rw[(hpr y).1,show fJ p A (y5 m y)=fJ p A y by simp only[fJ,a1,a3]];exact D.pr y hy
  .obtain⟨y,hy,rfl⟩:=ig.1 hx;rcases(pH m y).2.2.2.1 hI hz with h|⟨rfl,_⟩
   .exact D.mi y hy hI h
   exact hmi
  .obtain⟨y,hy,rfl⟩:=ig.1 hx;have O:=D.ib y hy;grind
  have:=D.tr;grind
 obtain⟨i,t,hi,ht,hc,rfl⟩:=EI.1 h;obtain⟨c1,c2,c3⟩:=B6.1 hc;have th:=ij hi;have BL:=(Kv hp hB hs L h' th ht c3).2.1;have aN:=Ot (fmt:=fmt) (nb:=nb) (t:=A[t]) λp' h=>OW hB (ij ht) BL h;obtain⟨e,hE⟩:∃e,e=(vx fmt nb (cN t σ.nds[i].node σ.nds[i].inbox).1 A[t]).2:=⟨_,rfl⟩
 have hd:we fmt nb p A σ (.exe i t)=⟨σ.nds.set i (yc fmt nb p σ.nds[i] t e),σ.tr,if (sj p (pc A t)).head?=some σ.nds[i].node then σ.efs.set t e else σ.efs⟩:=by simp only[we,ii hi,ii ht,hE];rfl
 rw[hd];rw[<-hE]at aN;have N:=h'.nd _ th;have O:fJ p A (yc fmt nb p σ.nds[i] t e)+1=fJ p A σ.nds[i]:=by exact Qdy
 have U:bP p A (yc fmt nb p σ.nds[i] t e)=bP p A σ.nds[i]:=rfl;have h3:(yc fmt nb p σ.nds[i] t e).prs.length<=σ.nds[i].prs.length+64:=by have h5:(wc p e.writes σ.nds[i].node).length<=e.writes.length:=qjx _ _;grind[yc,NU]
 have g1:=DJ (σ.nds.map (bP p A)) i (bP p A (yc fmt nb p σ.nds[i] t e)) W;rw[List.getElem_map]at g1;have cB:∀x∈σ.nds.set i (yc fmt nb p σ.nds[i] t e),x∈σ.nds\/x=yc fmt nb p σ.nds[i] t e:=λx hx=>qkc hx;have sE:=D.pr _ th;have hti:=D.tb _ th;have hii:=D.ib _ th;refine { tb:=λx hx=>?_,pr:=λx hx=>?_,ml:=D.ml,mi:=λx hx m hm=>?_,ib:=λx hx=>?_,tr:=?_ }
 .rcases cB x hx with h|rfl
  .exact D.tb x h
  have:=QJ σ.nds[i].tab t;exact⟨jh this.1 hti.1,jh this.2 hti.2⟩
 .rcases cB x hx with h|rfl
  .exact D.pr x h
  omega
 .rcases cB x hx with h|rfl
  .exact D.mi x h m hm
  exact D.mi _ th m hm
 .simp only[qiq];rcases cB x hx with h|rfl
  .have:=D.ib x h;omega
  show σ.nds[i].inbox.length+_<=_;omega
 grind[qiq]
def Ks(c:Nat->Bool)(n:Nat):((List.range n).filter c).length<=n:=W
def K7{N:Nat}:∀(l:List Nat),(∀x∈l,x<=N)->pN l<=l.length * N
 | [],_=>by simp[pN]
 |x::l,h=>by have O:=K7 l λy hy=>h y c0;have U:=h x Z;have:pN (x::l)=x+pN l:=rfl;grind[jp,kz]
def YT(hp:qw p=true){l:List Shard}(hl:l.length<=16){P0:Nat}(hP:∀x∈l,x.prs.length<=P0):BdOk p A (P0+64 * A.length) (256 * A.length) (cW p A l):=by
 have hs:pN ((cW p A l).nds.map (bP p A))<=16 * A.length:=by
  have O:=K7 (N:=A.length) ((cW p A l).nds.map (bP p A)) λy hy=>by obtain⟨x,_,rfl⟩:=ig.1 hy;exact Ks _ _
  rw[ka]at O;have U:(cW p A l).nds.length=l.length:=by simp[cW]
  rw[U]at O;exact jh O (jl _ hl)
 refine { tb:=λx hx=>?_,pr:=λx hx=>?_,ml:=λm hm=>gd,mi:=λx hx m hm=>?_,ib:=λx hx=>?_,tr:=?_ }
 .obtain⟨y,hy,rfl⟩:=ig.1 hx;exact KO hp y.node A.length
 .obtain⟨y,hy,rfl⟩:=ig.1 hx;have O:=hP y hy;have U:fJ p A (vU p A y)<=A.length:=Ks _ _;show y.prs.length+_<=_;omega
 .obtain⟨y,hy,rfl⟩:=ig.1 hx;cases hm
 .obtain⟨y,hy,rfl⟩:=ig.1 hx;show 0+(0+_)<=_;omega
 show 0+_<=_;omega
end
structure LsStep(fs:List Foot)(choices:List Int)(n j q:Nat):Prop where
 ne:0<(B5 fs (wB fs choices n)).length
 ch:vV choices n (B5 fs (wB fs choices n)).length=q
 lq:q<(B5 fs (wB fs choices n)).length
 get:(B5 fs (wB fs choices n))[q]?=some j
 lt:j<fs.length
 left:j∈qk4 fs.length (wB fs choices n)
 nxt:wB fs choices (n+1)=wB fs choices n++[j]
section
variable {fmt:Int->na} {nb:List Proc} {s:List Pr} {l:List Txn} {choices:List Int}
end
section
variable {C:Cfg}
theorem EvSim.okI{x:EV}{v w:AV}{s:MS}{m:RM}(h:Sim s m)(hx:x=.ok v)(hw:w=v):EvSim (x,s) (w,m):=by subst hx hw;exact⟨rfl,h⟩
theorem XI{s':MS}{m':RM}(h:Sim s' m')(op:Int)(v:AV)(p8:op=22\/op=23\/op=24) :
  EvSim (dO op v,s') (if op=24 then(vB (!decide (v.k=0)),m')else if v.k=0 then(⟨if op=23 then 2 else 1,0,em⟩,m')else if v.k≠(if op=23 then 2 else 1)then(AV.nil,m'.ab 1003)else(v,m')):=by
 rcases p8 with rfl|rfl|rfl
 .by_cases L:v.k=0
  .simp only[dO,L];exact .okI h rfl rfl
  by_cases O:v.k=1
  .simp only[dO,O];exact .okI h rfl rfl
  simp[dO,L,O];exact .ab h
 .by_cases L:v.k=0
  .simp only[dO,L];exact .okI h rfl rfl
  by_cases O:v.k=2
  .simp only[dO,O];exact .okI h rfl rfl
  simp[dO,L,O];exact .ab h
 simp only[dO];exact .okI h rfl rfl
theorem Uf{s:MS}{m:RM}(h:Sim s m){op:Int}{a:AV}(ha:vu a)(G:r6 a)(hf:∀n,i64 n->tv (C.fmt n)=true)(p8:op=9\/op=18\/op=20\/op=21\/op=22\/op=23\/op=24):EvSim (zt C op a s) (bR C m op a):=by
 have hfe:a.k=2->(op=22\/op=23\/op=24)->EvSim (zt C op a s) (bR C m op a):=by
  intro hk ho;have hf:=WE (C:=C) h a.s;have hw:xW op=2:=by rcases ho with rfl|rfl|rfl<;>rfl
  have e1:zt C op a s=match y4 C a.s s with
   |(.error hI,m')=>(.error hI,m')
   |(.ok v,m')=>(dO op v,m'):=by
   unfold zt;rw[gg J,gg J,gg J,gg J,gg fq];rfl
  have e2:bR C m op a=if (u7 C m a.s).2.st≠0 then(AV.nil,(u7 C m a.s).2)else if op=24 then(vB (!decide ((u7 C m a.s).1.k=0)),(u7 C m a.s).2)else if (u7 C m a.s).1.k=0 then(⟨if op=23 then 2 else 1,0,em⟩,(u7 C m a.s).2)else if (u7 C m a.s).1.k≠(if op=23 then 2 else 1)then(AV.nil,(u7 C m a.s).2.ab 1003)else((u7 C m a.s).1,(u7 C m a.s).2):=by grind[bR]
  rw[e1,e2];rcases hx:y4 C a.s s with⟨hI|v,s'⟩<;>rw[hx]at hf
  .have hf:(u7 C m a.s).1=AV.nil/\Dead hI s' (u7 C m a.s).2:=hf;rw[gh (by rw[hf.2.st];exact hf.2.ne)];exact⟨rfl,hf.2⟩
  have hf:(u7 C m a.s).1=v/\Sim s' (u7 C m a.s).2:=hf;rw[gg (by rw[hf.2.st];simp),hf.1];exact XI hf.2 op v ho
 rcases p8 with rfl|rfl|rfl|rfl|ho
 .grind[zt,bR,xW,QP,EvSim.ab]
 .grind[zt,bR,xW,EvSim.ok,EvSim.ab,vB]
 .by_cases hk:a.k=1
  .have hp:=hf _ G.1;unfold tv at hp;simp only[gy,jm]at hp;have ht:dR (C.fmt a.n)=.ok (vS (C.fmt a.n)):=by grind[dR]
   simpa[zt,bR,xW,hk,ht]using(EvSim.ok (v:=vS (C.fmt a.n)) h)
  grind[zt,bR,xW,EvSim.ab]
 .grind[zt,bR,xW,EvSim.ok,EvSim.ab,vI]
 by_cases hk:a.k=2
 .grind
 have e1:zt C op a s=(.error (ab 1009),s):=by unfold zt;rw[gg J,gg J,gg J,gg J,gh fq]
 have hw:xW op=2:=by rcases ho with rfl|rfl|rfl<;>rfl
 have e2:bR C m op a=(AV.nil,m.ab 1009):=by grind[bR]
 rw[e1,e2];exact .ab h
theorem WZ{s:MS}{m:RM}(h:Sim s m){op:Int}{l:List AV}(hl:∀v∈l,vu v)(G:∀v∈l,r6 v)(hf:∀n,i64 n->tv (C.fmt n)=true)(bJ:(l.length:Int)=uv op):EvSim (bG C op l s) (qB C m op l):=by
 match l with
 | []=>exact .ab h
 | [a] =>
  refine Uf h (hl a Z) (G a Z) hf ?_;unfold uv at bJ;simp at bJ;split at bJ
  .omega
  split at bJ
  .omega
  split at bJ
  .omega
  omega
 | [a,b] =>
  refine qoc h (hl a Z) (hl b Z) ?_;unfold uv at bJ;simp at bJ;split at bJ
  .omega
  split at bJ
  .omega
  split at bJ
  .omega
  omega
 |a::b::c::r=>exact .ab h
section
variable (hV:vC C) (hC:bU C)
include hV hC
mutual
theorem Rn:∀(e:Ex) (d:Nat) (s:MS) (m:RM),te e d=0->zb e->vM s->nF s->qg s.reads->Sim s m->EvSim (rp C e s) (pm C e m)
 | .mk op n x args,d,s,m,hc,hR,hM,G,ha,h=>by
  have bJ:=Ad hc;have dV:=(xM _).1 hR;simp only[Ex.args,Ex.op,Ex.n,Ex.s]at bJ dV;rw[te]at hc;by_cases hn:dA op n x args.length d=0
  .rw[gh hn]at hc;rw[rp,pm];by_cases O:op=1
   .rw[gh O,gh O];exact .ok h
   rw[gg O,gg O];by_cases U:op=2
   .rw[gh U,gh U];exact .ok h
   rw[gg U,gg U];by_cases h3:op=3
   .rw[gh h3,gh h3];have hv:=h.vars x;by_cases hp:tf m.vars x=true
    .rw[gh hp]at hv;rw[hv,gh hp];exact .ok h
    rw[gg hp]at hv;rw[hv,gg hp];exact .ab h
   rw[gg h3,gg h3];have hS:=Qt args (d+1) s m hc dV.2 hM G ha h;have hE:=E6 hC args s dV.2 G ha;rcases hL:uf C args s with⟨hI|l,s'⟩
   .rw[hL]at hS;have hS:Dead hI s' (cF C args m).2:=hS;simp only;rw[gh qhu];exact⟨rfl,hS⟩
   rw[hL]at hS hE;have hS:(cF C args m).1=l/\Sim s' (cF C args m).2:=hS;simp only;rw[gg (by rw[hS.2.st];simp),hS.1];have hl:=JH hV hC args (d+1) s s' l hc dV.2 hM G ha hL;exact WZ hS.2 hl (hE.2 l rfl) hV.fmt (by grind[DF])
  omega
theorem Qt:∀(l:List Ex) (d:Nat) (s:MS) (m:RM),dC l d=0->(∀x∈l,zb x)->vM s->nF s->qg s.reads->Sim s m ->
  (match (uf C l s).1 with
   | .ok r=>(cF C l m).1=r/\Sim (uf C l s).2 (cF C l m).2
   | .error hI=>Dead hI (uf C l s).2 (cF C l m).2)
 | [],d,s,m,_,_,_,_,_,h=>by rw[uf,cF];exact⟨rfl,h⟩
 |e::l,d,s,m,hc,hR,hM,G,ha,h=>by
  rw[dC]at hc;split at hc
  .rename_i L;have eH:=nI hC e s (hR e Z) G ha;have hS:=Rn e d s m L (hR e Z) hM G ha h;rw[uf,cF];rcases hE:rp C e s with⟨hI|v,s'⟩
   .rw[hE]at hS;have hS:(pm C e m).1=AV.nil/\Dead hI s' (pm C e m).2:=hS;simp only;rw[gh (by rw[hS.2.st];exact hS.2.ne)];exact hS.2
   rw[hE]at hS eH;have hS:(pm C e m).1=v/\Sim s' (pm C e m).2:=hS;simp only;rw[gg (by rw[hS.2.st];simp)];have hT:=Qt l d s' (pm C e m).2 hc (λx hx=>hR x be) (sO eH.1 hM) (eH.1.rng G) eH.1.asc hS.2;rcases hL:uf C l s' with⟨hI|r,s''⟩
   .grind
   grind
  omega
end
end
end
