/- Part 26 of a proof. -/
import Derived.Lib.ItoaLen
import Derived.Test.YtolejdhnnchfpaaGreatDoorQ25
set_option linter.all false
namespace Go.Cw
open Go Go.Abs
structure YJ(P:Program)(l:Nat)(HF:Nat->g9)(xs:List Int)(n0:Nat):Prop where
 len:∀j,(HF j).length=n0
 und:∀j,hUnder n0 (HF j)=true
 y:∀j (hj:j<xs.length) (L:g9),AYield P l [I xs[j]] (HF j++L) λr h'=>r=.ret (Bo true)/\h'=HF (j+1)++L
theorem YJ.ext{P:Program}{l:Nat}{HF:Nat->g9}{xs:List Int}{n0:Nat}(Y:YJ P l HF xs n0)(L:g9)(hL:hUnder (n0+L.length) L=true):YJ P l (λk=>HF k++L) xs (n0+L.length) where
 len:=λk=>by rw[c7,Y.len]
 und:=λk=>by rw[qx,uk aa (Y.und k),hL];rfl
 y:=λk hk L'=>by simpa[dn]using Y.y k hk (L++L')
section
variable {P:Program} {E:Ent} {p:Nat} {ll body:Code}
def xxc(E:Ent)(idx:Nat)(rb r0:AObj)(H':g9):AExit->List Deferred->Env->Prop
 | .normal,_,e=>e.h[idx]?=some rb/\Wk E ⟨[],e.h.set idx r0⟩ ⟨[],H'⟩
 |_,_,_=>False
theorem jc9{g:Operand}{gf:FuncId}{caps:List AV}{Q:AExit->List Deferred->Env->Prop}{ds:List Deferred}{e:Env}(hg:e.get g=.fn (.func gf) [] caps)(hcaps:∀H,ko H caps=caps)
  (B:Nat->g9) (xs:List Int) (n0:Nat) (hB:e.h=B 0) (len:∀j,(B j).length=n0) (und:∀j,hUnder n0 (B j)=true)
  (na:lj n0 (slots E.N e)=true) (hp:p<E.N)
  (hit:∀(l:Nat) (L:g9) (n1:Nat),YJ P l (λj=>B j++L) xs n1->ACalls P gf ([.fn (.yield l) [] []]++caps) (B 0++L) λr h'=>r=.ret (.tuple [])/\h'=B xs.length++L)
  (xgp:∀(E':Ent) (l D j:Nat) (hj:j<xs.length) (L:g9) (r0 rb rd:AObj),(∀m,n0<=m->r0.under m=true/\rb.under m=true/\rd.under m=true)->E'.N=E.N->E'.h=B j++nu D::r0::L->hUnder E'.h.length E'.h=true ->
   qf P E' (some l) ll (qu2 (λds e1=>ds=[]/\e1.h[n0+1]?=some r0 /\
    qf P E' (some l) body (xxc E' (n0+1) rb r0 (B (j+1)++nu D::r0::L)) [] ⟨e1.t,e1.h.set (n0+1) rb⟩) (λ_ _ _=>False)) [] ⟨(p,I xs[j])::qdl 0 (slots E.N e),E'.h⟩)
  (hdone:∀(D:Nat) (o:AObj),Q .normal (qmy D::ds) ⟨e.t,B xs.length++[nu D,o]⟩) :
  qf P E none (.rangeFunc g #[p] ll body) Q ds e:=by
 refine xnd hg λfn D l=>?_;have hL:∀st pe,hUnder (n0+2) [nu D,uh E e p ll body l D fn st pe]=true:=λst pe=>by
  simp only[hUnder,nu,uh,AObj.under,lj,dh,fa];exact qbz aa _ na
 have qm:ko (e.h++[nu D,.raw l (uu .ready none fn #[p] ll body D) (slots E.N e)]) ([.fn (.yield l) [] []]++caps)=[.fn (.yield l) [] []]++caps:=by grind[ko,AV.norm]
 rw[qm,hB];have Y:YJ P l (λj=>B j++[nu D,uh E e p ll body l D fn .ready none]) xs (n0+2):={
  len:=λj=>by simp[len]
  und:=λj=>by rw[qx,uk aa (und j),hL];rfl
  y:=λj hj L=>by
   have hidx:(B j++[nu D,uh E e p ll body l D fn .ready none]++L)[n0+1]?=some (.raw l (uu .ready none fn #[p] ll body D) (slots E.N e)):=by
    rw[dn,cx af,len,show n0+1 - n0=1 by omega];rfl
   refine xld hidx qid λE' hN hh hu hbd _=>?_;have hN':E'.N=E.N:=qid;have za:E'.h=B j++nu D::uh E e p ll body l D fn .ready none::L:=af;have zh:∀st pe m,n0<=m->(uh E e p ll body l D fn st pe).under m=true:=λst pe m hm=>qbz hm _ na;have:=xgp E' l D j hj L _ (uh E e p ll body l D fn .busy none) (uh E e p ll body l D fn .done (some .ret)) (λm hm=>⟨zh _ _ m hm,zh _ _ m hm,zh _ _ m hm⟩) hN' za af;rw[za]at this;rw[show B j++[nu D,uh E e p ll body l D fn .ready none]++L=B j++nu D::uh E e p ll body l D fn .ready none::L by simp];refine xci this λx ds e1 hx=>?_;cases x with
   |normal =>
    obtain⟨h1,h2,h3⟩:=hx;refine⟨h1,h2,xci h3 λy ds2 e2 hy=>?_⟩;cases y with
    |normal =>
     obtain⟨k1,k2⟩:=hy;exact⟨k1,_,k2,rfl,by simp[uh]⟩
    |ret=>exact hy.elim
    |exit i=>exact hy.elim
    |panic v=>exact hy.elim
   |ret=>exact hx.elim
   |exit i=>exact hx.elim
   |panic v=>exact hx.elim }
 refine(hit l [nu D,uh E e p ll body l D fn .ready none] (n0+2) Y).mono ?_;rintro r h' ⟨rfl,rfl⟩;refine⟨⟨_,rfl⟩,.ready,none,ac,?_,?_⟩
 .rw[cx af,len,len,show n0+1 - n0=1 by omega];rfl
 .simp_all
end
def qqf(b:Bool):List AV:=[.val (.bool b)]
section
variable {fmt:Int->ig}
end
theorem xgm{α β:Type}(f:α×Nat->List β)(l:List α){n:Nat}(h:n<l.length):((l.take (n+1)).zipIdx).flatMap f=((l.take n).zipIdx).flatMap f++f (l[n],n):=by grind[ey,ec]
theorem xms{β:Type}(c:Nat->Bool)(g:Nat->β)(m:Nat):((List.range (m+1)).filter c).map g=((List.range m).filter c).map g++if c m=true then [g m]else []:=by grind[List.range_succ]
theorem xfc{β:Type}(c:Nat->Bool)(g:Nat->β)(m:Nat):(((List.range m).filter c).map g).length<=m:=af
theorem xk7{α β:Type}(f:α×Nat->List β)(l:List α){L:Nat}(hf:∀x,(f x).length<=L):∀n,n<=l.length->(((l.take n).zipIdx).flatMap f).length<=n * L
 | 0,_=>by simp
 |n+1,h=>by
  rw[xgm f l aa,c7];have:=xk7 f l hf n aa;have:=hf (l[n],n);rw[ee];omega
section
variable (p:Plc) (txns:List Txn) (σ:Sy)
def xl5(x:Nd×Nat):List Act:=((List.range txns.length).filter (qll p txns x.1)).map (Act.send x.2)
def xh5(x:Nd×Nat):List Act:=((List.range txns.length).filter (qmx p txns x.1)).map (Act.exe x.2)
def qqt(n:Nat):List Act:=((σ.nds.take n).zipIdx).flatMap (xl5 p txns)
def xaq(n:Nat):List Act:=((σ.nds.take n).zipIdx).flatMap (xh5 p txns)
def qow(n:Nat)(x:Nd)(m:Nat):List Act:=qqt p txns σ n++((List.range m).filter (qll p txns x)).map (Act.send n)
def qpw(m:Nat):List Act:=qr9 p txns σ++(List.range m).map Act.dlv
def qrs(n:Nat):List Act:=qr9 p txns σ++qwh σ++xaq p txns σ n
def qo8(n:Nat)(x:Nd)(m:Nat):List Act:=qrs p txns σ n++((List.range m).filter (qmx p txns x)).map (Act.exe n)
variable {p txns σ}
theorem ji4:qqt p txns σ 0=[]:=rfl
theorem jg7(n:Nat)(x:Nd):qow p txns σ n x 0=qqt p txns σ n:=by simp[qow]
theorem xwo(n:Nat)(x:Nd)(m:Nat):qow p txns σ n x (m+1)=qow p txns σ n x m++if qll p txns x m=true then [Act.send n m]else []:=by simp[xms,dn,qow]
theorem jct{n:Nat}(h:n<σ.nds.length):qqt p txns σ (n+1)=qow p txns σ n σ.nds[n] txns.length:=by
 unfold qow qqt;rw[xgm _ _ h];rfl
theorem jdm:qqt p txns σ σ.nds.length=qpw p txns σ 0:=by
 simp[qqt,qpw,qr9,gw];rfl
theorem jca(m:Nat):qpw p txns σ (m+1)=qpw p txns σ m++[Act.dlv m]:=by simp[List.range_succ,eg,dn,qpw]
theorem jdt:qpw p txns σ σ.tr.length=qrs p txns σ 0:=by
 simp[qpw,qrs,xaq,qwh]
theorem xu6(n:Nat)(x:Nd):qo8 p txns σ n x 0=qrs p txns σ n:=by simp[qo8]
theorem jiz(n:Nat)(x:Nd)(m:Nat):qo8 p txns σ n x (m+1)=qo8 p txns σ n x m++if qmx p txns x m=true then [Act.exe n m]else []:=by simp[xms,dn,qo8]
theorem jc2{n:Nat}(h:n<σ.nds.length):qrs p txns σ (n+1)=qo8 p txns σ n σ.nds[n] txns.length:=by
 unfold qo8 qrs xaq;rw[xgm _ _ h,<-dn];rfl
theorem jkr:qrs p txns σ σ.nds.length=wc p txns σ:=by
 simp[qrs,xaq,wc,xag,gw];rfl
theorem xw7(x:Nd×Nat):(xl5 p txns x).length<=txns.length:=xfc _ _ _
theorem xus(x:Nd×Nat):(xh5 p txns x).length<=txns.length:=xfc _ _ _
theorem xkk{n:Nat}(h:n<=σ.nds.length):(qqt p txns σ n).length<=n * txns.length:=xk7 _ _ xw7 n h
theorem jdv{n:Nat}(h:n<σ.nds.length)(x:Nd){m:Nat}(hm:m<=txns.length):(qow p txns σ n x m).length<=σ.nds.length * txns.length:=by
 have h1:=xkk (p:=p) (txns:=txns) (σ:=σ) (ez h);have h2:=xfc (qll p txns x) (Act.send n) m;have h3:(n+1) * txns.length<=σ.nds.length * txns.length:=dx _ h;rw[ee]at h3;unfold qow;rw[c7];omega
theorem xl4:(qr9 p txns σ).length<=σ.nds.length * txns.length:=by
 have h:=xkk (p:=p) (txns:=txns) (σ:=σ) (cn _);have e:qqt p txns σ σ.nds.length=qr9 p txns σ:=by simp[qqt,qr9,gw];rfl
 rw[<-e];exact h
theorem jla{m:Nat}(hm:m<=σ.tr.length):(qpw p txns σ m).length<=σ.nds.length * txns.length+σ.tr.length:=by grind[c7,eo,qkh,qpw,xl4]
theorem jfz{n:Nat}(h:n<σ.nds.length)(x:Nd){m:Nat}(hm:m<=txns.length):(qo8 p txns σ n x m).length<=2 * (σ.nds.length * txns.length)+σ.tr.length:=by
 have h0:=xl4 (p:=p) (txns:=txns) (σ:=σ);have h1:=xk7 (xh5 p txns) σ.nds (L:=txns.length) xus n (ez h);have h2:=xfc (qmx p txns x) (Act.exe n) m;have h3:(n+1) * txns.length<=σ.nds.length * txns.length:=dx _ h;rw[ee]at h3;unfold qo8 qrs xaq qwh;simp only[c7,eo,qkh]at *;omega
end
theorem jak(t:Int)(T:LT):(qrr t T).glob.length<=T.glob.length/\qz (qrr t T).qs<=qz T.qs:=by
 refine⟨?_,xp8 t T.qs⟩;have:=xm9 t T.glob;show(yy t T.glob).length<=_;omega
theorem xqb(T:LT)(t:Nat):(relS T t).glob.length<=T.glob.length/\qz (relS T t).qs<=qz T.qs:=by grind[relS,jak]
theorem xky{T:LT}{N:Nat}{fs:Nat->Foot}{R:List Nat}(h:TabOk fs R T)(hN:qz T.qs<=N):T.qs.length<=N/\∀x∈T.qs,x.reqs.length<=N :=
 ⟨dv (xpj λq hq=>((h.mem q).1 hq).2) hN,λx hx=>dv (xtj hx) hN⟩
section
variable {fmt:Int->ig} {procs:List Proc} {p:Plc} {txns:List Txn} {s:List Pr}
theorem xio(hp:jy p=true)(n:Int):∀m,(rz p txns n m).glob.length<=m/\qz (rz p txns n m).qs<=128 * m
 | 0=>by simp[rz,qz]
 |m+1=>by
  obtain⟨h1,h2⟩:=xio hp n m;rw[rz];split
  .have h3:=xv2 (qxf (txns:=txns) hp n m);refine⟨az,?_⟩;show qz (qp7 m (vy p txns n m) (rz p txns n m).qs)<=_;rw[xuk,xln];omega
  .omega
theorem xtp{s0:List Pr}{t:Txn}(hI:∀p',qo7 procs t=some p'->RunIn fmt p' t.args s0):(ru fmt procs s0 t).2.writes.length<=64:=by grind[yj,ru,xf3]
theorem xlg(hB:BatchIn fmt procs txns){t:Txn}(ht:t∈txns){s0:List Pr}(hr:l6 s0){p':Proc}(h:qo7 procs t=some p'):RunIn fmt p' t.args s0 :=
 ⟨hB.fmt,hB.body p' (xjx h).1,hB.args t ht,hr⟩
theorem jao{σ:Sy}(Y:SyOk fmt procs p txns s σ){nd:Nd}(mw:nd∈σ.nds)(t:Nat):(uj t nd.node nd.inbox).length<=16:=by
 obtain⟨h1,h2⟩:=qyg t nd.node nd.inbox [] qjb;have hM:=Y.mi nd mw;have hm:∀m∈uj t nd.node nd.inbox,m∈nd.inbox/\m.txn=(t:Int)/\m.to=nd.node:=λm hm=>by
  rcases(h2 m).1 hm with h|⟨h,h'⟩
  .cases h
  .simp_all[qtc,cw]
 have hnd:((uj t nd.node nd.inbox).map (·.frm)).Nodup:=by
  refine List.Pairwise.map _ (λa b hab=>?_) (List.Pairwise.and_mem.1 h1);obtain⟨ha,hb,it⟩:=hab;intro e;obtain⟨a1,a2,a3⟩:=hm a ha;obtain⟨b1,b2,b3⟩:=hm b hb;exact it (xtt (hM a a1) (hM b b1) a2 b2 (a3.trans b3.symm) e)
 have:=qy8 _ (l9 p (jn txns t)) hnd λy hy=>by
  obtain⟨m,hmm,rfl⟩:=cy.1 hy;obtain⟨a1,a2,a3⟩:=hm m hmm;obtain⟨t1,_,b2,b3,_⟩:=(hM m a1).ex;obtain rfl:t1=t:=aa;exact b3
 rw[eo]at this;exact dv this (xt0 p _)
theorem xy5{t n:Int}{l:List Mail}{m:Mail}(h:m∈uj t n l):m∈l:=by
 rcases((qyg t n l [] qjb).2 m).1 h with h|⟨h,_⟩
 .cases h
 .exact h
theorem xtr{L:Nat}:∀(l pre:List Mail) (out:List Pr),(∀m∈l,m.prs.length<=L)->(qq5 pre l out).1.length<=out.length+l.length * L
 | [],pre,out,_=>by simp[qq5]
 |m::l,pre,out,h=>by
  rw[qq5];have h1:=h m ac;split
  .simp
  .split
   .simp
   .have h2:=xtr l (pre++[m]) (ws out m.prs).1 λx hx=>h x bu;have h3:(ws out m.prs).1.length<=out.length+m.prs.length:=by grind[ws,xfe]
    simp only[dy,ee];omega
theorem xzq{t n:Int}{l:List Mail}{L:Nat}(h:∀m∈uj t n l,m.prs.length<=L):(u3 t n l).1.length<=(uj t n l).length * L:=by
 unfold u3;split
 .simp
 .split
  .simp
  .have:=xtr (uj t n l) [] [] h;simpa using this
structure BdOk(p:Plc)(txns:List Txn)(P M:Nat)(σ:Sy):Prop where
 tb:∀x∈σ.nds,x.tab.glob.length<=txns.length/\qz x.tab.qs<=128 * txns.length
 pr:∀x∈σ.nds,x.prs.length+64 * u0 p txns x<=P
 ml:∀m∈σ.tr,m.prs.length<=P
 mi:∀x∈σ.nds,∀m∈x.inbox,m.prs.length<=P
 ib:∀x∈σ.nds,x.inbox.length+(σ.tr.length+16 * qor (σ.nds.map (sq p txns)))<=M
 tr:σ.tr.length+16 * qor (σ.nds.map (sq p txns))<=M
variable {P M:Nat}
theorem jhw(p:Plc)(prs:List Pr)(f:Foot):(qox p prs f).length<=prs.length:=by grind[qox,qjv]
theorem jhj(hp:jy p=true)(hB:BatchIn fmt procs txns)(hs:l6 s)(h0:jl s=true){σ:Sy}(Y:SyOk fmt procs p txns s σ)(D:BdOk p txns P M σ){a:Act}(ha:a∈wc p txns σ):BdOk p txns P M (p7 fmt procs p txns σ a):=by
 rcases qvu.1 ha with h|h|h
 .obtain⟨i,t,hi,ht,hc,rfl⟩:=xaf.1 h;obtain⟨c1,c2,c3⟩:=qxp.1 hc;have hd:p7 fmt procs p txns σ (.send i t)=⟨σ.nds.set i (pm p txns σ.nds[i] t),σ.tr++yl p σ.nds[i].node σ.nds[i].prs t (jn txns t),σ.efs⟩:=by
   simp only[p7,cu hi];rfl
  rw[hd];have mw:=dk hi;have N:=Y.nd _ mw;have h1:sq p txns (pm p txns σ.nds[i] t)+1=sq p txns σ.nds[i]:=by
   unfold sq;refine filter_one ht qg6 λu=>?_;show(p6 (l9 p (jn txns u)) σ.nds[i].node&&!(σ.nds[i].sent.set t true).getD u false)=_;rw[xfl qgm,gh]
  have h2:u0 p txns (pm p txns σ.nds[i] t)=u0 p txns σ.nds[i]:=rfl;have h3:(yl p σ.nds[i].node σ.nds[i].prs t (jn txns t)).length<=16:=by grind[eo,yl,xj9]
  have h4:∀m∈yl p σ.nds[i].node σ.nds[i].prs t (jn txns t),m.prs.length<=σ.nds[i].prs.length:=λm hm=>by grind[yl,jhw]
  have g1:=qw9 (σ.nds.map (sq p txns)) i (sq p txns (pm p txns σ.nds[i] t)) af;rw[List.getElem_map]at g1;have tz:∀x∈σ.nds.set i (pm p txns σ.nds[i] t),x∈σ.nds\/x=pm p txns σ.nds[i] t:=λx hx=>qkj hx;have hpi:=D.pr _ mw;have hti:=D.tb _ mw;have hii:=D.ib _ mw;refine { tb:=λx hx=>?_,pr:=λx hx=>?_,ml:=λm hm=>?_,mi:=λx hx m hm=>?_,ib:=λx hx=>?_,tr:=?_ }
  .rcases tz x hx with h|rfl
   .exact D.tb x h
   .grind[pm,xqb]
  .rcases tz x hx with h|rfl
   .exact D.pr x h
   .rw[h2];exact hpi
  .rcases dw.1 hm with hm|hm
   .exact D.ml m hm
   .grind
  .rcases tz x hx with h|rfl
   .exact D.mi x h m hm
   .exact D.mi _ mw m hm
  .simp only[qiz,c7];rcases tz x hx with h|rfl
   .have:=D.ib x h;omega
   .show σ.nds[i].inbox.length+_<=_;omega
  .grind[qiz,c7]
 .obtain⟨i,hi,rfl⟩:=qzl.1 h;have hd:p7 fmt procs p txns σ (.dlv i)=⟨σ.nds.map (r6 σ.tr[i]),σ.tr.eraseIdx i,σ.efs⟩:=by
   simp only[p7,cu hi];rfl
  rw[hd];have hmi:=D.ml _ (dk hi);obtain⟨m,hm⟩:∃m,m=σ.tr[i]:=⟨_,rfl⟩
  rw[<-hm]at hmi|-;have e1:(σ.nds.map (r6 m)).map (sq p txns)=σ.nds.map (sq p txns):=by simp[qi3,sq,qjr,qdk]
  have hpr:∀x,(r6 m x).prs=x.prs/\(r6 m x).tab=x.tab/\(r6 m x).inbox.length<=x.inbox.length+1:=λx=>by grind[r6]
  have hel:=List.length_eraseIdx_of_lt hi;refine { tb:=λx hx=>?_,pr:=λx hx=>?_,ml:=λm hm=>D.ml m (List.mem_of_mem_eraseIdx hm),mi:=λx hx z hz=>?_,ib:=λx hx=>?_,tr:=?_ }
  .obtain⟨y,hy,rfl⟩:=cy.1 hx;rw[(hpr y).2.1];exact D.tb y hy
  .obtain⟨y,hy,rfl⟩:=cy.1 hx;obtain⟨a1,a2,a3,_⟩:=qdk m y;rw[(hpr y).1,show u0 p txns (r6 m y)=u0 p txns y by simp only[u0,a1,a3]];exact D.pr y hy
  .obtain⟨y,hy,rfl⟩:=cy.1 hx;rcases(qdk m y).2.2.2.1 z hz with h|⟨rfl,_⟩
   .exact D.mi y hy z h
   .exact hmi
  .obtain⟨y,hy,rfl⟩:=cy.1 hx;have h1:=D.ib y hy;have h2:=(hpr y).2.2;simp only[e1,hel];omega
  .have:=D.tr;simp only[e1,hel];omega
 .obtain⟨i,t,hi,ht,hc,rfl⟩:=xa0.1 h;obtain⟨c1,c2,c3⟩:=qx4.1 hc;have mw:=dk hi;have qxc:=(xj3 hp hB hs h0 Y mw ht c3).2.1;have wy:=xtp (fmt:=fmt) (procs:=procs) (t:=txns[t]) λp' h=>xlg hB (dk ht) qxc h;obtain⟨e,hE⟩:∃e,e=(ru fmt procs (u3 t σ.nds[i].node σ.nds[i].inbox).1 txns[t]).2:=⟨_,rfl⟩
  have hd:p7 fmt procs p txns σ (.exe i t)=⟨σ.nds.set i (qj fmt procs p σ.nds[i] t e),σ.tr,if (ma p (jn txns t)).head?=some σ.nds[i].node then σ.efs.set t e else σ.efs⟩:=by
   simp only[p7,cu hi,cu ht,hE];rfl
  rw[hd];rw[<-hE]at wy;have N:=Y.nd _ mw;have h1:u0 p txns (qj fmt procs p σ.nds[i] t e)+1=u0 p txns σ.nds[i]:=by
   unfold u0;refine filter_one ht qg6 λu=>?_;show(p6 (ma p (jn txns u)) σ.nds[i].node&&!(σ.nds[i].exd.set t true).getD u false)=_;rw[xfl qgn,gh]
  have h2:sq p txns (qj fmt procs p σ.nds[i] t e)=sq p txns σ.nds[i]:=rfl;have h3:(qj fmt procs p σ.nds[i] t e).prs.length<=σ.nds[i].prs.length+64:=by
   have h5:(pq p e.writes σ.nds[i].node).length<=e.writes.length:=qjv _ _;have h6:=xfe σ.nds[i].prs (pq p e.writes σ.nds[i].node);unfold qj;simp only;split<;>omega
  have g1:=qw9 (σ.nds.map (sq p txns)) i (sq p txns (qj fmt procs p σ.nds[i] t e)) af;rw[List.getElem_map]at g1;have tz:∀x∈σ.nds.set i (qj fmt procs p σ.nds[i] t e),x∈σ.nds\/x=qj fmt procs p σ.nds[i] t e:=λx hx=>qkj hx;have hpi:=D.pr _ mw;have hti:=D.tb _ mw;have hii:=D.ib _ mw;refine { tb:=λx hx=>?_,pr:=λx hx=>?_,ml:=D.ml,mi:=λx hx m hm=>?_,ib:=λx hx=>?_,tr:=?_ }
  .rcases tz x hx with h|rfl
   .exact D.tb x h
   .have:=xqb σ.nds[i].tab t;exact⟨dv this.1 hti.1,dv this.2 hti.2⟩
  .rcases tz x hx with h|rfl
   .exact D.pr x h
   .omega
  .rcases tz x hx with h|rfl
   .exact D.mi x h m hm
   .exact D.mi _ mw m hm
  .simp only[qiz];rcases tz x hx with h|rfl
   .have:=D.ib x h;omega
   .show σ.nds[i].inbox.length+_<=_;omega
  .grind[qiz]
theorem xhk(c:Nat->Bool)(n:Nat):((List.range n).filter c).length<=n:=af
theorem xgz{N:Nat}:∀(l:List Nat),(∀x∈l,x<=N)->qor l<=l.length * N
 | [],_=>by simp[qor]
 |x::l,h=>by
  have h1:=xgz l λy hy=>h y ck;have h2:=h x ac;have:qor (x::l)=x+qor l:=rfl;rw[this,dy,ee];omega
theorem xxs(hp:jy p=true){l:List Shard}(hl:l.length<=16){P0:Nat}(hP:∀x∈l,x.prs.length<=P0):BdOk p txns (P0+64 * txns.length) (256 * txns.length) (vt p txns l):=by
 have hs:qor ((vt p txns l).nds.map (sq p txns))<=16 * txns.length:=by
  have h1:=xgz (N:=txns.length) ((vt p txns l).nds.map (sq p txns)) λy hy=>by
   obtain⟨x,_,rfl⟩:=cy.1 hy;exact xhk _ _
  rw[eo]at h1;have h2:(vt p txns l).nds.length=l.length:=by simp[vt]
  rw[h2]at h1;exact dv h1 (dx _ hl)
 refine { tb:=λx hx=>?_,pr:=λx hx=>?_,ml:=λm hm=>qip,mi:=λx hx m hm=>?_,ib:=λx hx=>?_,tr:=?_ }
 .obtain⟨y,hy,rfl⟩:=cy.1 hx;exact xio hp y.node txns.length
 .obtain⟨y,hy,rfl⟩:=cy.1 hx;have h1:=hP y hy;have h2:u0 p txns (qsv p txns y)<=txns.length:=xhk _ _;show y.prs.length+_<=_;omega
 .obtain⟨y,hy,rfl⟩:=cy.1 hx;cases hm
 .obtain⟨y,hy,rfl⟩:=cy.1 hx;show 0+(0+_)<=_;omega
 .show 0+_<=_;omega
end
structure LsStep(fs:List Foot)(choices:List Int)(n j q:Nat):Prop where
 ne:0<(qxz fs (qsn fs choices n)).length
 ch:qrh choices n (qxz fs (qsn fs choices n)).length=q
 lq:q<(qxz fs (qsn fs choices n)).length
 get:(qxz fs (qsn fs choices n))[q]?=some j
 lt:j<fs.length
 left:j∈jcs fs.length (qsn fs choices n)
 nxt:qsn fs choices (n+1)=qsn fs choices n++[j]
section
variable {fmt:Int->ig} {procs:List Proc} {s:List Pr} {l:List Txn} {choices:List Int}
end
section
variable {C:Cfg}
section
variable (hV:vC C) (hC:u5 C)
include hV hC
end
end
abbrev Vis:=List (ig×Int)
def subV(a b:Vis):Prop:=∀k ty,kz a k=some ty->kz b k=some ty
theorem subV.refl(a:Vis):subV a a:=λ_ _ h=>h
theorem subV.trans{a b c:Vis}(h:subV a b)(g:subV b c):subV a c:=λk ty e=>g k ty (h k ty e)
def pc{α:Type}(l:List (ig×α)):List ig:=l.map (·.1)
theorem qds{α:Type}:∀{l:List (ig×α)} {k:ig},kz l k=none↔k∉pc l
 | [],k=>by simp[kz,pc]
 |p::l,k=>by
  have ih:=qds (l:=l) (k:=k);simp only[kz,pc,dj,c0,not_or]at ih|-;by_cases h:p.1=k
  .simp[h]
  .grind
theorem qc1{α:Type}:∀(l:List (ig×α)) (k:ig) (v:α) (x:ig),x∈pc (lx l k v)↔x=k\/x∈pc l
 | [],k,v,x=>by simp[lx,pc]
 |p::l,k,v,x=>by
  have ih:=qc1 l k v x;rw[lx];split
  .grind[pc]
  .grind[pc]
theorem xoj{α:Type}:∀(l:List (ig×α)) (k:ig) (v:α),(pc l).Nodup->(pc (lx l k v)).Nodup
 | [],k,v,_=>by simp[lx,pc]
 |p::l,k,v,h=>by
  have h':p.1∉pc l/\(pc l).Nodup:=qiy.1 h;rw[lx];split
  .rename_i e;subst e;exact h
  .rename_i e;refine qiy.2 ⟨λhm=>?_,xoj l k v h'.2⟩;rcases(qc1 l k v _).1 hm with e'|hm
   .exact e e'
   .grind
theorem xc8{α:Type}:∀(l:List (ig×α)) (k:ig),(qog l k).Sublist l
 | [],_=>by simp[qog]
 |p::l,k=>by
  rw[qog];split
  .simp
  .simp[xc8]
theorem xll{α:Type}:∀{l:List (ig×α)} {k:ig} {v:α},(pc l).Nodup->(k,v)∈l->kz l k=some v
 |p::l,k,v,hd,h=>by
  have sn:p.1∉pc l/\(pc l).Nodup:=qiy.1 hd;rw[kz];rcases c0.1 h with rfl|h
  .simp
  .rw[if_neg]
   .exact xll sn.2 h
   .intro e;exact sn.1 (cy.2 ⟨(k,v),h,e.symm⟩)
structure TOk(ts:TS):Prop where
 nod:(pc ts.visible).Nodup
 sub:subV ts.visible ts.all
theorem TOk.del{ts:TS}(h:TOk ts)(k:ig):TOk ⟨qog ts.visible k,ts.loops,ts.all⟩:=⟨h.nod.sublist ((xc8 _ _).map _),λx ty e=>h.sub x ty (by
 have:=(xc8 ts.visible k).subset (qvz e);exact xll h.nod this)⟩
theorem TOk.dels(b:List (ig×Bool))(a:Vis):∀(l:List St) {vis:Vis},TOk ⟨vis,b,a⟩->TOk ⟨qph l vis,b,a⟩
 | [],vis,h=>h
 |t::l,vis,h=>by
  rw[qph];refine TOk.dels b a l ?_;split
  .exact h.del t.name
  .exact h
theorem TOk.set{ts:TS}(h:TOk ts)(k:ig)(ty:Int)(lp:List (ig×Bool)):TOk ⟨lx ts.visible k ty,lp,lx ts.all k ty⟩:=⟨xoj _ _ _ h.nod,λx u e=>by
 simp only at e|-;rw[qem]at e|-;split at e
 .grind
 .rename_i hk;rw[if_neg hk];exact h.sub x u e⟩
mutual
def nmS:St->List ig
 | .mk op name _ _ _ body els=>(if op=1\/op=6 then [name]else [])++(vo body++vo els)
def vo:List St->List ig
 | []=>[]
 |t::l=>nmS t++vo l
end
theorem xhh(t:St):nmS t=(if t.op=1\/t.op=6 then [t.name]else [])++(vo t.body++vo t.els):=by cases t;rw[nmS];rfl
structure TGo(ns:List ig)(ts ts':TS):Prop where
 ok:TOk ts'
 mono:subV ts.all ts'.all
 keys:∀k,k∈pc ts'.all->k∈pc ts.all\/k∈ns
theorem TGo.refl{ts:TS}(h:TOk ts)(ns:List ig):TGo ns ts ts:=⟨h,.refl _,λ_ h=>.inl h⟩
theorem TGo.mono'{ns ns':List ig}{ts ts':TS}(h:TGo ns ts ts')(hn:∀k∈ns,k∈ns'):TGo ns' ts ts':=⟨h.ok,h.mono,λk hk=>(h.keys k hk).imp id (hn k)⟩
theorem TGo.trans{a b:List ig}{s t u:TS}(h:TGo a s t)(g:TGo b t u):TGo (a++b) s u:=⟨g.ok,h.mono.trans g.mono,λk hk=>by
 rcases g.keys k hk with hk|hk
 .rcases h.keys k hk with hk|hk
  .grind
  .grind
 .exact .inr (by simp[hk])⟩
def fresh(ns:List ig)(ts:TS):Prop:=ns.Nodup/\∀k∈ns,k∉pc ts.all
theorem TGo.set{ts:TS}(h:TOk ts){k:ig}(hk:k∉pc ts.all)(ty:Int)(lp:List (ig×Bool)):TGo [k] ts ⟨lx ts.visible k ty,lp,lx ts.all k ty⟩:=⟨h.set k ty lp,λx u e=>by
 simp only;rw[qem];split
 .rename_i hx;subst hx;rw[qds.2 hk]at e;cases e
 .exact e,λx hx=>by
 rcases(qc1 _ _ _ _).1 hx with h|h
 .exact .inr bx
 .exact .inl h⟩
theorem fresh.left{a b:List ig}{ts:TS}(h:fresh (a++b) ts):fresh a ts:=⟨(qjm.1 h.1).1,λk hk=>h.2 k (by simp[hk])⟩
theorem fresh.right{a b:List ig}{ts ts':TS}(h:fresh (a++b) ts)(g:TGo a ts ts'):fresh b ts':=⟨(qjm.1 h.1).2.1,λk hk hm=>by
 rcases g.keys k hm with hm|hm
 .exact h.2 k (by simp[hk]) hm
 .exact(qjm.1 h.1).2.2 k hm k hk rfl⟩
theorem TGo.blk{ns:List ig}{l:List St}{f:TS->Int×TS}{ts:TS}(hf:(f ts).1=0->TGo ns ts (f ts).2)(h0:(xm l f ts).1=0):TGo ns ts (xm l f ts).2:=by
 unfold xm at h0|-;split at h0
 .omega
 .rename_i h;rw[if_neg h];have g:=hf aa;exact⟨TOk.dels _ _ l (vis:=(f ts).2.visible) g.ok,g.mono,g.keys⟩
theorem xxg(t:St)(B E:TS->Int×TS)(ts:TS)(h:TOk ts)(hf:fresh (nmS t) ts)
  (hB:∀ts,TOk ts->fresh (vo t.body) ts->(B ts).1=0->TGo (vo t.body) ts (B ts).2)
  (hE:∀ts,TOk ts->fresh (vo t.els) ts->(E ts).1=0->TGo (vo t.els) ts (E ts).2)
  (h0:(qwc t B E ts).1=0):TGo (nmS t) ts (qwc t B E ts).2:=by
 rw[xhh]at hf|-;unfold qwc at h0|-;by_cases he:(uf ts.visible t).2.2≠0
 .grind
 rw[if_neg he]at h0|-;by_cases h1:t.op=1
 .rw[if_pos h1]at h0|-;rw[if_pos (.inl h1)]at hf|-;exact(TGo.set h (hf.2 t.name ac) _ _).mono' (λk hk=>by simp at hk;simp[hk])
 rw[if_neg h1]at h0|-;by_cases h2:t.op=2
 .rw[if_pos h2];rcases kz ts.visible t.name with _|ty
  .exact .refl h _
  .exact .refl h _
 rw[if_neg h2]at h0|-;by_cases h3:t.op=3
 .rw[if_pos h3];exact .refl h _
 rw[if_neg h3]at h0|-;by_cases h4:t.op=4
 .rw[if_pos h4];exact .refl h _
 rw[if_neg h4]at h0|-;by_cases h7:t.op=7
 .rw[if_pos h7];exact .refl h _
 rw[if_neg h7]at h0|-;by_cases h5:t.op=5
 .rw[if_pos h5]at h0|-;by_cases h6:(uf ts.visible t).1≠3
  .grind
  rw[if_neg h6]at h0|-;by_cases h8:(xm t.body B ts).1≠0
  .grind
  rw[if_neg h8]at h0|-;rw[if_neg aa,ff]at hf|-;have g1:=TGo.blk (l:=t.body) (λg=>hB ts h hf.left g) aa;have g2:=TGo.blk (l:=t.els) (λg=>hE _ g1.ok (hf.right g1) g) h0;exact g1.trans g2
 rw[if_neg h5]at h0|-;by_cases h6:t.op=6
 .rw[if_pos h6]at h0|-;by_cases h8:(uf ts.visible t).1≠1\/(uf ts.visible t).2.1≠1
  .grind
  rw[if_neg h8]at h0|-;rw[if_pos (.inr h6)]at hf|-;have g0:=TGo.set h (hf.2 t.name ac) 1 (lx ts.loops t.name true);have g1:=TGo.blk (l:=t.body) (λg=>hB _ g0.ok (hf.right g0).left g) h0;have g2:=g0.trans g1;exact⟨g1.ok.del t.name,g2.mono,λk hk=>by
   rcases g2.keys k hk with hk|hk
   .grind
   .refine .inr ?_;simp only[dw]at hk|-;rcases hk with hk|hk
    .exact .inl hk
    .exact .inr (.inl hk)⟩
 .rw[if_neg h6];exact .refl h _
mutual
theorem xtc:∀(t:St) (ts:TS),TOk ts->fresh (nmS t) ts->(stT t ts).1=0->TGo (nmS t) ts (stT t ts).2
 | .mk op name mx a b body els,ts,h,hf,h0=>by
  rw[xjv]at h0|-;exact xxg (.mk op name mx a b body els) _ _ ts h hf (λts=>qtm body ts) (λts=>qtm els ts) h0
theorem qtm:∀(l:List St) (ts:TS),TOk ts->fresh (vo l) ts->(ui l ts).1=0->TGo (vo l) ts (ui l ts).2
 | [],ts,h,hf,h0=>by rw[ui];exact .refl h _
 |t::l,ts,h,hf,h0=>by
  rw[ui]at h0|-;rw[vo]at hf|-;split at h0
  .omega
  rename_i he;rw[if_neg he];have g1:=xtc t ts h hf.left aa;exact g1.trans (qtm l _ g1.ok (hf.right g1) h0)
end
def tyS(G:Vis)(s:MS):Prop:=∀k v ty,kz s.vars k=some v->kz G k=some ty->v.k=ty
def qd(op:Int):Int:=if 10<=op/\op<=15 then 3 else(r5 op).2
section
variable {C:Cfg}
end
section
variable (C:Cfg)
end
structure Pre(G:Vis)(r p:Nat)(s:MS)(m:RM):Prop where
 inv:Inv r p s
 vm:vM s
 ty:tyS G s
 sim:Sim s m
theorem Sim.set{s:MS}{m:RM}(h:Sim s m)(k:ig)(v:V):Sim { s with vars:=lx s.vars k v } { m with vars:=qou m.vars ⟨k,v⟩ }:=⟨λx=>by
 simp only;rw[qem,(xsd _ _ _).1,(xsd _ _ _).2];by_cases hx:k=x
 .simp[hx]
 .simp[hx,h.vars x],h.own,h.keys,h.out,h.reads,h.puts,h.steps,h.st,h.code,h.miss⟩
section
variable {C:Cfg} (hV:vC C) (hC:u5 C)
include hV hC
end
theorem Pre.mono{G:Vis}{r p r' p':Nat}{s:MS}{m:RM}(h:Pre G r p s m)(h1:r'<=r)(h2:p'<=p):Pre G r' p' s m:=⟨h.inv.mono h1 h2,h.vm,h.ty,h.sim⟩
section
variable {C:Cfg} (hV:vC C) (hC:u5 C) {G:Vis}
include hV hC
end
section
variable {σ τ:Type} (fS:σ->St->Nat->σ) (fR:σ->Ex->σ) (gS:τ->St->Nat->τ) (gR:τ->Ex->τ)
end
abbrev Ex.z:Ex:=.mk 0 0 em []
abbrev St.z:St:=.mk 0 em 0 Ex.z Ex.z [] []
structure Vt where
 isS:Bool
 t:St
 d:Nat
 e:Ex
 root:Bool
def Vt.c(v:Vt):List AV:=[Bo v.isS,I v.t.op,S v.t.name,I v.t.max,I v.t.a.op,I v.t.a.n,S v.t.a.s,.slice (v.t.a.args.map Ex.c),I v.t.b.op,I v.t.b.n,S v.t.b.s,.slice (v.t.b.args.map Ex.c),.slice (v.t.body.map St.c),.slice (v.t.els.map St.c),I v.d,I v.e.op,I v.e.n,S v.e.s,.slice (v.e.args.map Ex.c),Bo v.root]
def Vt.ofS(t:St)(d:Nat):Vt:=⟨true,t,d,Ex.z,false⟩
def Vt.ofE(e:Ex)(r:Bool):Vt:=⟨false,St.z,0,e,r⟩
mutual
def wkE:Ex->Bool->List Vt->List Vt
 | .mk op n s args,r,out=>if 400<out.length then out else xos args (out++[Vt.ofE (.mk op n s args) r])
def xos:List Ex->List Vt->List Vt
 | [],out=>out
 |e::l,out=>if out.length<=400 then xos l (wkE e false out)else out
end
def wkF(e:Ex)(out:List Vt):List Vt:=if qyc e=true then out else wkE e true out
mutual
def wkS:St->Nat->List Vt->List Vt
 | .mk _ _ _ a b body els,d,out=>wkB els (d+1) (wkB body (d+1) (wkF b (wkF a out)))
def wkB:List St->Nat->List Vt->List Vt
 | [],_,out=>out
 |t::l,d,out=>if out.length<=400 then wkB l d (wkS t d (out++[Vt.ofS t d]))else out
end
section
variable {σ:Type} (fS:σ->St->Nat->σ) (fR:σ->Ex->σ)
end
theorem xiu{α:Type}:∀(l:List (ig×α)) (k n:ig) (v:α),kz (l++[(n,v)]) k=match kz l k with|some x=>some x|none=>if n=k then some v else none
 | [],k,n,v=>by simp[kz]
 |p::l,k,n,v=>by
  simp only[qix,kz];split
  .rfl
  .simp[xiu]
structure TR(ts:TS)(vars:Vis)(loops:List ig):Prop where
 vis:∀k,kz ts.visible k=kz vars k
 lp:∀k,k∈pc vars->(kz ts.loops k=some true↔k∈loops)
 lin:∀k∈loops,k∈pc ts.all
 lk:∀k v,kz ts.loops k=some v->k∈pc ts.all
 ty:∀k v,kz vars k=some v->1<=v/\v<=3
theorem TR.keys{ts:TS}{vars:Vis}{loops:List ig}(h:TR ts vars loops)(hT:TOk ts){k:ig}(hk:k∉pc ts.all):k∉pc vars:=λhm=>by
 rcases hx:kz vars k with _|v
 .grind[qds]
 .rw[<-h.vis]at hx;have:=hT.sub _ _ hx;rw[qds.2 hk]at this;cases this
theorem xn4{α:Type}(l:List (ig×α))(k:ig)(v:α)(x:ig):x∈pc (l++[(k,v)])↔x∈pc l\/x=k:=by
 simp[pc]
theorem TR.decl{ts:TS}{vars:Vis}{loops:List ig}(h:TR ts vars loops)(hT:TOk ts){k:ig}(hk:k∉pc ts.all){ty:Int}(h1:1<=ty)(h2:ty<=3):TR (ts.decl k ty) (vars++[(k,ty)]) loops:=by
 have hv:=h.keys hT hk;refine⟨λx=>?_,λx hx=>?_,λx hx=>(qc1 _ _ _ _).2 (.inr (h.lin x hx)),λx v hx=>(qc1 _ _ _ _).2 (.inr (h.lk x v hx)),λx v hx=>?_⟩
 .simp only[TS.decl];rw[qem,xiu,h.vis];by_cases e:k=x
  .subst e;rw[if_pos rfl,qds.2 hv,if_pos rfl]
  .grind
 .rcases(xn4 _ _ _ _).1 hx with hx|rfl
  .exact h.lp x hx
  .simp only[TS.decl];constructor
   .intro hl;exact(hk (h.lk _ _ hl)).elim
   .intro hl;exact(hk (h.lin _ hl)).elim
 .rw[xiu]at hx;rcases hg:kz vars x with _|w
  .grind
  .rw[hg]at hx;cases hx;exact h.ty x _ hg
theorem TR.loop{ts:TS}{vars:Vis}{loops:List ig}(h:TR ts vars loops)(hT:TOk ts){k:ig}(hk:k∉pc ts.all):TR ⟨lx ts.visible k 1,lx ts.loops k true,lx ts.all k 1⟩ (vars++[(k,1)]) (loops++[k]):=by
 have hd:=h.decl hT hk (ty:=1) ba ba;refine⟨hd.vis,λx hx=>?_,λx hx=>?_,λx v hx=>?_,hd.ty⟩
 .simp only;rw[qem];by_cases e:k=x
  .grind
  .rw[if_neg e,dw,ep];rcases(xn4 _ _ _ _).1 hx with hx|rfl
   .rw[h.lp x hx];exact⟨.inl,λg=>g.elim id λg=>(e g.symm).elim⟩
   .grind
 .rw[dw,ep]at hx;rcases hx with hx|rfl
  .exact(qc1 _ _ _ _).2 (.inr (h.lin x hx))
  .simp[qc1]
 .simp only at hx;rw[qem]at hx;split at hx
  .grind[qc1]
  .exact(qc1 _ _ _ _).2 (.inr (h.lk x v hx))
def qni:List St->List ig
 | []=>[]
 |t::l=>if t.op=1 then t.name::qni l else qni l
theorem xgu:∀(l:List St) (k:ig),k∈qni l->k∈vo l
 | [],k,h=>by cases h
 |t::l,k,h=>by
  rw[vo,xhh];rw[qni]at h;split at h
  .rename_i h1;rw[if_pos (.inl h1)];rcases c0.1 h with rfl|h
   .simp
   .simp_all[xgu]
  .simp_all[xgu]
theorem xjs{α:Type}:∀(l:List (ig×α)) (n k:ig),(pc l).Nodup->kz (qog l n) k=if n=k then none else kz l k
 | [],n,k,_=>by simp[qog,kz]
 |p::l,n,k,h=>by
  have h':p.1∉pc l/\(pc l).Nodup:=qiy.1 h;rw[qog];by_cases e:p.1=n
  .rw[if_pos e];by_cases e2:n=k
   .grind[qds]
   .rw[if_neg e2,kz,if_neg af]
  .rw[if_neg e,kz,kz,xjs l n k h'.2];by_cases e2:n=k
   .grind
   .grind
theorem xj6:∀(l:List St) (vis:Vis) (k:ig),(pc vis).Nodup->kz (qph l vis) k=if l8 (qni l) k=true then none else kz vis k
 | [],vis,k,_=>by simp[qph,qni,l8,si]
 |t::l,vis,k,h=>by
  rw[qph,qni];split
  .rename_i h1;rw[xj6 l _ k (h.sublist ((xc8 _ _).map _)),xjs _ _ _ h];have hc:l8 (t.name::qni l) k=(decide (t.name=k)||l8 (qni l) k):=rfl;rw[hc];by_cases e:l8 (qni l) k=true
   .simp[e]
   .grind
  .simp_all[xj6]
structure SV(ns ls:List ig)(ts ts':TS):Prop where
 vis:∀k,k∉ls->kz ts'.visible k=kz ts.visible k
 lp:∀k,k∉ns->kz ts'.loops k=kz ts.loops k
 lk:(∀k v,kz ts.loops k=some v->k∈pc ts.all)->∀k v,kz ts'.loops k=some v->k∈pc ts'.all
theorem SV.refl(ns ls:List ig)(ts:TS):SV ns ls ts ts:=⟨λ_ _=>rfl,λ_ _=>rfl,id⟩
theorem SV.blk{l:List St}{f:TS->Int×TS}{ts:TS}(hT:TOk ts)(hf:fresh (vo l) ts)(hg:TGo (vo l) ts (f ts).2)(hs:SV (vo l) (qni l) ts (f ts).2)(h0:(f ts).1=0):SV (vo l) [] ts (xm l f ts).2:=by
 unfold xm;rw[if_neg cj];refine⟨λk _=>?_,hs.lp,hs.lk⟩;simp only;rw[xj6 _ _ _ hg.ok.nod];by_cases e:l8 (qni l) k=true
 .rw[if_pos e];have hn:=hf.2 k (xgu l k (wm.1 e));rcases hx:kz ts.visible k with _|v
  .rfl
  .have:=hT.sub _ _ hx;rw[qds.2 hn]at this;cases this
 .rw[if_neg e];exact hs.vis k (λg=>e (wm.2 g))
theorem xha{l:List St}{f:TS->Int×TS}{ts:TS}(h:(xm l f ts).1=0):(f ts).1=0:=by grind[xm]
mutual
theorem ji3:∀(t:St) (ts:TS),TOk ts->fresh (nmS t) ts->(stT t ts).1=0->SV (nmS t) (if t.op=1 then [t.name]else []) ts (stT t ts).2
 | .mk op name mx a b body els,ts,hT,hf,h0=>by
  obtain⟨t,ht⟩:∃t:St,t=.mk op name mx a b body els:=⟨_,rfl⟩
  have vx:t.body=body:=by rw[ht];rfl
  have qpn:t.els=els:=by rw[ht];rfl
  rw[<-ht]at h0 hf|-;rw[xhh]at hf|-;rw[xjv]at h0|-;unfold qwc at h0|-;by_cases he:(uf ts.visible t).2.2≠0
  .grind
  rw[if_neg he]at h0|-;by_cases h1:t.op=1
  .rw[if_pos h1]at h0|-;rw[if_pos h1];refine⟨λk hk=>?_,λk hk=>rfl,λg k v hv=>(qc1 _ _ _ _).2 (.inr (g k v hv))⟩;simp only[TS.decl];rw[qem,if_neg (λe=>hk (by simp[e]))]
  rw[if_neg h1]at h0|-;rw[if_neg h1];by_cases h2:t.op=2
  .rw[if_pos h2];rcases kz ts.visible t.name with _|ty
   .exact .refl _ _ _
   .exact .refl _ _ _
  rw[if_neg h2]at h0|-;by_cases h3:t.op=3
  .rw[if_pos h3];exact .refl _ _ _
  rw[if_neg h3]at h0|-;by_cases h4:t.op=4
  .rw[if_pos h4];exact .refl _ _ _
  rw[if_neg h4]at h0|-;by_cases h7:t.op=7
  .rw[if_pos h7];exact .refl _ _ _
  rw[if_neg h7]at h0|-;by_cases h5:t.op=5
  .rw[if_pos h5]at h0|-;by_cases h6:(uf ts.visible t).1≠3
   .grind
   rw[if_neg h6]at h0|-;by_cases h8:(xm t.body (ui t.body) ts).1≠0
   .grind
   rw[if_neg h8]at h0|-;rw[if_neg aa,ff]at hf|-;have z1:=xha (by simpa using h8);have z2:=xha h0;have g1:=TGo.blk (l:=t.body) (f:=ui t.body) (λg=>qtm t.body ts hT hf.left g) aa;have hf2:=hf.right g1;have s1:=SV.blk hT hf.left (qtm t.body ts hT hf.left z1) (by rw[vx]at hf z1|-;exact xb7 body ts hT hf.left z1) z1;have s2:=SV.blk g1.ok hf2 (qtm t.els _ g1.ok hf2 z2) (by rw[qpn]at hf2 z2|-;exact xb7 els _ g1.ok hf2 z2) z2;refine⟨λk hk=>(s2.vis k hk).trans (s1.vis k hk),λk hk=>?_,λg=>s2.lk (s1.lk g)⟩;simp only[dw,not_or]at hk;exact(s2.lp k hk.2).trans (s1.lp k hk.1)
  rw[if_neg h5]at h0|-;by_cases h6:t.op=6
  .rw[if_pos h6]at h0|-;by_cases h8:(uf ts.visible t).1≠1\/(uf ts.visible t).2.1≠1
   .grind
   rw[if_neg h8]at h0|-;rw[if_pos (.inr h6)]at hf|-;have g0:=TGo.set hT (hf.2 t.name ac) 1 (lx ts.loops t.name true);have hfb:=(hf.right g0).left;have z1:=xha h0;have g1:=qtm t.body _ g0.ok hfb z1;have s1:=SV.blk g0.ok hfb g1 (by rw[vx]at hfb z1|-;exact xb7 body _ g0.ok hfb z1) z1;have vk:=TGo.blk (l:=t.body) (f:=ui t.body) (λg=>qtm t.body _ g0.ok hfb g) h0;refine⟨λk _=>?_,λk hk=>?_,λg=>?_⟩
   .simp only;rw[xjs _ _ _ vk.ok.nod];by_cases e:t.name=k
    .rw[if_pos e];have hn:=hf.2 t.name ac;rcases hx:kz ts.visible k with _|v
     .rfl
     .have:=hT.sub _ _ hx;rw[<-e,qds.2 hn]at this;cases this
    .rw[if_neg e,s1.vis k ac];simp only;rw[qem,if_neg e]
   .simp only[dw,ep,not_or]at hk;simp only;rw[s1.lp k hk.2.1];simp only;rw[qem,if_neg (λe=>hk.1 e.symm)]
   .simp only;refine s1.lk λk v hv=>?_;simp only at hv|-;rw[qem]at hv;split at hv
    .grind[qc1]
    .grind[qc1]
  .rw[if_neg h6];exact .refl _ _ _
theorem xb7:∀(l:List St) (ts:TS),TOk ts->fresh (vo l) ts->(ui l ts).1=0->SV (vo l) (qni l) ts (ui l ts).2
 | [],ts,hT,hf,h0=>by rw[ui];exact .refl _ _ _
 |t::l,ts,hT,hf,h0=>by
  rw[ui]at h0|-;rw[vo]at hf|-;by_cases he:(stT t ts).1≠0
  .grind
  rw[if_neg he]at h0|-;have he:(stT t ts).1=0:=aa;have s1:=ji3 t ts hT hf.left he;have g1:=xtc t ts hT hf.left he;have s2:=xb7 l _ g1.ok (hf.right g1) h0;refine⟨λk hk=>?_,λk hk=>?_,λg=>s2.lk (s1.lk g)⟩
  .rw[qni]at hk;by_cases h1:t.op=1
   .rw[if_pos h1]at hk s1;simp only[c0,not_or]at hk;exact(s2.vis k hk.2).trans (s1.vis k af)
   .rw[if_neg h1]at hk s1;exact(s2.vis k hk).trans (s1.vis k ac)
  .simp only[dw,not_or]at hk;exact(s2.lp k hk.2).trans (s1.lp k hk.1)
end
theorem TR.blk{l:List St}{ts:TS}{vars:Vis}{loops:List ig}(h:TR ts vars loops)(hT:TOk ts)(hf:fresh (vo l) ts)(h0:(ui l ts).1=0):TR (xm l (ui l) ts).2 vars loops:=by
 have g:=qtm l ts hT hf h0;have s:=SV.blk hT hf g (xb7 l ts hT hf h0) h0;have e:(xm l (ui l) ts).2.all=(ui l ts).2.all:=by grind[xm]
 have sub:∀k,k∈pc ts.all->k∈pc (xm l (ui l) ts).2.all:=λk hk=>by
  rw[e];rcases hx:kz ts.all k with _|v
  .grind[qds]
  .have:=g.mono _ _ hx;exact Classical.byContradiction λhn=>by rw[qds.2 hn]at this;cases this
 refine⟨λk=>(s.vis k ac).trans (h.vis k),λk hk=>?_,λk hk=>sub k (h.lin k hk),s.lk h.lk,h.ty⟩;by_cases hn:k∈vo l
 .have h1:=hf.2 k hn;exact(h.keys hT h1 hk).elim
 .rw[s.lp k hn];exact h.lp k hk
abbrev xah(l:List Param):Vis:=l.map λp=>(p.name,p.ty)
theorem TR.params:∀(ps pre:List Param) (ts:TS),TOk ts->fresh (ps.map (·.name)) ts->TR ts (xah pre) []->(∀x∈ps,1<=x.ty/\x.ty<=3)->TR (qum ps ts) (xah (pre++ps)) []
 | [],pre,ts,_,_,h,_=>by rw[ej];exact h
 |x::l,pre,ts,hT,hf,h,ht=>by
  have hd:qum (x::l) ts=qum l (ts.decl x.name x.ty):=rfl;rw[hd];have hf':fresh ([x.name]++l.map (·.name)) ts:=hf
  have hn:=hf'.2 x.name ac;have g:=TGo.set hT hn x.ty ts.loops;have hx:=ht x ac;have:=TR.params l (pre++[x]) (ts.decl x.name x.ty) g.ok (hf'.right g) (by
   have e:xah (pre++[x])=xah pre++[(x.name,x.ty)]:=by simp[xah]
   rw[e];exact h.decl hT hn hx.1 hx.2) (λy hy=>ht y ck)
  rw[dn]at this;exact this
def n1(t:St):N4:=⟨1,gE t.a+gE t.b,if t.op=3\/t.op=4 then 1 else 0,if t.op=7 then 1 else 0⟩
end Go.Cw
