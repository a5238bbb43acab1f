/- Part 9 of a proof. -/
import Derived.Lib.SlicesCompact
import Derived.Test.YtolejdhnnchfpaaGreatDoorR08
set_option linter.all false
set_option maxRecDepth 100000
set_option maxHeartbeats 4000000
namespace Go.Cw
open Go Go.Abs
mutual
def gE:Ex->Nat
 | .mk op _ _ args=>(if op=22\/op=23\/op=24 then 1 else 0)+gL args
def gL:List Ex->Nat
 | []=>0
 |e::l=>gE e+gL l
end
theorem qoj(e:Ex):gE e=(if e.op=22\/e.op=23\/e.op=24 then 1 else 0)+gL e.args:=by cases e;rw[gE];rfl
structure N4 where
 st:Nat
 ge:Nat
 pu:Nat
 em:Nat
def N4.add(a b:N4):N4:=⟨a.st+b.st,a.ge+b.ge,a.pu+b.pu,a.em+b.em⟩
def N4.mx(a b:N4):N4:=⟨max a.st b.st,max a.ge b.ge,max a.pu b.pu,max a.em b.em⟩
def N4.mul(n:Nat)(a:N4):N4:=⟨n * a.st,n * a.ge,n * a.pu,n * a.em⟩
def N4.one:N4:=⟨1,0,0,0⟩
def N4.zero:N4:=⟨0,0,0,0⟩
def n0(op mx:Int)(a b:Ex):N4 :=
 ⟨if op=6 then mx.toNat else 0,(if op=8 then 0 else gE a)+(if op=3\/op=6 then gE b else 0),if op=3\/op=4 then 1 else 0,if op=7 then 1 else 0⟩
mutual
def nS:St->N4
 | .mk op _ mx a b body els=>(n0 op mx a b).add (if op=5 then(nL body).mx (nL els)else if op=6 then(nL body).mul mx.toNat else .zero)
def nL:List St->N4
 | []=>.zero
 |t::l=>(N4.one.add (nS t)).add (nL l)
end
theorem PQ(t:St):nS t=(n0 t.op t.max t.a t.b).add (if t.op=5 then(nL t.body).mx (nL t.els)else if t.op=6 then(nL t.body).mul t.max.toNat else .zero):=by cases t;rw[nS];rfl
def ym(x:N4):Cnt:=⟨mn x.st 16385,mn x.ge 16385,mn x.pu 16385,mn x.em 16385⟩
theorem sK{n:Int}(L:-9223372036854775808<=n)(O:n<9223372036854775808):p9 n=n:=eU L O
theorem MG:∀(l:List Ex) (n:Int),(∀e∈l,eM e=mn (gE e) 16385)->0<=n->n+16385 * l.length<4611686018427387904->mn (dS l n) 16385=mn (n+gL l) 16385
 | [],n,_,_,_=>by rw[dS,gL];simp
 |e::l,n,h,L,O=>by
  have he:=h e Z;have hb:0<=eM e/\eM e<=16385:=by grind[mn]
  have hw:p9 (n+eM e)=n+eM e:=sK J J;rw[dS,hw,MG l (n+eM e) (λx hx=>h x be) J W,gL,he];unfold mn
  repeat' split
  all_goals omega
def KT(op:Int):uv op<=2:=fg
def qpd{e:Ex}{d:Nat}(h:te e d=0):e.args.length<=2:=by have O:=Ad h;have U:=KT e.op;omega
mutual
theorem JM:∀(e:Ex) (d:Nat),te e d=0->eM e=mn (gE e) 16385
 | .mk op n s args,d,h=>by
  have hl:=qpd h;simp only[Ex.args]at hl;have ha:=PY args (d+1) (by
   rw[te]at h;split at h
   .exact h
   contradiction)
  grind[eM,gE,MG]
theorem PY:∀(l:List Ex) (d:Nat),dC l d=0->∀e∈l,eM e=mn (gE e) 16385
 | [],d,_=>by simp
 |e::l,d,h=>by
  rw[dC]at h;split at h
  .rename_i L;have O:=JM e d L;have U:=PY l d h;grind
  omega
end
section
variable{d:Nat}{l:List St}
theorem Qf(n:Nat):0<=mn n 16385/\mn n 16385<=16385:=by grind[mn]
theorem Ey(a b:Nat):mn (p9 (mn a 16385+mn b 16385)) 16385=mn (a+b:Nat) 16385:=by grind[sK,mn,Qf]
theorem qpv(a b:Nat):mx (mn a 16385) (mn b 16385)=mn (max a b:Nat) 16385:=by grind[mn,mx]
theorem qmp{n:Int}(O:1<=n)(U:n<=16)(a:Nat):mn (p9 (mn a 16385 * n)) 16385=mn (n.toNat * a:Nat) 16385:=by
 have hb:=Qf a;obtain⟨k,rfl⟩:∃k:Nat,n=k:=⟨n.toNat,J⟩
 have hk:(mn a 16385 * (k:Int))<=16385 * 16:=by have:mn a 16385 * (k:Int)<=16385 * (k:Int):=Int.mul_le_mul_of_nonneg_right hb.2 J;omega
 have L:0<=mn a 16385 * (k:Int):=Int.mul_nonneg hb.1 J;rw[sK J J];simp only[qj5];by_cases ha:a<=16385
 .grind[qji,mn]
 have e1:mn a 16385=16385:=by unfold mn;split<;>omega
 have h3:a<=k * a:=Nat.le_mul_of_pos_left a J;grind[mn]
theorem CN(a b:N4):(ym a).plus (ym b)=ym (a.add b):=by simp[ym,Cnt.plus,N4.add,Ey]
theorem O1(a b:N4):(ym a).larger (ym b)=ym (a.mx b):=by simp[ym,Cnt.larger,N4.mx,qpv]
theorem NW{n:Int}(O:1<=n)(U:n<=16)(a:N4):(ym a).times n=ym (a.mul n.toNat):=by simp_all[ym,Cnt.times,N4.mul,qmp]
theorem DS{t:St}(h:aC t d)(h6:t.op=6):1<=t.max/\t.max<=16:=by have O:=((dZ t d).1 h).1;grind[bW,fG]
theorem L8{n:Nat}(h:n<=16385):mn n 16385=n:=by grind[mn]
theorem qqz{t:St}(h:aC t d):lZ t=ym (N4.one.add (n0 t.op t.max t.a t.b)):=by
 have hA:t.op≠8->eM t.a=mn (gE t.a) 16385:=λk=>JM _ _ (BB h k);have hB:t.op=3\/t.op=6->eM t.b=mn (gE t.b) 16385:=λk=>JM _ _ (Bl h k);unfold lZ ym N4.add N4.one n0;simp only;have m0:mn 0 16385=0:=ax;have m1:mn 1 16385=1:=ax;by_cases h3:t.op=3
 .grind[Ey]
 by_cases h4:t.op=4
 .grind
 by_cases h7:t.op=7
 .grind
 by_cases h6:t.op=6
 .have h8:¬t.op=8:=J;have hm:=DS h h6;rw[gg h3,gg h4,gg h7,gh h6,gg h8,hA h8,hB (.inr h6),Ey,sK J J,L8 (n:=1+_) W];grind
 grind
def KU:∀(x:N4),(∀t∈l,Bi t=ym (N4.one.add (nS t)))->uD l (ym x)=ym (x.add (nL l)):=by
 induction l with
 |nil=>intro x _;rw[uD,nL];rfl
 |cons t l ih =>
  intro x h;rw[uD,h t Z,CN,ih _ (λy hy=>h y c0),nL];simp only[N4.add,qjl]
theorem CE:ym .zero=⟨0,0,0,0⟩:=rfl
theorem zero_add(x:N4):N4.zero.add x=x:=by simp[N4.zero,N4.add]
theorem Rs(x:N4):x.add N4.zero=x:=by simp[N4.zero,N4.add]
theorem Ut(x y hI:N4):(x.add y).add hI=x.add (y.add hI):=by simp[N4.add,qjl]
def Kz:∀(t:St) (d:Nat),aC t d->Bi t=ym (N4.one.add (nS t))
 | .mk op name mx a b body els,d,h=>by
  have O:=(dZ _ _).1 h;have hb:yp body=ym (nL body):=by
   have:=KU (l:=body) .zero λx hx=>by have:=km (show x∈body from hx);exact Kz x (d+1) (O.2.1 x hx)
   grind[CE,zero_add]
  have he:yp els=ym (nL els):=by
   have:=KU (l:=els) .zero λx hx=>by have:=km (show x∈els from hx);exact Kz x (d+1) (O.2.2 x hx)
   grind[CE,zero_add]
  grind[PV,PQ,qqz,St.body,St.els,O1,CN,Ut,NW,DS,Rs]
termination_by t=>SizeOf.sizeOf t
decreasing_by
 all_goals
  grind
theorem M0(h:eZ l d):yp l=ym (nL l):=by have:=KU (l:=l) .zero λx hx=>Kz x d (h x hx);rw[CE,zero_add]at this;exact this
structure Dl(s t:MS)(n:N4):Prop where
 st:t.steps<=s.steps+n.st
 ge:t.reads.length<=s.reads.length+n.ge
 pu:t.puts.length<=s.puts.length+n.pu
 em:t.out.length<=s.out.length+n.em
theorem Dl.refl(s:MS)(n:N4):Dl s s n:=⟨J,J,J,J⟩
def Dl.trans{s t u:MS}{m n:N4}(h:Dl s t m)(g:Dl t u n):Dl s u (m.add n):=by obtain⟨O,U,h3,h4⟩:=h;obtain⟨g1,g2,g3,g4⟩:=g;exact⟨qgf,qgf,qgf,qgf⟩
theorem Dl.mono{s t:MS}{m n:N4}(h:Dl s t m)(O:m.st<=n.st)(U:m.ge<=n.ge)(h3:m.pu<=n.pu)(h4:m.em<=n.em):Dl s t n:=by obtain⟨g1,g2,g3,g4⟩:=h;exact⟨J,J,J,J⟩
end
section
variable {C:Cfg}
theorem qnf(k:na)(s:MS):Dl s (y4 C k s).2 ⟨0,1,0,0⟩:=by
 unfold y4;split
 .exact Qdr
 split
 .exact Qdr
 split
 .exact Qdr
 exact⟨Z,B8 _ _,Z,Z⟩
def Rz(k:na)(v:AV)(s:MS):Dl s (yl C k v s).2 ⟨0,0,1,0⟩:=by
 unfold yl;split
 .exact Qdr
 split
 .exact Qdr
 exact⟨Z,Z,B8 _ _,Z⟩
def qmx(v:AV)(s:MS):Dl s (bO v s).2 ⟨0,0,0,1⟩:=by
 unfold bO;split
 .exact Qdr
 exact⟨Z,Z,Z,Z⟩
def Mq(s:MS):Dl s (xx s).2 .one:=⟨by simp[xx,N4.one],by simp[xx],by simp[xx],by simp[xx]⟩
def Ra(s:MS)(v:List (na×AV))(n:N4):Dl s { s with vars:=v } n:=⟨Z,Z,Z,Z⟩
theorem DF:∀{l:List Ex} {s t:MS} {r:List AV},uf C l s=(.ok r,t)->r.length=l.length
 | [],s,t,r,h=>by rw[uf]at h;cases h;rfl
 |e::l,s,t,r,h=>by
  rw[uf]at h;split at h
  .cases h
  split at h
  .cases h
  rename_i U;cases h;simp[DF U]
def Yr{op:Int}{l:List AV}(s:MS)(h:(l.length:Int)=uv op):Dl s (bG C op l s).2 ⟨0,if op=22\/op=23\/op=24 then 1 else 0,0,0⟩:=by unfold bG;grind[uv,zt,Dl.refl,qnf]
mutual
theorem yB:∀(e:Ex) (d:Nat) (s:MS),te e d=0->Dl s (rp C e s).2 ⟨0,gE e,0,0⟩
 | .mk op n t args,d,s,h=>by
  have bJ:=Ad h;simp only[Ex.args,Ex.op]at bJ;have hL:=O9 args (d+1) s (by
   rw[te]at h;split at h
   .exact h
   contradiction)
  rw[rp,gE];split
  .exact Qdr
  split
  .exact Qdr
  split
  .exact Qdr
  split
  .rename_i O;rw[O]at hL;exact hL.mono Z Z Z Z
  rename_i O;rw[O]at hL;have hl:=DF O;exact(hL.trans (Yr _ J)).mono az bc az az
theorem O9:∀(l:List Ex) (d:Nat) (s:MS),dC l d=0->Dl s (uf C l s).2 ⟨0,gL l,0,0⟩
 | [],d,s,_=>by rw[uf];exact Dl.refl _ _
 |e::l,d,s,h=>by
  rw[dC]at h;split at h
  .rename_i L;have hE:=yB e d s L;rw[uf,gL];split
   .rename_i O;rw[O]at hE;exact hE.mono Z Z Z Z
   rename_i m' O;rw[O]at hE;have hL:=O9 l d m' h;split
   .rename_i U;rw[U]at hL;exact hE.trans hL
   rename_i U;rw[U]at hL;exact hE.trans hL
  omega
end
def Ni{body:MS->Except Stop Unit×MS}{name:na}{b:Int}{x:N4}(hb64:i64 b)(hb:∀s,Inv 8192 1 s->Dl s (body s).2 x)(z:∀s u t,Inv 8192 1 s->body s=(.ok u,t)->Inv 0 0 t) :
  ∀(n f:Nat) (i:Int) (s:MS),i64 i->b - i<=n->Inv 0 0 s->Dl s (vq body name b f i s).2 ((N4.one.add x).mul n)
 |_,0,i,s,_,_,_=>by rw[vq];exact Dl.refl _ _
 | 0,f+1,i,s,hi,hn,h=>by rw[vq,gg J];exact Dl.refl _ _
 |n+1,f+1,i,s,hi,hn,h=>by
  have hT:=Mq s;have e:∀y:N4,y.mul (n+1)=y.add (y.mul n):=λy=>by simp[N4.mul,N4.add,Nat.succ_mul,Nat.add_comm]
  rw[vq,e];split
  .rename_i hib;split
   .rename_i O;rw[O]at hT;exact hT.mono (by grind[N4.add,N4.one]) qh4 qh4 qh4
   rename_i m' O;rw[O]at hT;have eC:=(h.tick O).vars (oV hi) name;have hV:=Ra m' (qc m'.vars name (vI i)) .zero;have hB:=hb _ eC;split
   .rename_i U;rw[U]at hB;exact(hT.trans (hV.trans hB)).mono cf cf cf cf
   rename_i qy U;have za:=z _ _ _ eC U;rw[U]at hB;have hw:p9 (i+1)=i+1:=sK ez qg4;have hR:=Ni (name:=name) hb64 hb z n f (i+1) qy ⟨ez,qg4⟩ J za;rw[hw];exact((hT.trans (hV.trans hB)).trans hR).mono cf cf cf cf
  exact Qdr
def RK{a b mx:Int}(ha:i64 a)(hb:i64 b)(O:1<=mx)(U:mx<=16)(h:¬vP a b mx):b - a<=mx.toNat:=by unfold vP at h;obtain⟨a1,a2⟩:=ha;obtain⟨b1,b2⟩:=hb;simp only[IntKind.wrap,IntKind.bits,IntKind.signed]at h;grind
end
section
variable {C:Cfg}
mutual
theorem qso(hC:bU C):∀(t:St) (d:Nat) (s:MS),aC t d->aR t->Inv 8192 1 s->Dl s (vj C t s).2 (nS t)
 | .mk op name mx a b body els,d,s,hO,hG,h=>by
  have qS:=(uO _).1 hG;have hO':=(dZ _ _).1 hO;have oA:=λk=>BB hO k;have oB:=λk=>Bl hO k;have oM:=λk=>DS hO k;simp only[St.op,St.a,St.b,St.body,St.els,St.max]at qS hO' oA oB oM;obtain⟨hA,hB,aF,lH⟩:=qS;obtain⟨_,EX,oels⟩:=hO';rw[vj,nS];by_cases O:op=1\/op=2
  .simp only[O,iz];have h8:¬op=8:=J;have hE:=yB (C:=C) a 1 s (oA h8);have hx:gE a<=(n0 op mx a b).ge:=by grind[n0]
   split
   .exact Qds
   rename_i hm;rw[hm]at hE;exact(hE.trans (Ra _ _ .zero)).mono qh0 (by grind[N4.add,N4.zero]) qh0 qh0
  simp only[O,jg];by_cases h3:op=3
  .simp only[h3,iz];have hE:=yB (C:=C) a 1 s (oA J);have hx:(n0 3 mx a b).ge=gE a+gE b:=ep;have hy:(n0 3 mx a b).pu=1:=ep;split
   .exact Qds
   rename_i k m' hm;rw[hm]at hE;have tu:=yB (C:=C) b 1 m' (oB J);split
   .rename_i gF;rw[gF]at tu;exact Qdt
   rename_i v qy gF;rw[gF]at tu;split
   .exact((hE.trans tu).trans (Rz k.s v qy)).mono az bc bc az
   exact Qdt
  simp only[h3,jg];by_cases h4:op=4
  .simp only[h4,iz];have hE:=yB (C:=C) a 1 s (oA J);have hx:(n0 4 mx a b).ge=gE a:=ep;have hy:(n0 4 mx a b).pu=1:=ep;split
   .exact Qds
   rename_i k m' hm;rw[hm]at hE;split
   .exact(hE.trans (Rz k.s AV.nil m')).mono az bc bc az
   exact hE.mono Z bc Z Z
  simp only[h4,jg];by_cases h5:op=5
  .simp only[h5,iz];have L:=h.eval hC (r:=4097) (hA J);have hE:=yB (C:=C) a 1 s (oA J);have hx:(n0 5 mx a b).ge=gE a:=ep;split
   .exact Qds
   rename_i c m' hm;rw[hm]at hE L;split
   .split
    .have hB:=Ce hC body (d+1) m' EX aF (L.1.mono J J);have m1:=Nat.le_max_left (nL body).st (nL els).st;have m2:=Nat.le_max_left (nL body).ge (nL els).ge;have m3:=Nat.le_max_left (nL body).pu (nL els).pu;have m4:=Nat.le_max_left (nL body).em (nL els).em;exact(hE.trans hB).mono cz cz cz cz
    have hB:=Ce hC els (d+1) m' oels lH (L.1.mono J J);have m1:=Nat.le_max_right (nL body).st (nL els).st;have m2:=Nat.le_max_right (nL body).ge (nL els).ge;have m3:=Nat.le_max_right (nL body).pu (nL els).pu;have m4:=Nat.le_max_right (nL body).em (nL els).em;exact(hE.trans hB).mono cz cz cz cz
   exact hE.mono Z bc Z Z
  simp only[h5,jg];by_cases h6:op=6
  .simp only[h6,iz];have L:=h.eval hC (r:=4097) (hA J);have hE:=yB (C:=C) a 1 s (oA J);have hx:(n0 6 mx a b).ge=gE a+gE b:=ep;have hy:(n0 6 mx a b).st=mx.toNat:=ep;have hM:=oM h6;split
   .exact Qds
   rename_i u m' hm;rw[hm]at hE L;have tu:=yB (C:=C) b 1 m' (oB J);have U:=L.1.eval hC (r:=2) (hB J);split
   .rename_i gF;rw[gF]at tu;exact Qdt
   rename_i v qy gF;rw[gF]at tu U;split
   .split
    .exact Qdt
    rename_i ht;have Q:=(L.2 _ rfl).1;have hv:=(U.2 _ rfl).1;have hn:=RK Q hv hM.1 hM.2 ht;have hl:=Ni (name:=name) (body:=λx=>re C body x) hv (λs hs=>Ce hC body (d+1) s EX aF (hs.mono J J)) (λs u t hs hg=>Am hC body s u t aF (hs.mono J J) hg) mx.toNat 16386 u.n qy Q hn (U.1.mono J J);have e1:(N4.one.add (nL body)).mul mx.toNat=⟨mx.toNat+mx.toNat * (nL body).st,mx.toNat * (nL body).ge,mx.toNat * (nL body).pu,mx.toNat * (nL body).em⟩:=by simp[N4.mul,N4.add,N4.one,Nat.mul_add]
    rw[e1]at hl;exact((hE.trans tu).trans hl).mono (by grind[N4.add,N4.mul]) (by grind[N4.add,N4.mul]) (by simp[N4.add,N4.mul]) (by simp[N4.add,N4.mul])
   exact Qdt
  simp only[h6,jg];by_cases h7:op=7
  .simp only[h7,iz];have hE:=yB (C:=C) a 1 s (oA J);have hx:(n0 7 mx a b).ge=gE a:=ep;have hy:(n0 7 mx a b).em=1:=ep;split
   .exact Qds
   rename_i v m' hm;rw[hm]at hE;split
   .exact(hE.trans (qmx v m')).mono az bc az bc
   exact hE.mono Z bc Z Z
  grind[Dl.refl]
theorem Ce(hC:bU C):∀(l:List St) (d:Nat) (s:MS),eZ l d->(∀x∈l,aR x)->Inv 0 0 s->Dl s (re C l s).2 (nL l)
 | [],d,s,_,_,_=>by rw[re];exact Dl.refl _ _
 |t::l,d,s,hO,hG,h=>by
  have hT:=Mq s;rw[re,nL];split
  .rename_i hm;rw[hm]at hT;exact hT.mono bc bc bc bc
  rename_i m' hm;rw[hm]at hT;have z:=h.tick hm;have hS:=qso hC t d m' (hO t Z) (hG t Z) z;split
  .rename_i gF;rw[gF]at hS;exact(hT.trans hS).mono az az az az
  rename_i qy gF;have za:=GJ hC t _ _ _ (hG t Z) z gF;rw[gF]at hS;exact(hT.trans hS).trans (Ce hC l d qy (λx hx=>hO x be) (λx hx=>hG x be) za)
end
end
section
variable{v:AV}
def vu(v:AV):Prop:=uT v.k v.n v.s=true
def iM(v:AV):Prop:=dY v.k v.n v.s=true
def vM(s:MS):Prop:=(∀p∈s.vars,vu p.2)/\∀p∈s.own,iM p.2
structure vC(C:Cfg):Prop where
 st:∀p∈C.state,iM p.v
 fmt:∀n,i64 n->tv (C.fmt n)=true
theorem BX(n:Int):vu (vI n):=by simp[vu,uT,dY,vI]
theorem Ec(b:Bool):vu (vB b):=by simp[vu,uT,vB]
theorem Pk{s:na}(h:tv s=true):vu (vS s):=by simp[vu,uT,dY,vS,h]
theorem F6:iM AV.nil:=by simp[iM,dY,AV.nil]
theorem Kt(h:vu v)(hk:v.k=2):tv v.s=true:=by grind[vu,uT,dY]
theorem Ob(h:vu v)(hk:v.k=1\/v.k=2):iM v:=by unfold vu uT at h;rw[gg J]at h;simp only[gy]at h;exact h.2
theorem qm5(h:iM v)(hk:v.k≠0)(hk3:v.k≠3):vu v:=by unfold vu uT;rw[gg hk3];have h:dY v.k v.n v.s=true:=h;simp[hk,h]
theorem Tn{a b:na}(ha:tv a=true)(hb:tv b=true)(h:((a++b).size:Int)<=64):tv (a++b)=true:=by
 unfold tv at ha hb|-;simp only[gy,jm,Gr]at ha hb|-;refine⟨λx hx=>?_,h⟩;have:bl (a++b)=bl a++bl b:=by simp[bl]
 grind
theorem qrh:tv em=true:=ax
theorem IB{s:na}(hs:(s.size:Int)<=64->tv s=true)(h:dR s=.ok v):vu v:=by grind[dR,Pk]
theorem Q3{r:Int×Int}(h:yz r=.ok v):vu v:=by grind[yz,BX]
theorem Zy{op:Int}{a b:AV}(ha:vu a)(hb:vu b)(h:zu op a b=.ok v):vu v:=by
 unfold zu at h;split at h
 .grind[fF,Q3]
 split at h
 .grind[Ec]
 split at h
 .grind[Ec]
 split at h
 .split at h
  .rename_i hk;exact IB (λhs=>Tn (Kt ha hk.1) (Kt hb hk.2) hs) h
  cases h
 grind[wR,Ec]
theorem X9{op:Int}{w:AV}(p8:op=22\/op=23\/op=24)(hw:iM w)(h:dO op w=.ok v):vu v:=by
 unfold dO at h;split at h
 .grind[Ec]
 split at h
 .grind[BX]
 split at h
 .exact IB (λ_=>qrh) h
 split at h
 .cases h
 grind[qm5]
theorem XZ{l:List Pr}(h:∀p∈l,iM p.v)(k:na):iM (pp l k):=by
 induction l with
 |nil=>exact F6
 |cons p l ih =>
  grind[pp]
end
section
variable {C:Cfg} (hV:vC C)
include hV
theorem qkt{k:na}{s t:MS}{v:AV}(hM:vM s)(h:y4 C k s=(.ok v,t)):iM v:=by
 unfold y4 at h;split at h
 .cases h
 split at h
 .rename_i w hw;cases h;exact hM.2 _ (zK hw)
 split at h
 .cases h
 cases h;exact XZ hV.st k
theorem qqw{op:Int}{l:List AV}{s t:MS}{v:AV}(hM:vM s)(hl:(l.length:Int)=uv op)(hx:∀a∈l,vu a)(G:∀a∈l,r6 a)(h:bG C op l s=(.ok v,t)):vu v:=by
 have hy:∀{x:EV} {u:MS},(x,u)=((.ok v,t):EV×MS)->x=.ok v:=λh=>congrArg Prod.fst h;unfold bG at h;split at h
 .rename_i a;have p8:op=9\/op=18\/op=20\/op=21\/op=22\/op=23\/op=24:=fg;unfold zt at h;split at h
  .grind[Q3]
  split at h
  .grind[Ec]
  split at h
  .have h:=hy h;split at h
   .exact IB (λ_=>hV.fmt _ (G a Z).1) h
   cases h
  split at h
  .grind[BX]
  split at h
  .cases h
  split at h
  .cases h
  rename_i hf;exact X9 J (qkt hV hM hf) (hy h)
 .rename_i a b;exact Zy (hx a Z) (hx b Z) (hy h)
 cases h
end
theorem sO{s t:MS}{n:Nat}(h:EvOk s n t)(hM:vM s):vM t:=by rw[h.eq];exact hM
section
variable {C:Cfg} (hV:vC C) (hC:bU C)
include hV hC
mutual
theorem G8:∀(e:Ex) (d:Nat) (s t:MS) (v:AV),te e d=0->zb e->vM s->nF s->qg s.reads->rp C e s=(.ok v,t)->vu v
 | .mk op n x args,d,s,t,v,hc,hR,hM,G,ha,h=>by
  have bJ:=Ad hc;have dV:=(xM _).1 hR;simp only[Ex.args,Ex.op,Ex.n,Ex.s]at bJ dV;rw[te]at hc;by_cases hn:dA op n x args.length d=0
  .rw[gh hn]at hc;rw[rp]at h;split at h
   .grind[BX]
   split at h
   .grind[dA,Pk]
   split at h
   .have h:=congrArg Prod.fst h;simp only at h;split at h
    .rename_i w hw;cases h;exact hM.1 _ (zK hw)
    cases h
   split at h
   .cases h
   rename_i l m' hL;have hE:=E6 hC args s dV.2 G ha;rw[hL]at hE;have hl:=JH args (d+1) s m' l hc dV.2 hM G ha hL;exact qqw hV (sO hE.1 hM) (by grind[DF]) hl (hE.2 l rfl) h
  omega
theorem JH:∀(l:List Ex) (d:Nat) (s t:MS) (r:List AV),dC l d=0->(∀x∈l,zb x)->vM s->nF s->qg s.reads->uf C l s=(.ok r,t)->∀v∈r,vu v
 | [],d,s,t,r,_,_,_,_,_,h=>by rw[uf]at h;cases h;simp
 |e::l,d,s,t,r,hc,hR,hM,G,ha,h=>by
  rw[dC]at hc;split at hc
  .rename_i L;rw[uf]at h;split at h
   .cases h
   rename_i v m' hE;have eH:=nI hC e s (hR e Z) G ha;rw[hE]at eH;have hv:=G8 e d s m' v L (hR e Z) hM G ha hE;split at h
   .cases h
   rename_i r' qy hL;cases h;have hl:=JH l d m' _ r' hc (λx hx=>hR x be) (sO eH.1 hM) (eH.1.rng G) eH.1.asc hL;intro w hw;grind
  omega
end
theorem J1{s:MS}{v:AV}(k:na)(hM:vM s)(hv:vu v):vM { s with vars:=qc s.vars k v }:=⟨λp hp=>by
 rcases AY hp with rfl|hp
 .exact hv
 exact hM.1 p hp,hM.2⟩
theorem JP{s t:MS}{k:na}{v:AV}{u:Unit}(hM:vM s)(hv:iM v)(h:yl C k v s=(.ok u,t)):vM t:=by
 unfold yl at h;split at h
 .cases h
 split at h
 .cases h
 cases h;refine⟨hM.1,λp hp=>?_⟩;rcases AY hp with rfl|hp
 .exact hv
 exact hM.2 p hp
theorem Q7{s t:MS}{v:AV}{u:Unit}(hM:vM s)(h:bO v s=(.ok u,t)):vM t:=by
 unfold bO at h;split at h
 .cases h
 cases h;exact hM
theorem Nj{s t:MS}{u:Unit}(hM:vM s)(h:xx s=(.ok u,t)):vM t:=by
 unfold xx at h;split at h
 .cases h
 cases h;exact hM
theorem Mr{body:MS->Except Stop Unit×MS}{name:na}{b:Int}(hb:∀s u t,Inv 8192 1 s->vM s->body s=(.ok u,t)->Inv 0 0 t/\vM t):∀(f:Nat) (i:Int) (s:MS) (u:Unit) (t:MS),i64 i->Inv 0 0 s->vM s->vq body name b f i s=(.ok u,t)->vM t
 | 0,i,s,u,t,_,_,hM,h=>by rw[vq]at h;cases h;exact hM
 |f+1,i,s,u,t,hi,z,hM,h=>by
  rw[vq]at h;split at h
  .split at h
   .cases h
   rename_i m' hm;have hM1:=Nj hV hC hM hm;have O:=(z.tick hm).vars (oV hi) name;have hM2:=J1 hV hC name hM1 (BX i);split at h
   .cases h
   rename_i qy uz;have U:=hb _ _ _ O hM2 uz;exact Mr hb f _ _ _ _ (wC _) U.1 U.2 h
  grind
mutual
theorem qpz:∀(t:St) (d:Nat) (s:MS) (u:Unit) (s':MS),aC t d->aR t->Inv 8192 1 s->vM s->vj C t s=(.ok u,s')->vM s'
 | .mk op name mx a b body els,d,s,u,s',hO,hG,h,hM,g=>by
  have qS:=(uO _).1 hG;have hO':=(dZ _ _).1 hO;have oA:=λk=>BB hO k;have oB:=λk=>Bl hO k;simp only[St.op,St.a,St.b,St.body,St.els,St.max]at qS hO' oA oB;obtain⟨hA,hB,aF,lH⟩:=qS;obtain⟨_,EX,oels⟩:=hO';rw[vj]at g;split at g
  .split at g
   .cases g
   rename_i v m' hm;have hE:=nI hC a s (hA J).1 h.rng h.ar;rw[hm]at hE;have hv:=G8 hV hC a 1 s m' v (oA J) (hA J).1 hM h.rng h.ar hm;cases g;exact J1 hV hC name (sO hE.1 hM) hv
  split at g
  .have O:=h.eval hC (r:=4097) (hA J);split at g
   .cases g
   rename_i k m' hm;have hE:=nI hC a s (hA J).1 h.rng h.ar;rw[hm]at hE O;have hM1:=sO hE.1 hM;split at g
   .cases g
   rename_i v qy uz;have tu:=nI hC b m' (hB J).1 O.1.rng O.1.ar;rw[uz]at tu;have hv:=G8 hV hC b 1 m' qy v (oB J) (hB J).1 hM1 O.1.rng O.1.ar uz;split at g
   .rename_i hk;exact JP hV hC (sO tu.1 hM1) (Ob hv hk.2) g
   cases g
  split at g
  .split at g
   .cases g
   rename_i k m' hm;have hE:=nI hC a s (hA J).1 h.rng h.ar;rw[hm]at hE;split at g
   .exact JP hV hC (sO hE.1 hM) F6 g
   cases g
  split at g
  .have O:=h.eval hC (r:=4097) (hA J);split at g
   .cases g
   rename_i c m' hm;have hE:=nI hC a s (hA J).1 h.rng h.ar;rw[hm]at hE O;have hM1:=sO hE.1 hM;split at g
   .split at g
    .exact Dq body (d+1) _ _ _ EX aF (O.1.mono J J) hM1 g
    exact Dq els (d+1) _ _ _ oels lH (O.1.mono J J) hM1 g
   cases g
  split at g
  .have O:=h.eval hC (r:=4097) (hA J);split at g
   .cases g
   rename_i x m' hm;have hE:=nI hC a s (hA J).1 h.rng h.ar;rw[hm]at hE O;have hM1:=sO hE.1 hM;have U:=O.1.eval hC (r:=2) (hB J);split at g
   .cases g
   rename_i y qy uz;have tu:=nI hC b m' (hB J).1 O.1.rng O.1.ar;rw[uz]at tu U;have hM2:=sO tu.1 hM1;split at g
   .split at g
    .cases g
    exact Mr hV hC (λs u t hs hm hg=>⟨Am hC body s u t aF (hs.mono J J) hg,Dq body (d+1) s u t EX aF (hs.mono J J) hm hg⟩) _ _ _ _ _ (O.2 _ rfl).1 (U.1.mono J J) hM2 g
   cases g
  split at g
  .split at g
   .cases g
   rename_i v m' hm;have hE:=nI hC a s (hA J).1 h.rng h.ar;rw[hm]at hE;split at g
   .exact Q7 hV hC (sO hE.1 hM) g
   cases g
  grind
theorem Dq:∀(l:List St) (d:Nat) (s:MS) (u:Unit) (s':MS),eZ l d->(∀x∈l,aR x)->Inv 0 0 s->vM s->re C l s=(.ok u,s')->vM s'
 | [],d,s,u,s',_,_,_,hM,g=>by rw[re]at g;cases g;exact hM
 |t::l,d,s,u,s',hO,hG,h,hM,g=>by
  rw[re]at g;split at g
  .cases g
  rename_i m' hm;split at g
  .cases g
  rename_i qy uz;have z:=h.tick hm;have hM1:=Nj hV hC hM hm;have hM2:=qpz t d m' _ qy (hO t Z) (hG t Z) z hM1 uz;exact Dq l d qy _ s' (λx hx=>hO x be) (λx hx=>hG x be) (GJ hC t _ _ _ (hG t Z) z uz) hM2 g
end
end
section
variable{l w:List Pr}{k:na}{p:Pr}
abbrev ur(l:List Pr):List na:=l.map (·.key)
theorem Rj:∀(l:List Pr) (eQ:Option na),rW eQ l=true↔(∀p∈l,zp p.key=true)/\qg (ur l)/\∀k,eQ=some k->∀p∈l,px k p.key=true
 | [],eQ=>by simp[rW]
 |p::l,eQ=>by
  simp only[rW,gy,Rj l,iq,ur,jd,jy,ig];constructor
  .rintro⟨⟨O,U⟩,h3,h4,h5⟩;refine⟨?_,⟨?_,h4⟩,?_⟩
   .grind
   .grind
   rintro k rfl q (rfl|hq)
   .exact U
   exact uK U (h5 _ rfl q hq)
  rintro⟨O,⟨U,h3⟩,h4⟩;refine⟨⟨O p (.inl rfl),?_⟩,λq hq=>O q (.inr hq),h3,?_⟩
  .cases eQ with
   |none=>rfl
   |some k=>exact h4 k rfl p (.inl rfl)
  grind
theorem DW:∀(l:List na) (eQ:Option na),cX eQ l=true↔(∀k∈l,zp k=true)/\qg l/\∀k,eQ=some k->∀x∈l,px k x=true
 | [],eQ=>by simp[cX]
 |p::l,eQ=>by
  simp only[cX,gy,DW l,iq,jy];constructor
  .rintro⟨⟨O,U⟩,h3,h4,h5⟩;refine⟨?_,⟨?_,h4⟩,?_⟩
   .grind
   .grind
   rintro k rfl q (rfl|hq)
   .exact U
   exact uK U (h5 _ rfl q hq)
  rintro⟨O,⟨U,h3⟩,h4⟩;refine⟨⟨O p (.inl rfl),?_⟩,λq hq=>O q (.inr hq),h3,?_⟩
  .cases eQ with
   |none=>rfl
   |some k=>exact h4 k rfl p (.inl rfl)
  grind
theorem oN(l:List Pr):y9 l=true↔(∀p∈l,iM p.v)/\(∀p∈l,zp p.key=true)/\qg (ur l):=by
 simp only[y9,wS,gy,Gr,Rj,iM];constructor
 .simp
 simp
theorem G1{α:Type}{p:α->Bool}:∀{l:List α},ut p l=true↔∃x,x∈l/\p x=true
 | []=>by simp[ut]
 |x::l=>by simp[ut,G1 (l:=l)]
theorem RP{α:Type}{p:α->Bool}{l:List α}:ut p l=false↔∀x,x∈l->p x=false:=by grind[Bool.true_eq_false,G1]
theorem zz(l:List Pr):ph l=true↔(∀p∈l,iM p.v/\p.v.k≠0)/\(∀p∈l,zp p.key=true)/\qg (ur l):=by
 rw[<-L2,C0,gy,oN,mh,RP];simp only[decide_eq_false_iff_not];constructor
 .grind
 grind
theorem rH:tf l k=true↔k∈ur l:=by simp[tf,G1,ur]
theorem Dc:tf l k=false↔∀p∈l,p.key≠k:=by simp[tf,RP]
theorem aD{l:List na}:qa l k=true↔k∈l:=by simp[qa,G1]
theorem Y6{v:AV}(h:iM v)(hk:v.k=0):v=AV.nil:=by obtain⟨k,n,s⟩:=v;unfold iM dY at h;simp only at hk;subst hk;simp at h;rw[h.1,h.2];rfl
theorem Dj(h:∀p∈l,p.key≠k):pp l k=AV.nil:=by
 induction l with
 |nil=>rfl
 |cons p l ih =>
  rw[pp,gg (h p Z),ih λq hq=>h q fk]
theorem CK(ha:qg (ur l))(hp:p∈l):pp l p.key=p.v:=by
 induction l with
 |nil=>cases hp
 |cons q l ih =>
  obtain⟨O,U⟩:=jy.1 ha;rw[pp];rcases iq.1 hp with rfl|hp
  .simp
  have:=O p.key (qi8 hp);rw[gg (uI this),ih U hp]
theorem D4(h:pp l k≠AV.nil):(⟨k,pp l k⟩:Pr)∈l:=by
 induction l with
 |nil=>exact(h rfl).elim
 |cons p l ih =>
  rw[pp]at h|-;split
  .rename_i hk;subst hk;simp
  grind
theorem QN(k:na)(l:List Pr):zq k l=ru k (ur l):=by
 induction l with
 |nil=>rfl
 |cons p l ih =>
  simp only[zq,ur,jd,ru];rw[ih]
theorem OA{q:Pr}:q∈mR l p↔q=p\/q∈l:=by grind[mR,me]
theorem UV(h:∀q∈l,q.key≠p.key):ur (mR l p)=zj (ur l) p.key:=by
 unfold mR zj;rw[QN];rw[gg]
 .simp
 grind
def XK(ha:qg (ur l))(h:∀q∈l,q.key≠p.key):qg (ur (mR l p)):=by grind[UV,ED]
def Lb:∀(w out:List Pr),qg (ur out)->qg (ur w)->(∀q∈out,∀p∈w,q.key≠p.key)->qg (ur (oX out w))/\∀q,q∈oX out w↔q∈out\/(q∈w/\q.v.k≠0)
 | [],out,ha,_,_=>⟨ha,λq=>by simp[oX]⟩
 |p::w,out,ha,hw,hd=>by
  obtain⟨O,U⟩:=jy.1 hw;rw[oX];split
  .rename_i hk;obtain⟨g1,g2⟩:=Lb w out ha U λq hq r G=>hd q hq r fb;refine⟨g1,λq=>?_⟩;rw[g2,iq];constructor
   .grind
   grind
  rename_i hk;have nv:∀q∈out,q.key≠p.key:=λq hq=>hd q hq p Z;obtain⟨g1,g2⟩:=Lb w (mR out p) (XK ha nv) U λq hq r G=>by
   rcases OA.1 hq with rfl|hq
   .simp_all[uI]
   grind
  refine⟨g1,λq=>?_⟩;rw[g2,iq,OA];constructor
  .grind
  grind
def JW(w:List Pr):∀(l:List Pr),(nG w l).Sublist l/\∀q,q∈nG w l↔q∈l/\tf w q.key=false
 | []=>⟨List.Sublist.refl _,λq=>by simp[nG]⟩
 |p::l=>by
  obtain⟨O,U⟩:=JW w l;rw[nG];split
  .grind
  grind
theorem FI(hl:qg (ur l))(hw:qg (ur w)):qg (ur (y7 l w))/\∀q,q∈y7 l w↔(q∈l/\tf w q.key=false)\/(q∈w/\q.v.k≠0):=by
 obtain⟨O,U⟩:=JW w l;obtain⟨g1,g2⟩:=Lb w (nG w l) (hl.sublist (O.map _)) hw λq hq p hp=>by have:=((U q).1 hq).2;exact λe=>Dc.1 this p hp e.symm
 refine⟨g1,λq=>?_⟩;rw[y7,g2,U]
def EJ(hl:ph l=true)(hw:y9 w=true):ph (y7 l w)=true:=by
 obtain⟨l1,l2,l3⟩:=(zz l).1 hl;obtain⟨w1,w2,w3⟩:=(oN w).1 hw;obtain⟨a1,a2⟩:=FI l3 w3;refine(zz _).2 ⟨λp hp=>?_,λp hp=>?_,a1⟩
 .grind
 grind
theorem Dy(hl:qg (ur l))(hw:qg (ur w))(hv:∀p∈w,iM p.v)(k:na):pp (y7 l w) k=if tf w k then pp w k else pp l k:=by grind[CK,Y6,Dj,Dc,FI,D4]
end
structure RunIn(fmt:Int->na)(p:Proc)(args:List AV)(st:List Pr):Prop where
 fmt:∀n,i64 n->tv (fmt n)=true
 body:∀t∈p.body,iX t
 args:∀v∈args,r6 v
 st:∀q∈st,r6 q.v
abbrev ya(fmt:Int->na)(st:List Pr)(ft:Foot):Cfg:=⟨st,ft.all,ft.reads,ft.writes,fmt⟩
abbrev iQ(p:Proc)(args:List AV):MS:=⟨lA p.params args [],[],[],[],[],0⟩
def dK(p:Proc)(args:List AV)(st:List Pr)(ft:Foot):Prop:=¬(aO p≠0\/gU p args≠0\/ph st=false\/vi ft.all ft.reads ft.writes=false)
theorem oU{fmt:Int->na}{p:Proc}{args:List AV}{st:List Pr}{ft:Foot}(h:¬dK p args st ft):un fmt p args st ft=bI:=by unfold un;exact gh (Decidable.not_not.1 h)
theorem rA{fmt:Int->na}{p:Proc}{args:List AV}{st:List Pr}{ft:Foot}(h:dK p args st ft):un fmt p args st ft=kZ (re (ya fmt st ft) p.body (iQ p args)):=by unfold un;exact gg h
theorem nB(p:Proc)(args:List AV)(st:List Pr)(ft:Foot):dK p args st ft↔aO p=0/\gU p args=0/\ph st=true/\vi ft.all ft.reads ft.writes=true:=by simp[Bool.not_eq_false,dK]
def Ka:∀{ps:List Param} {vs:List AV} {m:List (na×AV)} {q:na×AV},q∈lA ps vs m->q∈m\/q.2∈vs
 | [],vs,m,q,h=>by simp[lA]at h;exact .inl h
 |x::l,[],m,q,h=>by simp[lA]at h;exact .inl h
 |x::l,v::r,m,q,h=>by
  rw[lA]at h;rcases Ka h with h|h
  .rcases AY h with rfl|h
   .simp
   grind
  grind
theorem Gt(x:Except Stop Unit×MS):(kZ x).reads=x.2.reads:=by rcases x with⟨hI|u,m⟩<;>rfl
theorem II(x:Except Stop Unit×MS):(kZ x).puts=x.2.puts:=by rcases x with⟨hI|u,m⟩<;>rfl
theorem Wa(x:Except Stop Unit×MS):(kZ x).steps=x.2.steps:=by rcases x with⟨hI|u,m⟩<;>rfl
def JF{p:Proc}(h:aO p=0):zo p=0:=by grind[aO,lS,jK]
def A8{p:Proc}(h:aO p=0):eZ p.body 1:=CC (JF h)
def BM{p:Proc}(h:aO p=0)(G:∀t∈p.body,iX t):∀t∈p.body,aR t:=λt ht=>Kq t 1 (A8 h t ht) (G t ht)
def F9{p:Proc}(h:aO p=0):(yp p.body).st<=16384/\(yp p.body).ge<=64/\(yp p.body).pu<=64/\(yp p.body).em<=16:=by grind[aO]
def VM{p:Proc}(h:aO p=0):lS p=0:=by grind[aO]
def QQ{p:Proc}(h:aO p=0):((nL p.body).st:Int)=(yp p.body).st/\((nL p.body).ge:Int)=(yp p.body).ge/\((nL p.body).pu:Int)=(yp p.body).pu/\((nL p.body).em:Int)=(yp p.body).em:=by
 have O:=F9 h;have U:=M0 (A8 h);have hm:∀n:Nat,mn n 16385<=16384->(n:Int)=mn n 16385:=λn hn=>by unfold mn at hn|-;split<;>split at hn<;>omega
 rw[U]at O|-;simp only[ym]at O|-;exact⟨hm _ O.1,hm _ J,hm _ J,hm _ J⟩
def Z9{ps:List Param}{vs:List AV}(h:kG ps vs=true)(hl:vs.length=ps.length):∀v∈vs,vu v:=by
 induction ps generalizing vs with
 |nil=>intro v hv;rw[ko hl]at hv;cases hv
 |cons x l ih =>
  cases vs with
  |nil=>simp
  |cons v r =>
   simp only[kG,gy]at h;intro w hw;rcases iq.1 hw with rfl|hw
   .have:=h.1;unfold Ah at this;unfold vu uT dY;simp only[qis,gy,jm]at this;rcases this with⟨⟨O,U⟩,_⟩|⟨⟨⟨O,U⟩,h3⟩,_⟩
    .grind
    grind
   grind
def FT{p:Proc}{args:List AV}(h:gU p args=0):args.length=p.params.length/\∀v∈args,vu v:=by
 unfold gU at h;split at h
 .omega
 rename_i O;split at h
 .rename_i U;have hl:args.length=p.params.length:=J;exact⟨hl,Z9 U hl⟩
 omega
section
variable {fmt:Int->na} {p:Proc} {args:List AV} {st:List Pr} {ft:Foot}
def Cj(z:RunIn fmt p args st):Inv 0 0 (iQ p args):=by
 refine⟨⟨λq hq=>?_,Z⟩,Z,Z,Z,Z,Z,Z⟩;rcases Ka hq with h|h
 .cases h
 exact z.args _ h
def QF(h:gU p args=0):vM (iQ p args):=by
 refine⟨λq hq=>?_,Z⟩;rcases Ka hq with O|O
 .cases O
 exact(FT h).2 _ O
def Rb(z:RunIn fmt p args st)(hs:ph st=true):vC (ya fmt st ft):=⟨λq hq=>(((zz st).1 hs).1 q hq).1,z.fmt⟩
def Dx(x:List St):Fit (ya fmt st ft) (iQ p args) (re (ya fmt st ft) x (iQ p args)).2:=wO (qsx _) x _
def NF{x:List St}{t:MS}{hI:Stop}(h:re (ya fmt st ft) x (iQ p args)=(.error hI,t)):qW (ya fmt st ft) hI:=Ek x _ _ _ h
def qmg{k:na}(hk:k∈(un fmt p args st ft).reads):ph st=true/\zp k=true/\(ft.all=true\/qa ft.reads k=true):=by
 by_cases G:dK p args st ft
 .rw[rA G,Gt]at hk;rcases(Dx p.body).rd k hk with h|h
  .cases h
  exact⟨((nB _ _ _ _).1 G).2.2.1,h.1,h.2⟩
 rw[oU G]at hk;cases hk
def PU{k:na}(hk:k∈(un fmt p args st ft).puts):zp k=true/\(ft.all=true\/qa ft.writes k=true):=by
 by_cases G:dK p args st ft
 .rw[rA G,II]at hk;rcases(Dx p.body).pt k hk with h|h
  .cases h
  exact h
 rw[oU G]at hk;cases hk
def YL:qg (un fmt p args st ft).reads/\qg (un fmt p args st ft).puts:=by
 by_cases G:dK p args st ft
 .rw[rA G,Gt,II];exact⟨(Dx p.body).ar Z,(Dx p.body).ap Z⟩
 simp_all[oU,bI]
theorem Nx(h:aO p≠0):un fmt p args st ft=bI:=oU λY=>h ((nB _ _ _ _).1 Y).1
def Pu(z:RunIn fmt p args st)(h:aO p=0):(un fmt p args st ft).steps<=(yp p.body).st/\((un fmt p args st ft).reads.length:Int)<=(yp p.body).ge/\((un fmt p args st ft).puts.length:Int)<=(yp p.body).pu/\((un fmt p args st ft).out.length:Int)<=(yp p.body).em:=by
 have hn:=QQ h;by_cases G:dK p args st ft
 .rw[rA G,Gt,II,Wa];have hd:=Ce (C:=ya fmt st ft) (λq hq=>z.st q hq) p.body 1 (iQ p args) (A8 h) (BM h z.body) (Cj z);obtain⟨d1,d2,d3,d4⟩:=hd;simp only[ju,im]at d1 d2 d3 d4;refine⟨J,J,J,?_⟩;rcases hx:re (ya fmt st ft) p.body (iQ p args)with⟨hI|u,m⟩
  .grind[kZ,ju]
  grind[kZ]
 grind[oU,bI,ju]
theorem qnu(h:(un fmt p args st ft).status≠1):(un fmt p args st ft).writes=[]/\(un fmt p args st ft).out=[]/\((un fmt p args st ft).status=2\/(un fmt p args st ft).status=3/\(un fmt p args st ft).code=0):=by
 by_cases G:dK p args st ft
 .rw[rA G]at h|-;rcases hx:re (ya fmt st ft) p.body (iQ p args)with⟨hI|u,m⟩
  .refine⟨rfl,rfl,?_⟩;rcases NF hx with⟨c,rfl⟩|⟨k,rfl,_⟩
   .exact .inl rfl
   exact .inr ⟨rfl,rfl⟩
  rw[hx]at h;exact(h rfl).elim
 rw[oU G];exact⟨rfl,rfl,.inl rfl⟩
def EG(z:RunIn fmt p args st)(h:(un fmt p args st ft).status=1):(un fmt p args st ft).writes.map (·.key)=(un fmt p args st ft).puts/\(un fmt p args st ft).code=0/\y9 (un fmt p args st ft).writes=true:=by
 by_cases G:dK p args st ft
 .have o6:=(nB _ _ _ _).1 G;have An:=(YL (fmt:=fmt) (p:=p) (args:=args) (st:=st) (ft:=ft)).2;have zI:=λk hk=>(PU (fmt:=fmt) (p:=p) (args:=args) (st:=st) (ft:=ft) (k:=k) hk).1;rw[rA G]at h An zI|-;rcases hx:re (ya fmt st ft) p.body (iQ p args)with⟨hI|u,m⟩
  .rw[hx]at h;rcases NF hx with⟨c,rfl⟩|⟨k,rfl,_⟩<;>simp[kZ,ab,rst]at h
  rw[hx]at An zI;have hvm:=Dq (Rb z o6.2.2.1) (λq hq=>z.st q hq) p.body 1 (iQ p args) u m (A8 o6.1) (BM o6.1 z.body) (Cj z) (QF o6.2.1) hx;have hkeys:(kZ (.ok u,m)).writes.map (·.key)=(kZ (.ok u,m)).puts:=by simp[kZ,Function.comp_def]
  refine⟨hkeys,rfl,(oN _).2 ⟨λq hq=>?_,λq hq=>?_,?_⟩⟩
  .obtain⟨k,_,rfl⟩:=ig.1 hq;simp only;rcases hg:pb m.own k with _|w
   .exact F6
   exact hvm.2 _ (zK hg)
  .grind
  grind
 grind[oU,bI]
end
structure Txn where
 id:Int
 proc:na
 args:List AV
 ft:Foot
 att:Int
def Txn.c(t:Txn):List V:=[I t.id,my t.proc,.slice (t.args.map AV.c),Bo t.ft.all,.slice (t.ft.reads.map ny),.slice (t.ft.writes.map ny),I t.att]
def Ax(nb:List Proc)(name:na):Option Proc:=nb.find? λp=>decide (p.name=name)
def lB(nb:List Proc)(t:Txn):Option Proc :=
 match Ax nb t.proc with
 |none=>none
 |some p=>if gU p t.args=0 then some p else none
section
variable (fmt:Int->na)
def vx(nb:List Proc)(s:List Pr)(t:Txn):List Pr×Eff :=
 match lB nb t with
 |none=>(s,bI)
 |some p=>if (un fmt p t.args s t.ft).status=1 then(y7 s (un fmt p t.args s t.ft).writes,un fmt p t.args s t.ft)else(s,un fmt p t.args s t.ft)
def vp(nb:List Proc)(s:List Pr)(l:List Txn):List Pr×List Eff :=
 l.foldl (λy t=>((vx fmt nb y.1 t).1,y.2++[(vx fmt nb y.1 t).2])) (s,[])
end
def gD(e:Eff)(k:na):Bool:=decide (e.status=1)&&tf e.writes k
def Cu(s:List Pr)(e:Eff):List Pr:=if e.status=1/\ph s=true/\y9 e.writes=true then y7 s e.writes else s
section
variable (fmt:Int->na)
end
structure BatchIn(fmt:Int->na)(nb:List Proc)(l:List Txn):Prop where
 fmt:∀n,i64 n->tv (fmt n)=true
 body:∀p∈nb,∀t∈p.body,iX t
 args:∀t∈l,∀v∈t.args,r6 v
abbrev q8(s:List Pr):Prop:=∀q∈s,r6 q.v
section
variable {fmt:Int->na}
section
variable{nb:List Proc}{t:Txn}{p:Proc}{ft:Foot}{l:List Txn}
theorem HI(h:lB nb t=some p):p∈nb/\gU p t.args=0:=by
 unfold lB at h;split at h
 .cases h
 rename_i q hq;split at h
 .cases h;exact⟨List.mem_of_find?_eq_some hq,by assumption⟩
 cases h
theorem UQ{args:List AV}{a b:List Pr}(ha:ph a=true)(hb:ph b=true)(hg:∀k∈(un fmt p args a ft).reads,pp a k=pp b k):un fmt p args b ft=un fmt p args a ft:=by
 by_cases h:dK p args a ft
 .have G:=(nB _ _ _ _).1 h;have Y:dK p args b ft:=(nB _ _ _ _).2 ⟨G.1,G.2.1,hb,G.2.2.2⟩;rw[rA h,Gt]at hg;rw[rA h,rA Y];exact congrArg kZ (DI (qq0 (ya fmt a ft) b) p.body (iQ p args) hg)
 grind[oU,nB]
theorem JN{args:List AV}{s:List Pr}(h:(un fmt p args s ft).status=1):ph s=true:=by
 by_cases G:dK p args s ft
 .exact((nB _ _ _ _).1 G).2.2.1
 grind[oU,bI]
theorem Yd{args:List AV}{s:List Pr}(z:RunIn fmt p args s):q8 (un fmt p args s ft).writes:=by
 by_cases G:dK p args s ft
 .have o6:=(nB _ _ _ _).1 G;rw[rA G];rcases hx:re (ya fmt s ft) p.body (iQ p args)with⟨hI|u,m⟩
  .grind[kZ]
  have hi:=Am (C:=ya fmt s ft) (λq hq=>z.st q hq) p.body _ _ _ (BM o6.1 z.body) (Cj z) hx;intro q hq;simp only[kZ,ig]at hq;obtain⟨k,_,rfl⟩:=hq;simp only;rcases hg:pb m.own k with _|w
  .exact E2
  exact hi.rng.2 _ (zK hg)
 rw[oU G];intro q hq;cases hq
theorem FN{args:List AV}{s:List Pr}(z:RunIn fmt p args s):(un fmt p args s ft).writes.length<=64:=by
 by_cases O:(un fmt p args s ft).status=1
 .have h:=(EG z O).1;have hl:(un fmt p args s ft).writes.length=(un fmt p args s ft).puts.length:=W;by_cases hc:aO p=0
  .have O:=Pu (ft:=ft) z hc;have U:=F9 hc;omega
  grind[Nx,bI]
 grind[qnu]
theorem DV{l w:List Pr}(hl:q8 l)(hw:q8 w)(al:ph l=true)(aw:y9 w=true):q8 (y7 l w):=λq hq=>by
 rcases((FI ((zz l).1 al).2.2 ((oN w).1 aw).2.2).2 q).1 hq with h|h
 .grind
 grind
theorem Ix:∀(w out:List Pr),(oX out w).length<=out.length+w.length
 | [],out=>by simp[oX]
 |p::w,out=>by
  rw[oX];split
  .have:=Ix w out;simp only[jp];omega
  have:=Ix w (mR out p);grind[it,kc,jp,qiw,mR]
theorem NU(l w:List Pr):(y7 l w).length<=l.length+w.length:=by have O:=Ix w (nG w l);have U:=(JW w l).1.length_le;grind[y7]
structure OneOk(s:List Pr)(x:List Pr×Eff):Prop where
 rng:q8 x.1
 len:x.1.length<=s.length+64
 ok:ph s=true->ph x.1=true
 no:ph s=false->x.1=s
 get:∀k,gD x.2 k=false->pp x.1 k=pp s k
 upd:x.1=Cu s x.2
 rds:x.2.reads.length<=64
 wrs:x.2.writes.length<=64
 wrng:q8 x.2.writes
 com:x.2.status=1->ph s=true/\y9 x.2.writes=true
theorem Pv{s:List Pr}(hf:∀n,i64 n->tv (fmt n)=true)(hb:∀p∈nb,∀t∈p.body,iX t)(ha:∀v∈t.args,r6 v)(hs:q8 s):OneOk s (vx fmt nb s t):=by
 unfold vx;split
 .exact { rng:=hs,len:=by simp,ok:=id,no:=λ_=>rfl,get:=λ_ _=>rfl,upd:=by simp[Cu,bI],rds:=by simp[bI],wrs:=by simp[bI],wrng:=by intro q hq;simp[bI]at hq,com:=λh=>by simp[bI]at h }
 rename_i p hp;have z:RunIn fmt p t.args s:=⟨hf,hb p (HI hp).1,ha,hs⟩
 have hl:(un fmt p t.args s t.ft).reads.length<=64:=by
  by_cases hc:aO p=0
  .have O:=Pu (ft:=t.ft) z hc;have U:=F9 hc;omega
  grind[Nx,bI]
 have hw:=FN (ft:=t.ft) z;have aN:=Yd (ft:=t.ft) z;split
 .rename_i O;have aA:=JN O;have yw:=(EG z O).2.2;refine⟨DV hs aN aA yw,?_,λ_=>EJ aA yw,λh=>?_,λk hk=>?_,?_,hl,hw,aN,λ_=>⟨aA,yw⟩⟩
  .grind[NU]
  .grind
  .obtain⟨w1,w2,w3⟩:=(oN _).1 yw;simp only at hk|-;rw[Dy ((zz s).1 aA).2.2 w3 w1]
   simp_all[gD,jb]
  grind[Cu]
 rename_i O;refine⟨hs,Z,id,λ_=>rfl,λ_ _=>rfl,?_,hl,hw,aN,λh=>(O h).elim⟩;simp only[Cu];rw[gg (λh=>O h.1)]
theorem qkn{a b:List Pr}(ha:ph a=true)(hb:ph b=true)(hg:∀k∈(vx fmt nb a t).2.reads,pp a k=pp b k):(vx fmt nb b t).2=(vx fmt nb a t).2:=by grind[vx,UQ]
theorem CX(nb:List Proc)(s:List Pr)(l:List Txn)(t:Txn):vp fmt nb s (l++[t])=((vx fmt nb (vp fmt nb s l).1 t).1,(vp fmt nb s l).2++[(vx fmt nb (vp fmt nb s l).1 t).2]):=by simp[qj9,vp]
structure RoundOk(s:List Pr)(n:Nat)(x:List Pr×List Eff):Prop where
 rng:q8 x.1
 len:x.1.length<=s.length+64 * n
 cnt:x.2.length=n
 ok:ph s=true->ph x.1=true
 no:ph s=false->x.1=s
 get:∀k,(∀e∈x.2,gD e k=false)->pp x.1 k=pp s k
 rds:∀e∈x.2,e.reads.length<=64
 wrs:∀e∈x.2,e.writes.length<=64
 wrng:∀e∈x.2,q8 e.writes
theorem BatchIn.init(h:BatchIn fmt nb (l++[t])):BatchIn fmt nb l:=⟨h.fmt,h.body,λx hx=>h.args x be⟩
theorem BatchIn.take(h:BatchIn fmt nb l)(n:Nat):BatchIn fmt nb (l.take n):=⟨h.fmt,h.body,λx hx=>h.args x (qi2 hx)⟩
theorem JL{α:Type}{P:List α->Prop}(L:P [])(O:∀l x,P l->P (l++[x]))(l:List α):P l:=by
 have:∀n (l:List α),l.length=n->P l:=by
  intro n
  induction n with
  |zero=>intro l hl;rw[ko hl];exact L
  |succ n ih =>
   intro l hl;have nv:l≠[]:=W;have e:l=l.dropLast++[l.getLast nv]:=(List.dropLast_concat_getLast nv).symm;grind
 grind
theorem Fq{s:List Pr}(hs:q8 s):∀(l:List Txn),BatchIn fmt nb l->RoundOk s l.length (vp fmt nb s l):=by
 refine JL (λ_=>⟨hs,by simp[vp],rfl,id,λ_=>rfl,λ_ _=>rfl,by simp[vp],by simp[vp],by simp[vp]⟩) λl t ih hB=>?_;have hR:=ih hB.init;have hO:=Pv (fmt:=fmt) (nb:=nb) (t:=t) hB.fmt hB.body (hB.args t Z) hR.rng;rw[CX];refine⟨hO.rng,?_,by simp[hR.cnt],λh=>hO.ok (hR.ok h),λh=>?_,λk hk=>?_,λe he=>?_,λe he=>?_,λe he=>?_⟩
 .have:=hR.len;have:=hO.len;simp only[it,lj];omega
 .have O:=hR.no h;have:=hO.no W;grind
 .simp only[jj,jx]at hk;rw[hO.get k (hk _ (.inr rfl)),hR.get k (λe he=>hk e (.inl he))]
 .simp only[jj,jx]at he;rcases he with he|rfl
  .exact hR.rds e he
  exact hO.rds
 .simp only[jj,jx]at he;rcases he with he|rfl
  .exact hR.wrs e he
  exact hO.wrs
 simp only[jj,jx]at he;rcases he with he|rfl
 .exact hR.wrng e he
 exact hO.wrng
end
end
abbrev zG(l:List Int):List Int:=l.mergeSort λx y=>decide (x<=y)
def mG(l:List Int):List Int:=Lib.compact (zG l)
def M9{d:Array Int}(hd:∀i j,i<=j->j<d.size->d[i]!<=d[j]!):∀m,m<=d.size ->
  (Lib.compactUpTo d m).Pairwise (· < ·)/\(∀x,x∈Lib.compactUpTo d m↔∃j,j<m/\d[j]! = x)/\∀x∈Lib.compactUpTo d m,x<=d[m - 1]!
 | 0,_=>by simp[Lib.compactUpTo]
 |m+1,hm=>by
  obtain⟨O,U,h3⟩:=M9 hd m J;rw[Lib.compactUpTo_succ];by_cases hk:Lib.keeps d m=true
  .rw[gh hk];refine⟨List.pairwise_append.2 ⟨O,Z,λa ha b hb=>?_⟩,λx=>?_,λx hx=>?_⟩
   .simp only[jx]at hb;subst hb;have hx:=h3 a ha;obtain⟨j,hj,_⟩:=(U a).1 ha;have nh:=hd (m - 1) m J J;unfold Lib.keeps at hk;simp only[jm]at hk;rcases hk with hk|hk
    .omega
    omega
   .grind
   rw[Nat.add_sub_cancel];rcases jj.1 hx with hx|hx
   .obtain⟨j,hj,e⟩:=(U x).1 hx;rw[<-e];exact hd j m J J
   grind
  rw[gg hk,jv];unfold Lib.keeps at hk;simp only[jm,not_or,Decidable.not_not]at hk;refine⟨O,λx=>?_,λx hx=>?_⟩
  .grind
  grind
def WJ(l:List Int):(zG l).Pairwise (·<=·):=by grind[List.pairwise_mergeSort]
def Sn(l:List Int):(mG l).Pairwise (· < ·)/\∀x,x∈mG l↔x∈l:=by
 have hs:=WJ l;have hd:∀i j,i<=j->j<(zG l).toArray.size->(zG l).toArray[i]!<=(zG l).toArray[j]!:=λi j hij hj=>by
  simp only[qi3]at hj;rw[qjo _ i W,qjo _ j J];by_cases e:i=j
  .grind
  exact qju.1 hs i j J hj J
 obtain⟨O,U,_⟩:=M9 hd (zG l).length Z;refine⟨O,λx=>(U x).trans ?_⟩;constructor
 .rintro⟨j,hj,e⟩;rw[qjo _ j J]at e;have:x∈zG l:=e▸ij J;exact List.mem_mergeSort.1 this
 intro hx;obtain⟨j,hj,e⟩:=qja (List.mem_mergeSort.2 hx:x∈zG l);exact⟨j,hj,by rw[qjo _ j J];exact e⟩
theorem C4(l:List Int):(mG l).Pairwise (· < ·):=(Sn l).1
theorem xJ{l:List Int}{x:Int}:x∈mG l↔x∈l:=(Sn l).2 x
def qt9(l:List Int):(mG l).Nodup:=(C4 l).imp (λh=>by omega)
structure Part where
 id:Int
 frm:na
 node:Int
 dest:Int
 done:na
def Part.c(x:Part):List V:=[I x.id,my x.frm,I x.node,I x.dest,my x.done]
structure Plc where
 ver:Int
 parts:List Part
def Plc.c(p:Plc):List V:=[I p.ver,.slice (p.parts.map Part.c)]
def yU(b:UInt8):Bool:=decide (33<=b.toNat)&&decide (b.toNat<=126)
def lG(s:na):Bool:=ue yU (bl s)&&decide ((s.size:Int)<=24)
def jX(n:Int):Bool:=decide (1<=n)&&decide (n<=16)
def pZ(n:Int):Bool:=decide (1<=n)&&decide (n<=1099511627776)
def pS(x:Part)(nx:Option na):Bool :=
 if x.dest=0 then decide (x.done=em)
 else jX x.dest&&!decide (x.dest=x.node)&&lG x.done&&!px x.done x.frm&&(match nx with|none=>true|some y=>px x.done y)
def GO(qf:List Part)(x:Part):Bool:=match qf.getLast? with|none=>true|some y=>lG x.frm&&px y.frm x.frm
theorem JS(x:Part):GO [] x=true:=rfl
theorem Jt{l:List Part}{m:Nat}(hm:m<l.length)(x:Part):GO (l.take (m+1)) x=(lG x.frm&&px l[m].frm x.frm):=by unfold GO;rw[jn hm,List.getLast?_append];rfl
def eT:List Part->List Part->Bool
 |_,[]=>true
 |qf,x::l=>GO qf x&&pZ x.id&&jX x.node&&pS x (l.head?.map (·.frm))&&!qf.any (λy=>decide (y.id=x.id))&&eT (qf++[x]) l
def qw(p:Plc):Bool :=
 decide (0<=p.ver)&&decide (p.ver<=1099511627776)&&decide (1<=p.parts.length)&&decide (p.parts.length<=16)&&(match p.parts with| []=>false|x::_=>decide (x.frm=em))&&eT [] p.parts
def gG(l:List Part)(k:na):Nat->Nat
 | 0=>0
 |i+1=>match l[i+1]? with
  |some x=>if px k x.frm=true then gG l k i else i+1
  |none=>gG l k i
def GF(l:List Part)(k:na):∀i,gG l k i<=i
 | 0=>gj _
 |i+1=>by
  rw[gG];have:=GF l k i;split
  .grind
  omega
def sg(p:Plc)(k:na):Int :=
 if qw p=false then 0 else match p.parts[gG p.parts k (p.parts.length - 1)]? with
 |none=>0
 |some x=>if x.dest≠0/\px k x.done=true then x.dest else x.node
def fD(l:List Part):List Int:=l.flatMap λx=>if x.dest≠0 then [x.node,x.dest]else [x.node]
def uk(p:Plc):List Int:=if qw p=true then mG (fD p.parts)else []
def zN{p:Plc}(h:qw p=true):1<=p.parts.length/\p.parts.length<=16:=by simp_all[gy,qw]
def EF{p:Plc}(h:qw p=true)(k:na):sg p k∈uk p:=by
 have hl:=zN h;have hi:=GF p.parts k (p.parts.length - 1);rw[show uk p=mG (fD p.parts)from gh h];unfold sg;rw[gg (show ¬qw p=false by simp[h]),ii J];simp only;rw[xJ];unfold fD;refine qjm.2 ⟨p.parts[gG p.parts k (p.parts.length - 1)]'J,ij _,?_⟩;by_cases hd:(p.parts[gG p.parts k (p.parts.length - 1)]'J).dest≠0
 .grind
 grind
theorem Em(p:Plc):(uk p).Pairwise (· < ·):=by grind[uk,C4,List.Pairwise.nil]
def M4(p:Plc):(uk p).Nodup:=(Em p).imp (λh=>by omega)
section
variable{l w:List Pr}
def vR(q:Pr)(l:List Pr):List Pr:=if q.v.k=0 then l else q::l
def vt:List Pr->List Pr->List Pr
 | [],[]=>[]
 | [],q::w=>vR q (vt [] w)
 |p::l,[]=>p::vt l []
 |p::l,q::w=>if px p.key q.key=true then p::vt l (q::w)else if px q.key p.key=true then vR q (vt (p::l) w)else vR q (vt l w)
termination_by l w=>l.length+w.length
decreasing_by all_goals simp only[jp,ju];omega
theorem xT{p:Pr}:qg (ur (p::l))↔(∀q∈l,px p.key q.key=true)/\qg (ur l):=Z
theorem DB:∀{l m:List Pr},qg (ur l)->qg (ur m)->(∀q,q∈l↔q∈m)->l=m
 | [],[],_,_,_=>rfl
 | [],q::m,_,_,h=>by have:=(h q).2 Z;cases this
 |p::l,[],_,_,h=>by have:=(h p).1 Z;cases this
 |p::l,q::m,hl,hm,h=>by
  rw[xT]at hl hm;have e:p=q:=by grind[EQ]
  subst e;have:l=m:=DB hl.2 hm.2 λq=>by grind[uZ]
  rw[this]
theorem BW{q x:Pr}:x∈vR q l↔(x=q/\x.v.k≠0)\/x∈l:=by grind[vR]
def Lh{q:Pr}(h:∀x∈l,px q.key x.key=true)(hl:qg (ur l)):qg (ur (vR q l)):=by grind[vR,xT]
theorem Qd(q:Pr)(w:List Pr)(k:na):tf (q::w) k=(decide (q.key=k)||tf w k):=by simp[tf,ut]
def qwo(l w:List Pr):(∀x∈vt l w,x∈l\/x∈w):=by
 induction l,w using vt.induct with
 |case1=>intro x hx;simp[vt]at hx
 |case2 q w ih =>
  intro x hx;rw[vt,BW]at hx;rcases hx with⟨rfl,_⟩|hx
  .simp
  grind
 |case3 p l ih =>
  intro x hx;rw[vt,iq]at hx;rcases hx with rfl|hx
  .simp
  grind
 |case4 p l q w O ih =>
  intro x hx;rw[vt,gh O,iq]at hx;rcases hx with rfl|hx
  .simp
  grind
 |case5 p l q w O U ih =>
  intro x hx;rw[vt,gg O,gh U,BW]at hx;rcases hx with⟨rfl,_⟩|hx
  .simp
  grind
 |case6 p l q w O U ih =>
  intro x hx;rw[vt,gg O,gg U,BW]at hx;rcases hx with⟨rfl,_⟩|hx
  .simp
  grind
theorem AD{a b:na}(O:¬px a b=true)(U:¬px b a=true):a=b:=by have:=A3 a b;simp only[Bool.not_eq_true]at O U;rw[O,U]at this;simpa using this
theorem TT{q:na}(h:∀x∈w,px q x.key=true):tf w q=false:=Dc.2 λp hp e=>by grind[uZ]
theorem SP(l w:List Pr):qg (ur l)->qg (ur w)->qg (ur (vt l w))/\∀q,q∈vt l w↔(q∈l/\tf w q.key=false)\/(q∈w/\q.v.k≠0):=by
 induction l,w using vt.induct with
 |case1=>intro _ _;simp[vt,ur]
 |case2 q w ih =>
  intro hl hw;rw[xT]at hw;obtain⟨i1,i2⟩:=ih hl hw.2;rw[vt];refine⟨Lh (λx hx=>?_) i1,λx=>?_⟩
  .grind
  grind[BW]
 |case3 p l ih =>
  intro hl hw;rw[xT]at hl;obtain⟨i1,i2⟩:=ih hl.2 hw;rw[vt];refine⟨xT.2 ⟨λx hx=>?_,i1⟩,λx=>?_⟩
  .grind
  grind[tf,ut]
 |case4 p l q w O ih =>
  intro hl hw;have hw0:=hw;rw[xT]at hl hw;obtain⟨i1,i2⟩:=ih hl.2 hw0;have hp:∀x∈q::w,px p.key x.key=true:=λx hx=>by grind[uK]
  rw[vt,gh O];refine⟨xT.2 ⟨λx hx=>?_,i1⟩,λx=>?_⟩
  .grind
  grind[TT]
 |case5 p l q w O U ih =>
  intro hl hw;have eE:=hl;rw[xT]at hl hw;obtain⟨i1,i2⟩:=ih eE hw.2;have hq:∀x∈p::l,px q.key x.key=true:=λx hx=>by grind[uK]
  rw[vt,gg O,gh U];refine⟨Lh (λx hx=>?_) i1,λx=>?_⟩
  .grind
  grind[BW,Qd,uZ,qka]
 |case6 p l q w O U ih =>
  intro hl hw;rw[xT]at hl hw;obtain⟨i1,i2⟩:=ih hl.2 hw.2;have e:=AD O U;have hq:∀x∈l,px q.key x.key=true:=λx hx=>by rw[<-e];exact hl.1 x hx
  rw[vt,gg O,gg U];refine⟨Lh (λx hx=>?_) i1,λx=>?_⟩
  .grind
  grind[BW,Qd,uZ,qka]
def OF(hl:qg (ur l))(hw:qg (ur w)):vt l w=y7 l w:=by grind[DB,SP,FI]
end
def Bq(f:Foot):Foot:=if vi f.all f.reads f.writes=true then f else⟨true,[],[]⟩
def YV(a b:Foot):Bool:=if b.all=true then true else if a.all=true then decide (0<b.reads.length)else a.writes.any λk=>qa b.reads k
def qp5(l:List Foot)(j:Nat)(f:Foot):List Nat:=(List.range j).filter λi=>match l[i]? with|some g=>YV (Bq g) (Bq f)|none=>false
section
variable {fmt:Int->na}
theorem Nl{s:List Pr}{e:Eff}(hs:ph s=true)(he:e.status=1->y9 e.writes=true)(k:na):pp (Cu s e) k=if gD e k=true then pp e.writes k else pp s k:=by
 unfold Cu gD;by_cases h:e.status=1
 .have hw:=he h;rw[gh ⟨h,hs,hw⟩];obtain⟨w1,w2,w3⟩:=(oN _).1 hw;rw[Dy ((zz s).1 hs).2.2 w3 w1];simp[h]
 grind
def fY(fmt:Int->na)(nb:List Proc)(s:List Pr)(l:List Txn)(i:Nat):List Pr:=(vp fmt nb s (l.take i)).1
def fO(fmt:Int->na)(nb:List Proc)(s:List Pr)(l:List Txn)(i:Nat)(t:Txn):Eff:=(vx fmt nb (fY fmt nb s l i) t).2
theorem RI{nb:List Proc}{s:List Pr}{l:List Txn}{i:Nat}(h:i<l.length):fY fmt nb s l (i+1)=(vx fmt nb (fY fmt nb s l i) l[i]).1:=by grind[jn,CX,fY]
theorem Ja{nb:List Proc}{s:List Pr}:∀(l:List Txn),(vp fmt nb s l).2.length=l.length :=
 JL (by rfl) λl t ih=>by rw[CX];simp[ih]
theorem TU{nb:List Proc}{s:List Pr}:∀(l:List Txn) (i:Nat) (h:i<l.length),(vp fmt nb s l).2[i]?=some (fO fmt nb s l i l[i]):=by
 refine JL (λi h=>by simp at h) λl t ih i h=>?_;rw[CX];by_cases hi:i<l.length
 .grind[Ja,List.getElem_append_left,fO,fY]
 have e:i=l.length:=by simp at h;omega
 subst e;have hl:=Ja (fmt:=fmt) (nb:=nb) (s:=s) l;rw[gz J,hl];simp[fO,fY]
structure MvIn(fmt:Int->na)(nb:List Proc)(s:List Pr)(l:List Txn)(effs:List Eff)(done:List Bool):Prop where
 le:effs.length=l.length
 ld:done.length=l.length
 ok:∀i (h:i<l.length),done.getD i false=true->effs[i]?=some (fO fmt nb s l i l[i])
section
variable {nb:List Proc} {s:List Pr} {l:List Txn} {effs:List Eff} {done:List Bool}
def OB(hB:BatchIn fmt nb l)(hs:q8 s){i:Nat}(h:i<l.length):OneOk (fY fmt nb s l i) (vx fmt nb (fY fmt nb s l i) l[i]) :=
 Pv hB.fmt hB.body (hB.args _ (ij h)) (Fq hs _ (hB.take i)).rng
theorem FE(hB:BatchIn fmt nb l)(hs:q8 s)(L:ph s=true)(i:Nat):ph (fY fmt nb s l i)=true:=(Fq hs _ (hB.take i)).ok L
def Y9{t:Txn}{k:na}(h:k∈(vx fmt nb s t).2.reads):vi t.ft.all t.ft.reads t.ft.writes=true/\(t.ft.all=true\/qa t.ft.reads k=true):=by
 unfold vx at h;split at h
 .cases h
 rename_i p hp;have h:k∈(un fmt p t.args s t.ft).reads:=W;refine⟨?_,(qmg h).2.2⟩;by_cases G:dK p t.args s t.ft
 .exact((nB _ _ _ _).1 G).2.2.2
 rw[oU G]at h;cases h
def qq7{t:Txn}{k:na}(hB:BatchIn fmt nb [t])(hs:q8 s)(h:gD (vx fmt nb s t).2 k=true):vi t.ft.all t.ft.reads t.ft.writes=true/\(t.ft.all=true\/qa t.ft.writes k=true):=by
 unfold vx at h;split at h
 .grind[gD,bI]
 rename_i p hp;have h:gD (un fmt p t.args s t.ft) k=true:=W;unfold gD at h;simp only[gy,jm]at h;have z:RunIn fmt p t.args s:=⟨hB.fmt,hB.body p (HI hp).1,hB.args t Z,hs⟩
 have hc:=(EG (ft:=t.ft) z h.1).1;have hk:k∈(un fmt p t.args s t.ft).puts:=by grind[rH]
 refine⟨?_,(PU hk).2⟩;by_cases G:dK p t.args s t.ft
 .exact((nB _ _ _ _).1 G).2.2.2
 grind[oU,bI]
end
end
theorem SG:∀(l m:List Nat),l.Nodup->(∀x∈l,x∈m)->l.length<=m.length
 | [],m,_,_=>by simp
 |x::l,m,hd,h=>by have hx:=h x Z;have zn:=l7.1 hd;have O:=SG l (m.erase x) zn.2 (λy hy=>(List.mem_erase_of_ne W).2 (h y c0));rw[List.length_erase_of_mem hx]at O;have U:0<m.length:=List.length_pos_of_mem hx;simp only[jp];omega
theorem qsd(n:Nat)(l:List Nat)(hd:l.Nodup)(h:∀x∈l,x<n):l.length<=n:=by have:=SG l (List.range n) hd (λx hx=>qil.2 (h x hx));simpa using this
theorem SQ{n:Nat}{l:List Nat}(hd:l.Nodup)(h:∀x∈l,x<n)(hl:l.length=n):∀j,j<n->j∈l:=λj hj=>by
 by_cases hm:j∈l
 .exact hm
 have O:=qsd n (j::l) (l7.2 ⟨hm,hd⟩) (λx hx=>by
  rcases iq.1 hx with rfl|hx
  .exact hj
  exact h x hx)
 simp at O;omega
def V3(fs:List Foot)(j:Nat):List Nat:=match fs[j]? with|some f=>qp5 fs j f|none=>[]
def vV(choices:List Int)(step n:Nat):Nat:=match choices[step]? with|some c=>if c<0 then 0 else(c.toNat % n)|none=>0
section
variable (fmt:Int->na)
end
structure MvJ(fmt:Int->na)(nb:List Proc)(s:List Pr)(l:List Txn)(n:Nat)(x:List Eff×List Bool×List Nat):Prop where
 inv:MvIn fmt nb s l x.1 x.2.1
 len:x.2.2.length=n
 nod:x.2.2.Nodup
 mem:∀j,x.2.1.getD j false=true↔j∈x.2.2
 lt:∀j∈x.2.2,j<l.length
 dep:∀a (h:a<x.2.2.length),∀i∈V3 (l.map (·.ft)) x.2.2[a],i∈x.2.2.take a
section
variable {fmt:Int->na} {nb:List Proc} {s:List Pr} {l:List Txn} {choices:List Int}
theorem Yc{step n:Nat}(h:0<n):vV choices step n<n:=by
 unfold vV;split
 .split
  .exact h
  exact qik _ h
 exact h
end
def mX(a b:List na):Bool:=a.any λk=>qa b k
def mB(a b:Foot):Bool :=
 if vi a.all a.reads a.writes=false\/vi b.all b.reads b.writes=false\/a.all=true\/b.all=true then true
 else mX a.writes b.writes||(mX a.writes b.reads||mX a.reads b.writes)
section
variable {fmt:Int->na} {nb:List Proc} {s:List Pr}
end
theorem qnb:vi true [] []=true:=by simp[vi]
def qon(f:Foot):vi (Bq f).all (Bq f).reads (Bq f).writes=true:=by grind[Bq,qnb]
structure Ord(n:Nat)(o:List Nat)(at':List Int):Prop where
 len:o.length=n
 la:at'.length=n
 lt:∀k∈o,k<n
 nod:o.Nodup
 at_:∀a (h:a<o.length),at'.getD o[a] (-1)=a
theorem Ord.get{n:Nat}{o:List Nat}{at':List Int}(h:Ord n o at'){k:Nat}(hk:k<n):∃a,∃ha:a<o.length,o[a]=k/\at'.getD k (-1)=a:=by have hm:=SQ h.nod h.lt h.len k hk;obtain⟨a,ha,rfl⟩:=List.mem_iff_getElem.1 hm;exact⟨a,ha,rfl,h.at_ a ha⟩
structure Pl(n:Nat)(q:List Nat)(m:List Int):Prop where
 la:m.length=n
 lt:∀k∈q,k<n
 nod:q.Nodup
 ok:∀a (h:a<q.length),m.getD q[a] (-1)=a
 no:∀k,k∉q->m.getD k (-1) = -1
theorem OI{α:Type}(m:List α)(k j:Nat)(v d:α)(h:k<m.length):(m.set k v).getD j d=if k=j then v else m.getD j d:=W
theorem Pl.mem{n:Nat}{q:List Nat}{m:List Int}(h:Pl n q m)(k:Nat):0<=m.getD k (-1)↔k∈q:=by
 constructor
 .intro L;by_cases hk:k∈q
  .exact hk
  rw[h.no k hk]at L;omega
 intro hk;obtain⟨a,ha,rfl⟩:=List.mem_iff_getElem.1 hk;rw[h.ok a ha];omega
def Pl.step{n:Nat}{q:List Nat}{m:List Int}(h:Pl n q m){k:Nat}(hk:k<n)(hq:k∉q):Pl n (q++[k]) (m.set k q.length):=by
 have hl:k<m.length:=by rw[h.la];exact hk
 refine⟨by simp[h.la],λx hx=>?_,?_,λa ha=>?_,λx hx=>?_⟩
 .rcases jj.1 hx with hx|hx
  .exact h.lt x hx
  grind
 .rw[qjb];refine⟨h.nod,Z,λx hx y hy e=>?_⟩;simp at hy;subst hy e;exact hq hx
 .rw[OI _ _ _ _ _ hl];by_cases O:a<q.length
  .rw[List.getElem_append_left O,gg (λe=>hq W)];exact h.ok a O
  grind
 simp only[jj,jx,not_or]at hx;rw[OI _ _ _ _ _ hl,gg (λe=>hx.2 e.symm)];exact h.no x hx.1
theorem Pl.nil(n:Nat):Pl n [] (List.replicate n (-1)):=⟨Z,Z,Z,Z,λk _=>by simp only[qj7,qj6];split<;>rfl⟩
def FF(fs:List Foot)(i j:Nat):Bool:=match fs[i]?,fs[j]? with|some a,some b=>mB a b|_,_=>false
theorem Jb(a b:List na):mX a b=mX b a:=by grind[qip,aD,mX]
theorem qrk(a b:Foot):mB a b=mB b a:=by
 unfold mB;by_cases h:vi a.all a.reads a.writes=false\/vi b.all b.reads b.writes=false\/a.all=true\/b.all=true
 .grind
 rw[gg h,gg (λg=>h W),Jb a.writes b.writes,Jb a.writes b.reads,Jb a.reads b.writes,Bool.or_comm (mX b.reads a.writes)]
section
variable (fmt:Int->na)
end
inductive Leg(fs:List Foot):List Nat->Prop
 |nil:Leg fs []
 |snoc {o:List Nat} {j:Nat}:Leg fs o->j<fs.length->j∉o->(∀i,i<j->FF fs i j=true->i∈o)->Leg fs (o++[j])
section
variable {fs:List Foot} {o:List Nat}
theorem Leg.cl(h:Leg fs o):∀n∈o,∀i,i<n->FF fs i n=true->i∈o:=by
 induction h with
 |nil=>intro n hn;cases hn
 |snoc h hj qz hc ih =>
  intro n hn i hi hx;simp only[jj,jx]at hn|-;rcases hn with hn|rfl
  .grind
  grind
theorem Leg.lt(h:Leg fs o):∀n∈o,n<fs.length:=by
 induction h with
 |nil=>intro n hn;cases hn
 |snoc h hj qz hc ih =>
  intro n hn;simp only[jj,jx]at hn;rcases hn with hn|rfl
  .grind
  exact hj
theorem Leg.nod(h:Leg fs o):o.Nodup:=by
 induction h with
 |nil=>exact qiz
 |snoc h hj qz hc ih=>exact qjb.2 ⟨ih,Z,λa ha b hb=>by simp at hb;subst hb;rintro rfl;exact qz ha⟩
theorem Leg.at(h:Leg fs o):∀a (ha:a<o.length) i,i<o[a]->FF fs i o[a]=true->i∈o.take a:=by
 induction h with
 |nil=>intro a ha;cases ha
 | @snoc o j h hj qz hc ih =>
  intro a ha i hi hx;by_cases e:a<o.length
  .grind
  grind
end
theorem KR{a b:List Pr}(ha:ph a=true)(hb:ph b=true)(h:∀k,pp a k=pp b k):a=b:=by
 obtain⟨a1,a2,a3⟩:=(zz a).1 ha;obtain⟨b1,b2,b3⟩:=(zz b).1 hb;have half:∀{a b:List Pr},(∀p∈a,iM p.v/\p.v.k≠0)->qg (ur a)->(∀k,pp a k=pp b k)->∀q∈a,q∈b:=λ{a b} O U h q hq=>by
  have h3:=CK U hq;have h4:pp b q.key≠AV.nil:=by rw[<-h,h3];intro e;have:=(O q hq).2;rw[e]at this;exact this rfl
  have h5:=D4 h4;rw[<-h,h3]at h5;exact h5
 exact DB a3 b3 λq=>⟨half a1 a3 h q,half b1 b3 (λk=>(h k).symm) q⟩
section
variable {fmt:Int->na} {nb:List Proc} {s:List Pr} {l:List Txn}
theorem YD(hB:BatchIn fmt nb l){j:Nat}(h:j<l.length):BatchIn fmt nb [l[j]]:=⟨hB.fmt,hB.body,λx hx=>by simp at hx;subst hx;exact hB.args _ (ij h)⟩
theorem TP{a b:Foot}{k:na}(ha:vi a.all a.reads a.writes=true)(hb:vi b.all b.reads b.writes=true)(O:a.all=true\/qa a.writes k=true)(U:b.all=true\/qa b.reads k=true\/qa b.writes k=true):mB a b=true:=by
 unfold mB;split
 .rfl
 rename_i hc;simp only[not_or,Bool.not_eq_false,Bool.not_eq_true]at hc;have O:qa a.writes k=true:=O.resolve_left W;rcases U.resolve_left W with U|U
 .have:mX a.writes b.reads=true:=qip.2 ⟨k,aD.1 O,U⟩;simp[this]
 have:mX a.writes b.writes=true:=qip.2 ⟨k,aD.1 O,U⟩;simp[this]
structure ExOk(fmt:Int->na)(nb:List Proc)(s:List Pr)(l:List Txn)(o:List Nat)(x:List Pr×List Eff):Prop where
 rng:q8 x.1
 len:x.1.length<=s.length+64 * o.length
 cnt:x.2.length=l.length
 ok:ph s=true->ph x.1=true
 no:ph s=false->x.1=s
 eff:∀j (h:j<l.length),j∈o->x.2[j]?=some (fO fmt nb s l j l[j])
 get:ph s=true->∀k i,i<=l.length->(∀n (h:n<l.length),gD (fO fmt nb s l n l[n]) k=true->(n∈o↔n<i))->pp x.1 k=pp (fY fmt nb s l i) k
theorem JE(hB:BatchIn fmt nb l)(hs:q8 s)(L:ph s=true)(k:na)(a:Nat):∀b,a<=b->b<=l.length->(∀n (h:n<l.length),a<=n->n<b->gD (fO fmt nb s l n l[n]) k=false)->pp (fY fmt nb s l b) k=pp (fY fmt nb s l a) k
 | 0,h,_,_=>by rw[show a=0 by omega]
 |b+1,h,hb,hw=>by
  by_cases e:a=b+1
  .rw[e]
  have ih:=JE hB hs L k a b J J λn h O U=>hw n h O J;have hO:=OB hB hs (show b<l.length by omega);rw[RI J,hO.upd,Nl (FE hB hs L b) (λh=>(hO.com h).2),<-ih];have:=hw b J J J;unfold fO at this;rw[gg W]
theorem Vo(hB:BatchIn fmt nb l)(hs:q8 s){n:Nat}(h:n<l.length){k:na}(hw:gD (fO fmt nb s l n l[n]) k=true):vi l[n].ft.all l[n].ft.reads l[n].ft.writes=true/\(l[n].ft.all=true\/qa l[n].ft.writes k=true) :=
 qq7 (YD hB h) (Fq hs _ (hB.take n)).rng hw
theorem qmr{n:Nat}(h:n<l.length){k:na}(hk:k∈(fO fmt nb s l n l[n]).reads):vi l[n].ft.all l[n].ft.reads l[n].ft.writes=true/\(l[n].ft.all=true\/qa l[n].ft.reads k=true) :=
 Y9 hk
end
abbrev lU(f:Foot):Bool:=vi f.all f.reads f.writes
def v6(p:Plc)(f:Foot):Bool:=qw p&&lU f
def sh(p:Plc)(f:Foot):List Int:=if v6 p f=false then []else if f.all=true then uk p else mG ((f.reads++f.writes).map (sg p))
def tZ(p:Plc)(f:Foot):List Int:=if v6 p f=false then []else if f.all=true then uk p else mG (f.writes.map (sg p))
def HW(p:Plc):Int:=match p.parts with| []=>0|x::_=>x.node
def sj(p:Plc)(f:Foot):List Int :=
 if v6 p f=false then []else if 0<(tZ p f).length then tZ p f else if 0<(sh p f).length then(sh p f).take 1 else [HW p]
def lI(p:Plc)(l:List na)(n:Int):List na:=l.filter λk=>decide (sg p k=n)
def tK(p:Plc)(f:Foot)(n:Int):Foot :=
 if v6 p f=false then⟨false,[],[]⟩else if f.all=true then⟨(uk p).any λx=>decide (x=n),[],[]⟩else⟨false,lI p f.reads n,lI p f.writes n⟩
def A2(f:Foot)(k:na):Prop:=f.all=true\/k∈f.reads
def Bt(f:Foot)(k:na):Prop:=f.all=true\/k∈f.writes
section
variable {p:Plc} {f:Foot}
def nN(h:v6 p f=true):qw p=true/\lU f=true:=by grind[v6]
def Uz(h:qw p=true):HW p∈uk p:=by
 have hl:=zN h;rw[show uk p=mG (fD p.parts)from gh h,xJ];unfold HW fD;cases hp:p.parts with
 |nil=>rw[hp]at hl;simp at hl
 |cons x l =>
  refine qjm.2 ⟨x,Z,?_⟩;simp only;split<;>simp
theorem Fe(h:v6 p f=true):∀n∈sh p f,n∈uk p:=λn hn=>by
 unfold sh at hn;rw[gg cn]at hn;split at hn
 .exact hn
 obtain⟨k,_,rfl⟩:=ig.1 (xJ.1 hn);exact EF (nN h).1 k
def Nr(h:v6 p f=true):∀n∈tZ p f,n∈sh p f:=λn hn=>by grind[xJ,tZ,sh]
theorem LS(p:Plc)(f:Foot):(sh p f).Pairwise (· < ·):=by
 unfold sh;split
 .exact .nil
 split
 .exact Em p
 exact C4 _
def W6(p:Plc)(f:Foot):(tZ p f).Pairwise (· < ·):=by
 unfold tZ;split
 .exact .nil
 split
 .exact Em p
 exact C4 _
def qnn(p:Plc)(f:Foot):(sj p f).Pairwise (· < ·):=by
 unfold sj;split
 .exact .nil
 split
 .exact W6 p f
 split
 .grind[LS]
 simp
def qnj(h:v6 p f=true):sj p f≠[]:=by grind[kc,ju,sj]
def Mo(h:v6 p f=true):∀n∈sj p f,n∈uk p:=λn hn=>by
 unfold sj at hn;rw[gg cn]at hn;split at hn
 .exact Fe h n (Nr h n hn)
 split at hn
 .grind[Fe]
 simp only[jx]at hn;subst hn;exact Uz (nN h).1
def O6(h:v6 p f=true){k:na}(hk:Bt f k):sg p k∈tZ p f:=by
 unfold tZ;rw[gg cn];split
 .exact EF (nN h).1 k
 rename_i ha;rw[xJ];exact ig.2 ⟨k,hk.resolve_left ha,rfl⟩
def Ph(h:v6 p f=true){k:na}(hk:Bt f k):sg p k∈sj p f:=by have:=O6 h hk;unfold sj;rw[gg cn,gh (List.length_pos_of_mem this)];exact this
def K1(h:v6 p f=true){k:na}(hk:Bt f k):sg p k∈sh p f:=Nr h _ (O6 h hk)
def qni(h:v6 p f=true){k:na}(hk:A2 f k):sg p k∈sh p f:=by
 unfold sh;rw[gg cn];split
 .exact EF (nN h).1 k
 rename_i ha;rw[xJ];exact ig.2 ⟨k,by simp[hk.resolve_left ha],rfl⟩
def Lq(h:v6 p f=true)(n:Int):lU (tK p f n)=true:=by
 have hf:=(nN h).2;unfold tK;rw[gg cn];split
 .rcases(uk p).any λx=>decide (x=n)with _|_<;>rfl
 rename_i ha;have ha:f.all=false:=W;unfold lU vi at hf|-;rw[ha,gg Z]at hf;rw[gg Z];simp only[gy,jm]at hf|-;have key:∀{l:List na},cX none l=true->(l.length:Int)<=64->cX none (lI p l n)=true/\((lI p l n).length:Int)<=64:=λ{l} O U=>by obtain⟨a1,a2,_⟩:=(DW _ _).1 O;have tj:(lI p l n).Sublist l:=List.filter_sublist;refine⟨(DW _ _).2 ⟨λk hk=>a1 k (tj.subset hk),List.Pairwise.sublist tj a2,Z⟩,?_⟩;have:=tj.length_le;omega
 exact⟨key hf.1.1 hf.1.2,key hf.2.1 hf.2.2⟩
def Ip{a b:Foot}(ha:v6 p a=true)(hb:v6 p b=true){k:na}(O:Bt a k)(U:A2 b k\/Bt b k):mB (tK p a (sg p k)) (tK p b (sg p k))=true:=by
 have hn:((uk p).any λx=>decide (x=sg p k))=true:=qip.2 ⟨_,EF (nN ha).1 k,Z⟩;refine TP (k:=k) (Lq ha _) (Lq hb _) ?_ ?_
 .unfold tK;rw[gg (by simp[ha])];split
  .grind
  rename_i h;exact .inr (aD.2 (kl.2 ⟨O.resolve_left h,Z⟩))
 unfold tK;rw[gg (by simp[hb])];split
 .grind
 rename_i h;rcases U with U|U
 .exact .inr (.inl (aD.2 (kl.2 ⟨U.resolve_left h,Z⟩)))
 exact .inr (.inr (aD.2 (kl.2 ⟨U.resolve_left h,Z⟩)))
end
structure Mail where
 txn:Int
 frm:Int
 to:Int
 keys:List na
 prs:List Pr
def Mail.c(m:Mail):List V:=[I m.txn,I m.frm,I m.to,.slice (m.keys.map ny),.slice (m.prs.map Pr.c)]
def sG(a b:Mail):Bool:=decide (a.txn=b.txn)&&decide (a.frm=b.frm)&&decide (a.to=b.to)&&ta gY a.keys b.keys&&ta iF a.prs b.prs
theorem EL{α:Type}{f:α->α->Bool}(hf:∀a b,f a b=true↔a=b):∀{l m:List α},ta f l m=true↔l=m
 | [],[]=>by simp[ta]
 | [],y::m=>by simp[ta]
 |x::l,[]=>by simp[ta]
 |x::l,y::m=>by rw[ta,gy,hf,EL hf,List.cons.injEq]
theorem UR(a b:na):gY a b=true↔a=b:=by simp[gY]
theorem PP(a b:Pr):iF a b=true↔a=b:=by obtain⟨k,⟨x,y,hI⟩⟩:=a;obtain⟨k',⟨x',y',z'⟩⟩:=b;simp[iF,bM]
theorem Qh(a b:Mail):sG a b=true↔a=b:=by obtain⟨t,f,o,k,l⟩:=a;obtain⟨t',f',o',k',l'⟩:=b;unfold sG;simp only[gy,jm,EL UR,EL PP,Mail.mk.injEq,and_assoc]
def cC(a b:List Pr):List Pr×Int:=if ph a=false\/ph b=false then([],1)else if b.any (λx=>tf a x.key)=true then([],8)else(y7 a b,0)
def wN(t n:Int)(m:Mail):Bool:=decide (m.txn=t)&&decide (m.to=n)
def aX(t n:Int)(l:List Mail):List Mail:=l.foldl (λnw m=>if (wN t n m&&!nw.any (λx=>sG x m))=true then nw++[m]else nw) []
def vQ:List Mail->List Mail->List Pr->List Pr×Int
 |_,[],out=>(out,0)
 |qf,m::l,out=>if qf.any (λx=>decide (x.frm=m.frm))=true then([],8)else if (cC out m.prs).2≠0 then([],8)else vQ (qf++[m]) l (cC out m.prs).1
def cN(t n:Int)(l:List Mail):List Pr×Int :=
 if (aX t n l).length=0 then([],9)else if (aX t n l).any (λm=>!ph m.prs)=true then([],1)else vQ [] (aX t n l) []
def CA(t n:Int):∀(l nw:List Mail),nw.Nodup->(l.foldl (λnw m=>if (wN t n m&&!nw.any (λx=>sG x m))=true then nw++[m]else nw) nw).Nodup /\
  ∀m,m∈l.foldl (λnw m=>if (wN t n m&&!nw.any (λx=>sG x m))=true then nw++[m]else nw) nw↔m∈nw\/(m∈l/\wN t n m=true)
 | [],nw,h=>⟨h,λm=>by simp⟩
 |y::l,nw,h=>by
  rw[kr];by_cases hc:(wN t n y&&!nw.any (λx=>sG x y))=true
  .rw[gh hc];simp only[gy,mh,List.any_eq_false,Qh]at hc;obtain⟨O,U⟩:=CA t n l (nw++[y]) (qjb.2 ⟨h,Z,λa ha b hb=>by simp at hb;subst hb;exact hc.2 a ha⟩);refine⟨O,λm=>(U m).trans ?_⟩;simp only[jj,iq,qi0,or_false];constructor
   .grind
   grind
  rw[gg hc];obtain⟨O,U⟩:=CA t n l nw h;refine⟨O,λm=>(U m).trans ?_⟩;simp only[iq];constructor
  .grind
  rintro(h|⟨rfl|h,h3⟩)
  .grind
  .simp_all[jb,mh,Bool.not_eq_false,qip,Qh]
  grind
theorem Dn{t n:Int}{l:List Mail}{m:Mail}:m∈aX t n l↔m∈l/\m.txn=t/\m.to=n:=by have:=(CA t n l [] .nil).2 m;unfold aX;rw[this];simp[wN]
theorem Yg(t n:Int)(l:List Mail):(aX t n l).Nodup:=(CA t n l [] .nil).1
theorem BY{a b:List Pr}(ha:ph a=true)(hb:ph b=true)(k:na):pp (y7 a b) k=if tf b k=true then pp b k else pp a k:=by obtain⟨a1,a2,a3⟩:=(zz a).1 ha;obtain⟨b1,b2,b3⟩:=(zz b).1 hb;exact Dy a3 b3 (λq hq=>(b1 q hq).1) k
theorem G0{a:List Pr}{k:na}(h:tf a k=false):pp a k=AV.nil:=Dj (Dc.1 h)
def Qm{own:na->Int}:∀(l qf:List Mail) (out:List Pr),((qf++l).map (·.frm)).Nodup->(∀m∈l,ph m.prs=true/\q8 m.prs/\∀q∈m.prs,own q.key=m.frm)->ph out=true->q8 out->(∀q∈out,own q.key∈qf.map (·.frm)) ->
  ∃lQ,vQ qf l out=(lQ,0)/\ph lQ=true/\q8 lQ/\∀k,(∀m∈l,own k=m.frm->pp lQ k=pp m.prs k)/\((∀m∈l,own k≠m.frm)->pp lQ k=pp out k)
 | [],qf,out,_,_,h,G,_=>⟨out,by rw[vQ],h,G,λk=>⟨λm hm=>gd,λ_=>rfl⟩⟩
 |m::l,qf,out,hn,hl,h,G,ho=>by
  obtain⟨m1,m2,m3⟩:=hl m Z;have lC:((qf++[m]++l).map (·.frm)).Nodup:=W
  have bQ:∀x∈qf,x.frm≠m.frm:=λx hx e=>by grind
  have hfl:∀x∈l,x.frm≠m.frm:=λx hx e=>by grind
  have Q:cC out m.prs=(y7 out m.prs,0):=by unfold cC;rw[gg W,gg];simp only[qip,not_exists,not_and];intro x hx hh;obtain⟨q,hq,e⟩:=ig.1 (rH.1 hh);obtain⟨y,hy,e2⟩:=ig.1 (ho q hq);rw[e,m3 x hx]at e2;exact bQ y hy e2
  have aN:y9 m.prs=true:=by obtain⟨b1,b2,b3⟩:=(zz m.prs).1 m1;exact(oN _).2 ⟨λq hq=>(b1 q hq).1,b2,b3⟩
  have ha:=EJ h aN;have dQ:=DV G m2 h aN;have vX:∀q∈y7 out m.prs,own q.key∈(qf++[m]).map (·.frm):=λq hq=>by
   have hg:=CK ((zz _).1 ha).2.2 hq;rw[BY h m1]at hg;rcases hx:tf m.prs q.key with _|_
   .rw[hx,gg Z]at hg;have nv:pp out q.key≠AV.nil:=by
     exact Qdu
    have:=ho _ (D4 nv);simp only[jr,jj];exact .inl this
   obtain⟨x,hx,e⟩:=ig.1 (rH.1 hx);rw[<-e,m3 x hx];simp
  obtain⟨lQ,g1,g2,g3,g4⟩:=Qm l (qf++[m]) (y7 out m.prs) lC (λx hx=>hl x be) ha dQ vX;refine⟨lQ,?_,g2,g3,λk=>⟨λx hx e=>?_,λhk=>?_⟩⟩
  .grind[vQ,qip]
  .rcases iq.1 hx with rfl|hx
   .rw[(g4 k).2 (λy hy=>by rw[e];exact(hfl y hy).symm),BY h m1];split
    .rfl
    rename_i hh;rw[G0 (k:=k) (a:=x.prs) W,G0];rcases hz:tf out k with _|_
    .rfl
    obtain⟨q,hq,e1⟩:=ig.1 (rH.1 hz);obtain⟨y,hy,e2⟩:=ig.1 (ho q hq);rw[e1,e]at e2;exact(bQ y hy e2).elim
   grind
  rw[(g4 k).2 (λy hy=>hk y c0),BY h m1,gg];intro hh;obtain⟨x,hx,e⟩:=ig.1 (rH.1 hh);exact hk m Z W
def Xl{own:na->Int}{t n:Int}{l:List Mail}(Q:∀m∈l,∀x∈l,m.txn=t->x.txn=t->m.to=n->x.to=n->m.frm=x.frm->m=x)(hl:∀m∈l,m.txn=t->m.to=n->ph m.prs=true/\q8 m.prs/\∀q∈m.prs,own q.key=m.frm) :
  ph (cN t n l).1=true/\q8 (cN t n l).1/\∀k,(∀m∈l,m.txn=t->m.to=n->own k=m.frm->pp (cN t n l).1 k=pp m.prs k)/\((∀m∈l,m.txn=t->m.to=n->own k≠m.frm)->pp (cN t n l).1 k=AV.nil):=by
 have hm:∀m∈aX t n l,ph m.prs=true/\q8 m.prs/\∀q∈m.prs,own q.key=m.frm:=λm hm=>by grind[Dn]
 have sP:((aX t n l).map (·.frm)).Nodup:=by grind[List.Nodup,List.Pairwise.imp_of_mem,Yg,Dn]
 unfold cN;split
 .rename_i L;have L:=qj0.1 L;refine⟨rfl,by simp[q8],λk=>⟨λm hm O U _=>?_,λ_=>rfl⟩⟩;have:m∈aX t n l:=Dn.2 ⟨hm,O,U⟩;rw[L]at this;cases this
 rw[gg]
 .obtain⟨lQ,g1,g2,g3,g4⟩:=Qm (own:=own) (aX t n l) [] [] W hm rfl (by simp[q8]) Z;rw[g1];refine⟨g2,g3,λk=>⟨λm hm O U e=>(g4 k).1 m (Dn.2 ⟨hm,O,U⟩) e,λh=>(g4 k).2 λm hm=>?_⟩⟩;obtain⟨O,U,h3⟩:=Dn.1 hm;exact h m O U h3
 grind
section
variable{fs:Nat->Foot}{R:List Nat}
structure LReq where
 t:Int
 w:Bool
structure LQ where
 key:na
 reqs:List LReq
structure LT where
 glob:List LReq
 qs:List LQ
def LReq.c(r:LReq):List V:=[I r.t,Bo r.w]
def LQ.c(q:LQ):List V:=[my q.key,.slice (q.reqs.map LReq.c)]
def LT.c(t:LT):List V:=[.slice (t.glob.map LReq.c),.slice (t.qs.map LQ.c)]
abbrev r8(l:List LQ):List na:=l.map (·.key)
def qR:Option Int->List LReq->Bool
 |_,[]=>true
 |q,r::l=>(!decide (r.t<0)&&q.elim true λp=>decide (p<r.t))&&qR (some r.t) l
def oW(g:List LReq)(t:Int):Bool:=match g.find? λx=>decide (x.t=t)with|some x=>!x.w|none=>false
def pF(g:List LReq):Option na->List LQ->Bool
 |_,[]=>true
 |k,q::l=>(zp q.key&&after k q.key&&!q.reqs.isEmpty&&qR none q.reqs)&&(q.reqs.all λr=>oW g r.t)&&pF g (some q.key) l
def kV(t:LT):Bool:=qR none t.glob&&pF t.glob none t.qs
def ua(k:na)(r:LReq):List LQ->List LQ
 | []=>[⟨k,[r]⟩]
 |q::l=>if px q.key k=true then q::ua k r l else if q.key=k then⟨k,q.reqs++[r]⟩::l else⟨k,[r]⟩::q::l
def gW(k:na):List LQ->List LReq
 | []=>[]
 |q::l=>if q.key=k then q.reqs else gW k l
theorem Rw{k:na}:∀{l:List LQ},(∀q∈l,q.key≠k)->gW k l=[]
 | [],_=>rfl
 |q::l,h=>by rw[gW,gg (h q Z),Rw λq hq=>h q fk]
theorem Ez{k:na}{r:List LReq}:∀{l:List LQ},qg (r8 l)->(⟨k,r⟩:LQ)∈l->gW k l=r
 | [],_,h=>by cases h
 |q::l,ha,h=>by
  obtain⟨O,U⟩:=jy.1 ha;rw[gW];rcases iq.1 h with rfl|h
  .simp
  have:px q.key k=true:=O k (ig.2 ⟨_,h,rfl⟩);rw[gg (uI this)];exact Ez U h
def Ft{k:na}:∀{l:List LQ},gW k l≠[]->(⟨k,gW k l⟩:LQ)∈l
 | [],h=>(h rfl).elim
 |q::l,h=>by
  rw[gW]at h|-;by_cases e:q.key=k
  .rw[gh e];subst e;simp
  rw[gg e]at h|-;exact List.mem_cons_of_mem _ (Ft h)
def LJ{k:na}{r:LReq}:∀{l:List LQ} {x:na},x∈r8 (ua k r l)->x=k\/x∈r8 l
 | [],x,h=>by simpa[ua]using h
 |q::l,x,h=>by
  rw[ua]at h;split at h
  .simp only[jd,iq]at h|-;rcases h with h|h
   .grind
   exact(LJ h).imp id .inr
  grind
def AX{k:na}{r:LReq}:∀{l:List LQ},qg (r8 l)->qg (r8 (ua k r l))
 | [],_=>by simp[ua,qg]
 |q::l,h=>by
  obtain⟨O,U⟩:=jy.1 h;rw[ua];split
  .rename_i hk;refine jy.2 ⟨λx hx=>?_,AX U⟩;rcases LJ hx with rfl|hx
   .exact hk
   grind
  rename_i hk;split
  .grind
  rename_i e;have ni:px k q.key=true:=by
   rcases qjv (px k q.key)with g|g
   .exact g
   exact(e (AD hk W)).elim
  grind[uK,jy]
theorem zB{k:na}{r:LReq}:∀{l:List LQ},qg (r8 l)->∀q,q∈ua k r l↔(q.key≠k/\q∈l)\/q=⟨k,gW k l++[r]⟩
 | [],_,q=>by simp[ua,gW]
 |x::l,h,q=>by
  obtain⟨O,U⟩:=jy.1 h;rw[ua,gW];split
  .rename_i hk;rw[gg (uI hk),iq,zB U q,iq];constructor
   .rintro(rfl|⟨a,b⟩|e)
    .exact .inl ⟨uI hk,.inl rfl⟩
    .grind
    grind
   grind
  rename_i hk;have hout:∀q∈l,x.key≠q.key:=λq hq=>uI (O _ (ig.2 ⟨q,hq,rfl⟩));split
  .grind
  rename_i e;have ni:px k x.key=true:=by
   rcases qjv (px k x.key)with g|g
   .exact g
   exact(e (AD hk W)).elim
  have qz:∀q∈x::l,q.key≠k:=λq hq e'=>by grind
  rw[Rw λq hq=>qz q fk];simp only[ke];grind
theorem qpp{k x:na}{r:LReq}{l:List LQ}(h:qg (r8 l)):gW x (ua k r l)=if x=k then gW k l++[r]else gW x l:=by
 by_cases e:x=k
 .subst e;rw[gh rfl];exact Ez (AX h) ((zB h _).2 (.inr rfl))
 rw[gg e];by_cases hn:gW x l=[]
 .rw[hn];by_cases jG:gW x (ua k r l)=[]
  .exact jG
  have hm:=(zB h _).1 (Ft jG);grind[Ez]
 exact Ez (AX h) ((zB h _).2 (.inl ⟨e,Ft hn⟩))
def xL(r:na->LReq)(ks:List na)(l:List LQ):List LQ:=ks.foldl (λl k=>ua k (r k) l) l
def Mx{r:na->LReq}:∀(ks:List na) (l:List LQ),ks.Nodup->qg (r8 l)->qg (r8 (xL r ks l))/\∀q,q∈xL r ks l↔(q.key∉ks/\q∈l)\/(q.key∈ks/\q.reqs=gW q.key l++[r q.key])
 | [],l,_,h=>⟨h,λq=>by simp[xL]⟩
 |k::ks,l,hn,h=>by
  obtain⟨n1,n2⟩:=l7.1 hn;obtain⟨i1,i2⟩:=Mx (r:=r) ks (ua k (r k) l) n2 (AX h);refine⟨i1,λq=>?_⟩;show q∈xL r ks (ua k (r k) l)↔_;rw[i2,zB h,qpp h];simp only[iq,not_or];constructor
  .grind
  rintro(⟨⟨a,b⟩,c⟩|⟨a|a,b⟩)
  .grind
  .left;refine⟨by rw[a];exact n1,.inr ?_⟩;obtain⟨qk,qr⟩:=q;grind
  grind
def fV(f:Foot)(k:na):Bool:=qa f.writes k||qa f.reads k
def rq(fs:Nat->Foot)(k:na)(R:List Nat):List LReq:=(R.filter λi=>fV (fs i) k).map λ(i:Nat)=>⟨(i:Int),qa (fs i).writes k⟩
structure TabOk(fs:Nat->Foot)(R:List Nat)(T:LT):Prop where
 glob:T.glob=R.map λ(i:Nat)=>⟨(i:Int),(fs i).all⟩
 asc:qg (r8 T.qs)
 mem:∀q,q∈T.qs↔q.reqs=rq fs q.key R/\q.reqs≠[]
theorem qn8(fs:Nat->Foot):TabOk fs [] ⟨[],[]⟩:=⟨rfl,by simp[qg],λq=>by simp[rq]⟩
theorem qpw(fs:Nat->Foot)(k:na)(R:List Nat)(n:Nat):rq fs k (R++[n])=if fV (fs n) k=true then rq fs k R++[⟨(n:Int),qa (fs n).writes k⟩]else rq fs k R:=by grind[rq]
theorem VZ{T:LT}(h:TabOk fs R T)(k:na):gW k T.qs=rq fs k R:=by
 by_cases e:rq fs k R=[]
 .rw[e];by_cases hn:gW k T.qs=[]
  .exact hn
  have:=((h.mem _).1 (Ft hn)).1;grind
 exact Ez h.asc ((h.mem ⟨k,rq fs k R⟩).2 ⟨rfl,e⟩)
def XD{T:LT}{n:Nat}{ks:List na}(h:TabOk fs R T)(hn:ks.Nodup)(hk:∀k,k∈ks↔fV (fs n) k=true) :
  TabOk fs (R++[n]) ⟨T.glob++[⟨(n:Int),(fs n).all⟩],xL (λk=>⟨(n:Int),qa (fs n).writes k⟩) ks T.qs⟩:=by
 obtain⟨a1,a2⟩:=Mx (r:=λk=>⟨(n:Int),qa (fs n).writes k⟩) ks T.qs hn h.asc;refine⟨by simp[h.glob],a1,λq=>?_⟩;simp only;rw[a2,qpw,VZ h,h.mem,hk];by_cases e:fV (fs n) q.key=true
 .simp_all
 grind
def fL(t:Int)(l:List LReq):List LReq:=l.filter λr=>!decide (r.t=t)
def eA(t:Int):List LQ->List LQ
 | []=>[]
 |q::l=>if fL t q.reqs=[]then eA t l else⟨q.key,fL t q.reqs⟩::eA t l
def uM(t:Int)(T:LT):LT:=⟨fL t T.glob,eA t T.qs⟩
theorem He{t:Int}:∀(l:List LQ) (q:LQ),q∈eA t l↔q.reqs≠[]/\∃x∈l,x.key=q.key/\fL t x.reqs=q.reqs
 | [],q=>by simp[eA]
 |x::l,q=>by
  rw[eA];split
  .simp_all[He]
  rename_i e;rw[iq,He l q];constructor
  .grind
  rintro⟨a,y,hy,b,c⟩;rcases iq.1 hy with rfl|hy
  .simp_all
  grind
def qmn{t:Int}:∀{l:List LQ} {k:na},k∈r8 (eA t l)->k∈r8 l:=λ{l k} h=>by obtain⟨q,hq,rfl⟩:=ig.1 h;obtain⟨_,x,hx,e,_⟩:=(He l q).1 hq;grind
def H0{t:Int}:∀{l:List LQ},qg (r8 l)->qg (r8 (eA t l))
 | [],_=>by simp[eA,qg]
 |q::l,h=>by
  obtain⟨O,U⟩:=jy.1 h;rw[eA];split
  .exact H0 U
  exact jy.2 ⟨λx hx=>O x (qmn hx),H0 U⟩
theorem I7(fs:Nat->Foot)(k:na)(R:List Nat)(n:Nat):fL n (rq fs k R)=rq fs k (R.filter λi=>!decide (i=n)):=by unfold fL rq;rw[List.filter_map,qkb,qkb];grind
def Uc{T:LT}(h:TabOk fs R T)(n:Nat):TabOk fs (R.filter λi=>!decide (i=n)) (uM n T):=by
 refine⟨?_,H0 h.asc,λq=>?_⟩
 .unfold uM fL;simp only;rw[h.glob,List.filter_map];grind[qjw]
 unfold uM;simp only;rw[He];constructor
 .rintro⟨a,x,hx,b,c⟩;have:=((h.mem x).1 hx).1;grind[I7]
 rintro⟨a,b⟩;refine⟨b,⟨q.key,rq fs q.key R⟩,(h.mem _).2 ⟨rfl,λe=>b ?_⟩,rfl,?_⟩
 .have e:rq fs q.key R=[]:=e;rw[a,<-I7,e];rfl
 rw[a,I7]
end
def eI(t:Int)(l:List LReq):List Int:=match l.find? λr=>decide (r.t=t)with
 |none=>[]
 |some r=>((l.takeWhile λx=>!decide (x.t=t)).filter λx=>x.w||r.w).map (·.t)
def mZ(T:LT)(t:Int):List Int:=eI t T.glob++T.qs.flatMap λq=>eI t q.reqs
theorem Lg(w:Nat->Bool)(i:Nat):∀(R:List Nat),R.Pairwise (· < ·)->eI i (R.map λ(j:Nat)=>⟨(j:Int),w j⟩)=if i∈R then(R.filter λj=>decide (j<i)&&(w j||w i)).map Int.ofNat else []
 | [],_=>rfl
 |x::R,h=>by
  obtain⟨O,U⟩:=jy.1 h;by_cases e:x=i
  .subst e;have:(R.filter λj=>decide (j<x)&&(w j||w x))=[]:=List.filter_eq_nil_iff.2 λj hj=>by grind
   simp[eI,this]
  have e':¬(x:Int)=(i:Int):=J;have ih:=Lg w i R U;unfold eI at ih|-;simp only[jd,iq,Ne.symm e,false_or];rw[List.find?_cons_of_neg (by simp[e']),List.takeWhile_cons_of_pos (by simp[e'])];by_cases hm:i∈R
  .have ni:=O i hm;rw[gh hm]at ih|-;have hf:(R.map λ(j:Nat)=>(⟨(j:Int),w j⟩:LReq)).find? (λr=>decide (r.t=(i:Int)))=some ⟨(i:Int),w i⟩:=W;rw[hf]at ih|-;simp only at ih|-;rw[List.filter_cons,List.filter_cons];simp only[ni,decide_true,jb];split
   .grind
   exact ih
  grind
def NT{fs:Nat->Foot}{R:List Nat}{T:LT}(h:TabOk fs R T)(hR:R.Pairwise (· < ·))(hf:∀i∈R,vi (fs i).all (fs i).reads (fs i).writes=true){i:Nat}(hi:i∈R) :
  mZ T i=[]↔∀j∈R,j<i->mB (fs j) (fs i)=false:=by
 have e1:eI i T.glob=[]↔∀j∈R,j<i->((fs j).all||(fs i).all)=false:=by rw[h.glob,Lg (λj=>(fs j).all) i R hR,gh hi,List.map_eq_nil_iff,List.filter_eq_nil_iff];refine forall₂_congr λj hj=>?_;simp
 have e2:∀q∈T.qs,(eI i q.reqs=[]↔(fV (fs i) q.key=true->∀j∈R,j<i->fV (fs j) q.key=true->(qa (fs j).writes q.key||qa (fs i).writes q.key)=false)):=λq hq=>by
  rw[((h.mem q).1 hq).1];unfold rq;rw[Lg (λj=>qa (fs j).writes q.key) i _ (hR.filter _)];by_cases hh:fV (fs i) q.key=true
  .grind[List.map_eq_nil_iff,List.filter_eq_nil_iff]
  grind
 unfold mZ;rw[List.append_eq_nil_iff,e1,List.flatMap_eq_nil_iff];constructor
 .rintro⟨g1,g2⟩ j hj aI;have O:=g1 j hj aI;simp only[qka]at O;rcases hx:mB (fs j) (fs i)with _|_
  .rfl
  exfalso;unfold mB at hx;rw[gg W]at hx;have key:∀k,fV (fs j) k=true->fV (fs i) k=true->(qa (fs j).writes k||qa (fs i).writes k)=true->False:=λk a b c=>by
   have hq:(⟨k,rq fs k R⟩:LQ)∈T.qs:=(h.mem _).2 ⟨rfl,λe=>by have:i∈R.filter λi=>fV (fs i) k:=kl.2 ⟨hi,b⟩;unfold rq at e;rw[List.map_eq_nil_iff]at e;rw[e]at this;cases this⟩
   have:=(e2 _ hq).1 (g2 _ hq) b j hj aI a;rw[c]at this;cases this
  simp only[mX,qis,qip]at hx;rcases hx with⟨k,a,b⟩|⟨k,a,b⟩|⟨k,a,b⟩
  .grind[fV,aD]
  .have a:=aD.2 a;exact key k (by simp[fV,a]) (by simp[fV,b]) (by simp[a])
  grind[fV,aD]
 intro g;have nall:∀j∈R,j<i->(fs j).all=false/\(fs i).all=false/\mX (fs j).writes (fs i).writes=false/\mX (fs j).writes (fs i).reads=false/\mX (fs j).reads (fs i).writes=false:=λj hj aI=>by
  have:=g j hj aI;unfold mB at this;split at this
  .cases this
  grind
 refine⟨λj hj aI=>by simp[(nall j hj aI).1,(nall j hj aI).2.1],λq hq=>(e2 q hq).2 λhik j hj aI kD=>?_⟩;obtain⟨_,_,m1,m2,m3⟩:=nall j hj aI;have no:∀{a b:List na},mX a b=false->qa a q.key=true->qa b q.key=true->False:=λ{a b} m x y=>by unfold mX at m;rw[List.any_eq_false]at m;exact m _ (aD.1 x) y
 unfold fV at hik kD;rcases qjv (qa (fs j).writes q.key)with x|x
 .grind
 grind
def B5(fs:List Foot)(o:List Nat):List Nat:=(List.range fs.length).filter λi=>!o.contains i&&(List.range i).all λj=>o.contains j||!FF fs j i
def wB(fs:List Foot)(choices:List Int):Nat->List Nat
 | 0=>[]
 |n+1=>wB fs choices n++[(B5 fs (wB fs choices n)).getD (vV choices n (B5 fs (wB fs choices n)).length) 0]
section
variable {fs:List Foot} {o:List Nat}
def qk4(n:Nat)(o:List Nat):List Nat:=(List.range n).filter λi=>!o.contains i
end
end Go.Cw
namespace Go.Cw
theorem KN{α:Type}(q:α->Bool):∀(l:List α) (n:Nat),(vy q n l = -1/\l.find? q=none)\/∃(m:Nat) (hm:m<l.length),vy q n l=((n+m:Nat):Int)/\l.find? q=some l[m]
 | [],n=>.inl ⟨by rw[vy],rfl⟩
 |x::l,n=>by
  rw[vy];by_cases h:q x=true
  .right;exact⟨0,Z,cn,cn⟩
  rw[gg h];rcases KN q l (n+1)with⟨O,U⟩|⟨m,hm,O,U⟩
  .grind
  refine .inr ⟨m+1,au,?_,?_⟩
  .omega
  grind
def D1{α:Type}(q:α->Bool)(l:List α):(ul q l = -1/\l.find? q=none)\/∃(m:Nat) (hm:m<l.length),ul q l=(m:Int)/\l.find? q=some l[m]:=by grind[ul,KN]
end Go.Cw
namespace Go.Cw
open Go Go.Abs
theorem J3{α:Type}(q:α->Bool):∀(l:List α) (n m:Nat),vy q n l=((n+m:Nat):Int)->l.takeWhile (λx=>!q x)=l.take m
 | [],n,m,h=>by simp
 |x::l,n,m,h=>by
  rw[vy]at h;by_cases hx:q x=true
  .rw[gh hx]at h;have:m=0:=J;subst this;simp[hx]
  rw[gg hx]at h;cases m with
  |zero =>
   exfalso;rcases KN q l (n+1)with⟨O,_⟩|⟨k,_,O,_⟩
   .omega
   omega
  |succ m =>
   rw[qix,List.takeWhile_cons_of_pos W,J3 q l (n+1) m J]
def OH(t:Int)(l:List LReq):(ul (λx:LReq=>decide (x.t=t)) l = -1/\eI t l=[])\/∃(m:Nat) (hm:m<l.length),ul (λx:LReq=>decide (x.t=t)) l=(m:Int)/\eI t l=((l.take m).filter λx=>x.w||l[m].w).map (·.t):=by
 rcases D1 (λx:LReq=>decide (x.t=t)) l with⟨O,U⟩|⟨m,hm,O,U⟩
 .grind[eI]
 refine .inr ⟨m,hm,O,?_⟩;unfold eI;rw[U];simp only;rw[J3 (λx:LReq=>decide (x.t=t)) l 0 m (by rw[im];exact O)]
def NH(t:Int)(l:List LReq):(eI t l).length<=l.length:=by
 rcases OH t l with⟨_,h⟩|⟨m,hm,_,h⟩
 .grind
 grind
def PB{α β:Type}{f g:β->α->β}:∀(l:List α) (b:β),(∀x∈l,∀c,f c x=g c x)->l.foldl f b=l.foldl g b
 | [],_,_=>rfl
 |x::l,b,h=>by rw[kr,kr,h x Z];exact PB l _ λy hy=>h y c0
def Mg{l:List na}(h:qg l):l.Nodup:=h.imp λh=>uI h
theorem Fb{f:Foot}(h:vi f.all f.reads f.writes=true):qg f.reads/\qg f.writes/\(∀k∈f.reads,zp k=true)/\(∀k∈f.writes,zp k=true)/\f.reads.length<=64/\f.writes.length<=64/\(f.all=true->f.reads=[]/\f.writes=[]):=by
 obtain⟨a,r,w⟩:=f;unfold vi at h;cases a with
 |true =>
  simp_all
 |false =>
  simp only[qjf,jg,gy,jm]at h;obtain⟨⟨O,U⟩,h3,h4⟩:=h;obtain⟨r1,r2,_⟩:=(DW _ _).1 O;obtain⟨w1,w2,_⟩:=(DW _ _).1 h3;grind
def Bs(f:Foot):List na:=f.writes++f.reads.filter λk=>!qa f.writes k
def qkq{f:Foot}(h:vi f.all f.reads f.writes=true):(Bs f).Nodup:=by obtain⟨O,U,_⟩:=Fb h;refine qjb.2 ⟨Mg U,Mg (O.filter _),λa ha b hb e=>?_⟩;subst e;have:=(kl.1 hb).2;rw[aD.2 ha]at this;cases this
def qp0{f:Foot}{k:na}:k∈Bs f↔fV f k=true:=by
 unfold Bs fV;rw[jj,kl,qis,aD,aD];by_cases h:k∈f.writes
 .simp[h]
 have:qa f.writes k=false:=l8.2 λe=>h (aD.1 e);simp[h,this]
def qlc{f:Foot}(h:vi f.all f.reads f.writes=true):(Bs f).length<=128:=by grind[it,Bs,Fb,qjx]
def uV(n:Int)(f:Foot)(qs:List LQ):List LQ:=f.reads.foldl (λl k=>if qa f.writes k=true then l else ua k ⟨n,false⟩ l) (f.writes.foldl (λl k=>ua k ⟨n,true⟩ l) qs)
theorem Rk(n:Int)(f:Foot)(qs:List LQ):uV n f qs=xL (λk=>⟨n,qa f.writes k⟩) (Bs f) qs:=by
 unfold uV xL Bs;rw[qj9,List.foldl_filter];have e1:f.writes.foldl (λl k=>ua k ⟨n,true⟩ l) qs=f.writes.foldl (λl k=>ua k ⟨n,qa f.writes k⟩ l) qs:=PB _ _ λk hk c=>by rw[aD.2 hk]
 rw[e1];grind
section
variable {fs:Nat->Foot} {R:List Nat} {T:LT}
def qml(h:TabOk fs R T){n:Nat}(hf:vi (fs n).all (fs n).reads (fs n).writes=true):TabOk fs (R++[n]) ⟨T.glob++[⟨(n:Int),(fs n).all⟩],uV n (fs n) T.qs⟩:=by rw[Rk];exact XD h (qkq hf) λk=>qp0
theorem K0(w:Nat->Bool):∀(R:List Nat) (p:Option Int),R.Pairwise (· < ·)->(∀i∈R,∀x,p=some x->x<(i:Int))->qR p (R.map λ(i:Nat)=>⟨(i:Int),w i⟩)=true
 | [],_,_,_=>rfl
 |i::R,p,h,hp=>by
  obtain⟨O,U⟩:=jy.1 h;have ih:=K0 w R (some (i:Int)) U λj hj x hx=>by cases hx;have:=O j hj;omega
  rw[jd,qR,ih,kg,gy];refine⟨Z,?_⟩;cases p with
  |none=>rfl
  |some x=>exact ki (hp i Z x rfl)
theorem R0(w:Nat->Bool){i:Nat}:∀(R:List Nat),i∈R->w i=false->oW (R.map λ(j:Nat)=>⟨(j:Int),w j⟩) (i:Int)=true
 | [],h,_=>by cases h
 |j::R,h,hw=>by
  by_cases e:j=i
  .grind[List.find?_cons_of_pos,oW]
  have e':¬(j:Int)=(i:Int):=J;have hm:i∈R:=(iq.1 h).resolve_left λg=>e g.symm;have ih:=R0 w R hm hw;grind[oW]
def Mv{g:List LReq}:∀(l:List LQ) (k:Option na),qg (r8 l)->(∀p,k=some p->∀x∈r8 l,px p x=true)->(∀q∈l,zp q.key=true/\q.reqs≠[]/\qR none q.reqs=true/\∀r∈q.reqs,oW g r.t=true)->pF g k l=true
 | [],_,_,_,_=>rfl
 |q::l,k,h,hk,hq=>by
  obtain⟨O,U⟩:=jy.1 h;obtain⟨q1,q2,q3,q4⟩:=hq q Z;have ih:=Mv l (some q.key) U (λp hp x hx=>by cases hp;exact O x hx) λx hx=>hq x be;have h5:after k q.key=true:=by
   cases k with
   |none=>rfl
   |some p=>exact hk p rfl _ Z
  grind[pF]
def Iq(h:TabOk fs R T)(hR:R.Pairwise (· < ·))(hf:∀i∈R,vi (fs i).all (fs i).reads (fs i).writes=true):kV T=true:=by
 unfold kV;rw[gy];constructor
 .rw[h.glob]
  simp_all[K0]
 refine Mv T.qs none h.asc (λ_ e=>by cases e) λq hq=>?_;obtain⟨e1,e2⟩:=(h.mem q).1 hq;have th:∀i∈R,fV (fs i) q.key=true->zp q.key=true/\(fs i).all=false:=λi hi hh=>by obtain⟨_,_,f3,f4,_,_,f7⟩:=Fb (hf i hi);unfold fV at hh;rw[qis,aD,aD]at hh;grind
 have cB:∀r∈q.reqs,∃i∈R,fV (fs i) q.key=true/\r.t=(i:Int):=λr G=>by grind[rq]
 refine⟨?_,e2,?_,λr G=>?_⟩
 .obtain⟨r,G⟩:=List.exists_mem_of_ne_nil _ e2;grind
 .rw[e1];exact K0 (λi=>qa (fs i).writes q.key) _ none (hR.filter _) λ_ _ _ e=>by cases e
 obtain⟨i,a,b,c⟩:=cB r G;rw[c,h.glob]
 simp_all[R0]
abbrev bE(qs:List LQ):Nat:=(qs.map λq=>q.reqs.length).sum
theorem NV{k:na}{r:LReq}:∀(l:List LQ),bE (ua k r l)=bE l+1
 | []=>by simp[ua,bE]
 |q::l=>by have ih:=NV (k:=k) (r:=r) l;grind[ua]
theorem Nm{r:na->LReq}:∀(ks:List na) (l:List LQ),bE (xL r ks l)=bE l+ks.length
 | [],l=>rfl
 |k::ks,l=>by have e:xL r (k::ks) l=xL r ks (ua k (r k) l):=rfl;rw[e,Nm ks,NV,jp];omega
theorem Rf(t:Int)(l:List LReq):(fL t l).length<=l.length:=qjx _ _
def MF(t:Int):∀(l:List LQ),bE (eA t l)<=bE l
 | []=>gj _
 |q::l=>by have ih:=MF t l;grind[eA,Rf]
def PM:∀{l:List LQ} {q:LQ},q∈l->q.reqs.length<=bE l
 |x::l,q,h=>by
  simp only[bE,jd,List.sum_cons];rcases iq.1 h with rfl|h
  .omega
  have:=PM h;grind
def PG:∀{l:List LQ},(∀q∈l,q.reqs≠[])->l.length<=bE l
 | [],_=>gj _
 |x::l,h=>by have ih:=PG λq hq=>h q (List.mem_cons_of_mem _ hq);have O:=List.length_pos_iff.2 (h x Z);grind
def NX(t:Int):∀(qs:List LQ),(qs.flatMap λq=>eI t q.reqs).length<=bE qs
 | []=>gj _
 |q::l=>by have O:=NH t q.reqs;have U:=NX t l;grind
def YR{qs:List LQ}{n:Nat}(h:n<qs.length):bE (qs.take n)+qs[n].reqs.length<=bE qs:=by have O:qs=qs.take n++qs[n]::qs.drop (n+1):=Z;grind
def Io(h:TabOk fs R T)(n:Nat):(n∉R->ul (λx:LReq=>decide (x.t=(n:Int))) T.glob = -1)/\(n∈R->0<=ul (λx:LReq=>decide (x.t=(n:Int))) T.glob):=by
 rw[h.glob];rcases D1 (λx:LReq=>decide (x.t=(n:Int))) (R.map λ(i:Nat)=>⟨(i:Int),(fs i).all⟩)with⟨O,U⟩|⟨m,hm,O,U⟩
 .refine⟨λ_=>O,λhn=>?_⟩;have:=List.find?_eq_none.1 U _ (ig.2 ⟨n,hn,rfl⟩);grind
 grind
end
def fE(fs:List Foot)(i:Nat):Foot:=Bq (fs.getD i ⟨true,[],[]⟩)
def qlo(fs:List Foot)(i:Nat):vi (fE fs i).all (fE fs i).reads (fE fs i).writes=true:=qon _
structure TabIn(fs:List Foot)(R:List Nat)(T:LT):Prop where
 tab:TabOk (fE fs) R T
 asc:R.Pairwise (· < ·)
 sz:bE T.qs<=128 * fs.length
 lt:∀i∈R,i<fs.length
section
variable {fs:List Foot} {R:List Nat} {T:LT}
theorem TabIn.valid(h:TabIn fs R T):kV T=true:=Iq h.tab h.asc λi _=>qlo fs i
end
