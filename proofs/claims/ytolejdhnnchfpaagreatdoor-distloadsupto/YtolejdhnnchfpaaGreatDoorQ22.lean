/- Part 22 of a proof. -/
import Derived.Lib.SlicesCompact
import Derived.Test.YtolejdhnnchfpaaGreatDoorQ21
set_option linter.all false
namespace Go.Cw
open Go Go.Abs
def ud(v:V):Prop:=qug v.k v.n v.s=true
def okW(v:V):Prop:=xn v.k v.n v.s=true
def vM(s:MS):Prop:=(∀p∈s.vars,ud p.2)/\∀p∈s.own,okW p.2
structure vC(C:Cfg):Prop where
 st:∀p∈C.state,okW p.v
 fmt:∀n,i64 n->pp (C.fmt n)=true
theorem qze(n:Int):ud (vI n):=by simp[ud,qug,xn,vI]
theorem xaa(b:Bool):ud (vB b):=by simp[ud,qug,vB]
theorem xsw{s:ig}(h:pp s=true):ud (vS s):=by simp[ud,qug,xn,vS,h]
theorem xgh:okW V.nil:=by simp[okW,xn,V.nil]
theorem xnx{v:V}(h:ud v)(hk:v.k=2):pp v.s=true:=by grind[ud,qug,xn]
theorem jd3{v:V}(h:ud v)(hk:v.k=1\/v.k=2):okW v:=by
 unfold ud qug at h;rw[if_neg aa]at h;simp only[cw]at h;exact h.2
theorem xxv{v:V}(h:okW v)(hk:v.k≠0)(hk3:v.k≠3):ud v:=by
 unfold ud qug;rw[if_neg hk3];have h:xn v.k v.n v.s=true:=h;simp[hk,h]
theorem jk0{a b:ig}(ha:pp a=true)(hb:pp b=true)(h:((a++b).size:Int)<=64):pp (a++b)=true:=by
 unfold pp at ha hb|-;simp only[cw,decide_eq_true_eq,xcs]at ha hb|-;refine⟨λx hx=>?_,h⟩;have:bl (a++b)=bl a++bl b:=by simp[bl]
 rw[this,dw]at hx;rcases hx with hx|hx
 .grind
 .grind
theorem jf2:pp em=true:=ba
theorem xgt{s:ig}{v:V}(hs:(s.size:Int)<=64->pp s=true)(h:qmv s=.ok v):ud v:=by grind[qmv,xsw]
theorem xlb{r:Int×Int}{v:V}(h:ve r=.ok v):ud v:=by grind[ve,qze]
theorem jcq{op:Int}{a b v:V}(ha:ud a)(hb:ud b)(h:ug op a b=.ok v):ud v:=by
 unfold ug at h;split at h
 .grind[qlx,xlb]
 split at h
 .grind[xaa]
 split at h
 .grind[xaa]
 split at h
 .split at h
  .rename_i hk;exact xgt (λhs=>jk0 (xnx ha hk.1) (xnx hb hk.2) hs) h
  .cases h
 .grind[que,xaa]
theorem xxt{op:Int}{w v:V}(lf:op=22\/op=23\/op=24)(hw:okW w)(h:qwk op w=.ok v):ud v:=by
 unfold qwk at h;split at h
 .grind[xaa]
 split at h
 .grind[qze]
 split at h
 .exact xgt (λ_=>jf2) h
 split at h
 .cases h
 .grind[xxv]
theorem jaz{l:List Pr}(h:∀p∈l,okW p.v)(k:ig):okW (jw l k):=by
 induction l with
 |nil=>exact xgh
 |cons p l ih =>
  rw[jw];split
  .grind
  .grind
section
variable {C:Cfg} (hV:vC C)
include hV
theorem xve{k:ig}{s t:MS}{v:V}(hM:vM s)(h:um C k s=(.ok v,t)):okW v:=by
 unfold um at h;split at h
 .cases h
 split at h
 .rename_i w hw;cases h;exact hM.2 _ (qvz hw)
 split at h
 .cases h
 .cases h;exact jaz hV.st k
theorem jgc{op:Int}{l:List V}{s t:MS}{v:V}(hM:vM s)(hl:(l.length:Int)=arity op)(hx:∀a∈l,ud a)(hr:∀a∈l,oj a)(h:vz C op l s=(.ok v,t)):ud v:=by
 have hy:∀{x:EV} {u:MS},(x,u)=((.ok v,t):EV×MS)->x=.ok v:=λh=>congrArg Prod.fst h;unfold vz at h;split at h
 .rename_i a;have lf:op=9\/op=18\/op=20\/op=21\/op=22\/op=23\/op=24:=by grind[arity]
  unfold unS at h;split at h
  .grind[xlb]
  split at h
  .grind[xaa]
  split at h
  .have h:=hy h;split at h
   .exact xgt (λ_=>hV.fmt _ (hr a ac).1) h
   .cases h
  split at h
  .grind[qze]
  split at h
  .cases h
  split at h
  .cases h
  .rename_i hf;exact xxt aa (xve hV hM hf) (hy h)
 .rename_i a b;exact jcq (hx a ac) (hx b ac) (hy h)
 .cases h
end
theorem qs1{s t:MS}{n:Nat}(h:EvOk s n t)(hM:vM s):vM t:=by rw[h.eq];exact hM
section
variable {C:Cfg} (hV:vC C) (hC:u5 C)
include hV hC
mutual
theorem xia:∀(e:Ex) (d:Nat) (s t:MS) (v:V),py e d=0->vd e->vM s->qoo s->kg s.reads->mg C e s=(.ok v,t)->ud v
 | .mk op n x args,d,s,t,v,hc,hR,hM,hr,ha,h=>by
  have har:=xbk hc;have hR':=(qw1 _).1 hR;simp only[Ex.args,Ex.op,Ex.n,Ex.s]at har hR';rw[py]at hc;by_cases hn:qd1 op n x args.length d=0
  .rw[if_pos hn]at hc;rw[mg]at h;split at h
   .grind[qze]
   split at h
   .grind[qd1,xsw]
   split at h
   .have h:=congrArg Prod.fst h;simp only at h;split at h
    .rename_i w hw;cases h;exact hM.1 _ (qvz hw)
    .cases h
   split at h
   .cases h
   .rename_i l m' hL;have hE:=xh3 hC args s hR'.2 hr ha;rw[hL]at hE;have hl:=xtl args (d+1) s m' l hc hR'.2 hM hr ha hL;exact jgc hV (qs1 hE.1 hM) (by grind[xhp]) hl (hE.2 l rfl) h
  .omega
theorem xtl:∀(l:List Ex) (d:Nat) (s t:MS) (r:List V),qk4 l d=0->(∀x∈l,vd x)->vM s->qoo s->kg s.reads->pa C l s=(.ok r,t)->∀v∈r,ud v
 | [],d,s,t,r,_,_,_,_,_,h=>by rw[pa]at h;cases h;simp
 |e::l,d,s,t,r,hc,hR,hM,hr,ha,h=>by
  rw[qk4]at hc;split at hc
  .rename_i h0;rw[pa]at h;split at h
   .cases h
   .rename_i v m' hE;have hE':=qqp hC e s (hR e ac) hr ha;rw[hE]at hE';have hv:=xia e d s m' v h0 (hR e ac) hM hr ha hE;split at h
    .cases h
    .rename_i r' lh hL;cases h;have hl:=xtl l d m' _ r' hc (λx hx=>hR x bu) (qs1 hE'.1 hM) (hE'.1.rng hr) hE'.1.asc hL;intro w hw;rcases c0.1 hw with rfl|hw
     .exact hv
     .grind
  .omega
end
theorem xmv{s:MS}{v:V}(k:ig)(hM:vM s)(hv:ud v):vM { s with vars:=lx s.vars k v }:=⟨λp hp=>by
 rcases xav hp with rfl|hp
 .exact hv
 .exact hM.1 p hp,hM.2⟩
theorem xst{s t:MS}{k:ig}{v:V}{u:Unit}(hM:vM s)(hv:okW v)(h:tv C k v s=(.ok u,t)):vM t:=by
 unfold tv at h;split at h
 .cases h
 split at h
 .cases h
 .cases h;refine⟨hM.1,λp hp=>?_⟩;rcases xav hp with rfl|hp
  .exact hv
  .exact hM.2 p hp
theorem xu8{s t:MS}{v:V}{u:Unit}(hM:vM s)(h:yx v s=(.ok u,t)):vM t:=by
 unfold yx at h;split at h
 .cases h
 .cases h;exact hM
theorem xrt{s t:MS}{u:Unit}(hM:vM s)(h:wv s=(.ok u,t)):vM t:=by
 unfold wv at h;split at h
 .cases h
 .cases h;exact hM
theorem xps{body:MS->Except Stop Unit×MS}{name:ig}{b:Int}(hb:∀s u t,Inv 8192 1 s->vM s->body s=(.ok u,t)->Inv 0 0 t/\vM t):∀(f:Nat) (i:Int) (s:MS) (u:Unit) (t:MS),i64 i->Inv 0 0 s->vM s->q8 body name b f i s=(.ok u,t)->vM t
 | 0,i,s,u,t,_,_,hM,h=>by rw[q8]at h;cases h;exact hM
 |f+1,i,s,u,t,hi,hI,hM,h=>by
  rw[q8]at h;split at h
  .split at h
   .cases h
   .rename_i m' hm;have hM1:=xrt hV hC hM hm;have h1:=(hI.tick hm).vars (qvg hi) name;have hM2:=xmv hV hC name hM1 (qze i);split at h
    .cases h
    .rename_i lh og;have h2:=hb _ _ _ h1 hM2 og;exact xps hb f _ _ _ _ (qtl _) h2.1 h2.2 h
  .grind
mutual
theorem jb3:∀(t:St) (d:Nat) (s:MS) (u:Unit) (s':MS),okS t d->goS t->Inv 8192 1 s->vM s->r7 C t s=(.ok u,s')->vM s'
 | .mk op name mx a b body els,d,s,u,s',hO,hG,h,hM,g=>by
  have hG':=(qye _).1 hG;have hO':=(qso _ _).1 hO;have oA:=λk=>qy7 hO k;have oB:=λk=>qz2 hO k;simp only[St.op,St.a,St.b,St.body,St.els,St.max]at hG' hO' oA oB;obtain⟨hA,hB,vx,qpn⟩:=hG';obtain⟨_,xat,oels⟩:=hO';rw[r7]at g;split at g
  .split at g
   .cases g
   .rename_i v m' hm;have hE:=qqp hC a s (hA aa).1 h.rng h.ar;rw[hm]at hE;have hv:=xia hV hC a 1 s m' v (oA aa) (hA aa).1 hM h.rng h.ar hm;cases g;exact xmv hV hC name (qs1 hE.1 hM) hv
  split at g
  .have h1:=h.eval hC (r:=4097) (hA aa);split at g
   .cases g
   .rename_i k m' hm;have hE:=qqp hC a s (hA aa).1 h.rng h.ar;rw[hm]at hE h1;have hM1:=qs1 hE.1 hM;split at g
    .cases g
    .rename_i v lh og;have m9:=qqp hC b m' (hB aa).1 h1.1.rng h1.1.ar;rw[og]at m9;have hv:=xia hV hC b 1 m' lh v (oB aa) (hB aa).1 hM1 h1.1.rng h1.1.ar og;split at g
     .rename_i hk;exact xst hV hC (qs1 m9.1 hM1) (jd3 hv hk.2) g
     .cases g
  split at g
  .split at g
   .cases g
   .rename_i k m' hm;have hE:=qqp hC a s (hA aa).1 h.rng h.ar;rw[hm]at hE;split at g
    .exact xst hV hC (qs1 hE.1 hM) xgh g
    .cases g
  split at g
  .have h1:=h.eval hC (r:=4097) (hA aa);split at g
   .cases g
   .rename_i c m' hm;have hE:=qqp hC a s (hA aa).1 h.rng h.ar;rw[hm]at hE h1;have hM1:=qs1 hE.1 hM;split at g
    .split at g
     .exact qzm body (d+1) _ _ _ xat vx (h1.1.mono aa aa) hM1 g
     .exact qzm els (d+1) _ _ _ oels qpn (h1.1.mono aa aa) hM1 g
    .cases g
  split at g
  .have h1:=h.eval hC (r:=4097) (hA aa);split at g
   .cases g
   .rename_i x m' hm;have hE:=qqp hC a s (hA aa).1 h.rng h.ar;rw[hm]at hE h1;have hM1:=qs1 hE.1 hM;have h2:=h1.1.eval hC (r:=2) (hB aa);split at g
    .cases g
    .rename_i y lh og;have m9:=qqp hC b m' (hB aa).1 h1.1.rng h1.1.ar;rw[og]at m9 h2;have hM2:=qs1 m9.1 hM1;split at g
     .split at g
      .cases g
      .exact xps hV hC (λs u t hs hm hg=>⟨qvo hC body s u t vx (hs.mono aa aa) hg,qzm body (d+1) s u t xat vx (hs.mono aa aa) hm hg⟩) _ _ _ _ _ (h1.2 _ rfl).1 (h2.1.mono aa aa) hM2 g
     .cases g
  split at g
  .split at g
   .cases g
   .rename_i v m' hm;have hE:=qqp hC a s (hA aa).1 h.rng h.ar;rw[hm]at hE;split at g
    .exact xu8 hV hC (qs1 hE.1 hM) g
    .cases g
  split at g
  .cases g
  .grind
theorem qzm:∀(l:List St) (d:Nat) (s:MS) (u:Unit) (s':MS),okL l d->(∀x∈l,goS x)->Inv 0 0 s->vM s->mc C l s=(.ok u,s')->vM s'
 | [],d,s,u,s',_,_,_,hM,g=>by rw[mc]at g;cases g;exact hM
 |t::l,d,s,u,s',hO,hG,h,hM,g=>by
  rw[mc]at g;split at g
  .cases g
  .rename_i m' hm;split at g
   .cases g
   .rename_i lh og;have hI:=h.tick hm;have hM1:=xrt hV hC hM hm;have hM2:=jb3 t d m' _ lh (hO t ac) (hG t ac) hI hM1 og;exact qzm l d lh _ s' (λx hx=>hO x bu) (λx hx=>hG x bu) (xca hC t _ _ _ (hG t ac) hI og) hM2 g
end
end
abbrev pb(l:List Pr):List ig:=l.map (·.key)
theorem xny:∀(l:List Pr) (wj:Option ig),qoy wj l=true↔(∀p∈l,sw p.key=true)/\kg (pb l)/\∀k,wj=some k->∀p∈l,js k p.key=true
 | [],wj=>by simp[qoy]
 |p::l,wj=>by
  simp only[qoy,cw,xny l,c0,pb,dj,eh,cy];constructor
  .rintro⟨⟨h1,h2⟩,h3,h4,h5⟩;refine⟨?_,⟨?_,h4⟩,?_⟩
   .grind
   .grind
   .rintro k rfl q (rfl|hq)
    .exact h2
    .exact qdc h2 (h5 _ rfl q hq)
  .rintro⟨h1,⟨h2,h3⟩,h4⟩;refine⟨⟨h1 p (.inl rfl),?_⟩,λq hq=>h1 q (.inr hq),h3,?_⟩
   .cases wj with
    |none=>rfl
    |some k=>exact h4 k rfl p (.inl rfl)
   .grind
theorem xbl:∀(l:List ig) (wj:Option ig),qkl wj l=true↔(∀k∈l,sw k=true)/\kg l/\∀k,wj=some k->∀x∈l,js k x=true
 | [],wj=>by simp[qkl]
 |p::l,wj=>by
  simp only[qkl,cw,xbl l,c0,eh];constructor
  .rintro⟨⟨h1,h2⟩,h3,h4,h5⟩;refine⟨?_,⟨?_,h4⟩,?_⟩
   .grind
   .grind
   .rintro k rfl q (rfl|hq)
    .exact h2
    .exact qdc h2 (h5 _ rfl q hq)
  .rintro⟨h1,⟨h2,h3⟩,h4⟩;refine⟨⟨h1 p (.inl rfl),?_⟩,λq hq=>h1 q (.inr hq),h3,?_⟩
   .cases wj with
    |none=>rfl
    |some k=>exact h4 k rfl p (.inl rfl)
   .grind
theorem qbp(l:List Pr):r9 l=true↔(∀p∈l,okW p.v)/\(∀p∈l,sw p.key=true)/\kg (pb l):=by
 simp only[r9,qsx,cw,xcs,xny,okW];constructor
 .simp
 .simp
theorem xc2{α:Type}{p:α->Bool}:∀{l:List α},si p l=true↔∃x,x∈l/\p x=true
 | []=>by simp[si]
 |x::l=>by simp[si,xc2 (l:=l)]
theorem xtx{α:Type}{p:α->Bool}{l:List α}:si p l=false↔∀x,x∈l->p x=false:=by grind[Bool.true_eq_false,xc2]
theorem tn(l:List Pr):jl l=true↔(∀p∈l,okW p.v/\p.v.k≠0)/\(∀p∈l,sw p.key=true)/\kg (pb l):=by
 rw[<-xn2,xa8,cw,qbp,gv,xtx];simp only[decide_eq_false_iff_not];constructor
 .grind
 .grind
theorem qdj{l:List Pr}{k:ig}:nf l k=true↔k∈pb l:=by
 simp[nf,xc2,pb]
theorem xbh{l:List Pr}{k:ig}:nf l k=false↔∀p∈l,p.key≠k:=by
 simp[nf,xtx]
theorem wm{l:List ig}{k:ig}:l8 l k=true↔k∈l:=by
 simp[l8,xc2]
theorem xvw{v:V}(h:okW v)(hk:v.k=0):v=V.nil:=by
 obtain⟨k,n,s⟩:=v;unfold okW xn at h;simp only at hk;subst hk;simp at h;rw[h.1,h.2];rfl
theorem xau{l:List Pr}{k:ig}(h:∀p∈l,p.key≠k):jw l k=V.nil:=by
 induction l with
 |nil=>rfl
 |cons p l ih =>
  rw[jw,if_neg (h p ac),ih λq hq=>h q qgj]
theorem xb1{l:List Pr}(ha:kg (pb l)){p:Pr}(hp:p∈l):jw l p.key=p.v:=by
 induction l with
 |nil=>cases hp
 |cons q l ih =>
  obtain⟨h1,h2⟩:=eh.1 ha;rw[jw];rcases c0.1 hp with rfl|hp
  .simp
  .have:=h1 p.key (qjk hp);rw[if_neg (qr2 this),ih h2 hp]
theorem xa1{l:List Pr}{k:ig}(h:jw l k≠V.nil):(⟨k,jw l k⟩:Pr)∈l:=by
 induction l with
 |nil=>exact(h rfl).elim
 |cons p l ih =>
  rw[jw]at h|-;split
  .rename_i hk;subst hk;simp
  .grind
theorem jar(k:ig)(l:List Pr):qkw k l=l7 k (pb l):=by
 induction l with
 |nil=>rfl
 |cons p l ih =>
  simp only[qkw,pb,dj,l7];rw[ih]
theorem xo2{l:List Pr}{p q:Pr}:q∈qlo l p↔q=p\/q∈l:=by grind[qlo,gn]
theorem xy9{l:List Pr}{p:Pr}(h:∀q∈l,q.key≠p.key):pb (qlo l p)=yv (pb l) p.key:=by
 unfold qlo yv;rw[jar];rw[if_neg]
 .simp
 .grind
theorem xxd{l:List Pr}{p:Pr}(ha:kg (pb l))(h:∀q∈l,q.key≠p.key):kg (pb (qlo l p)):=by grind[xy9,qz7]
theorem xje:∀(w out:List Pr),kg (pb out)->kg (pb w)->(∀q∈out,∀p∈w,q.key≠p.key)->kg (pb (qm6 out w))/\∀q,q∈qm6 out w↔q∈out\/(q∈w/\q.v.k≠0)
 | [],out,ha,_,_=>⟨ha,λq=>by simp[qm6]⟩
 |p::w,out,ha,hw,hd=>by
  obtain⟨h1,h2⟩:=eh.1 hw;rw[qm6];split
  .rename_i hk;obtain⟨g1,g2⟩:=xje w out ha h2 λq hq r hr=>hd q hq r qfo;refine⟨g1,λq=>?_⟩;rw[g2,c0];constructor
   .grind
   .grind
  .rename_i hk;have it:∀q∈out,q.key≠p.key:=λq hq=>hd q hq p ac;obtain⟨g1,g2⟩:=xje w (qlo out p) (xxd ha it) h2 λq hq r hr=>by
    rcases xo2.1 hq with rfl|hq
    .simp_all[qr2]
    .grind
   refine⟨g1,λq=>?_⟩;rw[g2,c0,xo2];constructor
   .grind
   .grind
theorem xkx(w:List Pr):∀(l:List Pr),(qnk w l).Sublist l/\∀q,q∈qnk w l↔q∈l/\nf w q.key=false
 | []=>⟨List.Sublist.refl _,λq=>by simp[qnk]⟩
 |p::l=>by
  obtain⟨h1,h2⟩:=xkx w l;rw[qnk];split
  .grind
  .grind
theorem xe9{l w:List Pr}(hl:kg (pb l))(hw:kg (pb w)):kg (pb (rx l w))/\∀q,q∈rx l w↔(q∈l/\nf w q.key=false)\/(q∈w/\q.v.k≠0):=by
 obtain⟨h1,h2⟩:=xkx w l;obtain⟨g1,g2⟩:=xje w (qnk w l) (hl.sublist (h1.map _)) hw λq hq p hp=>by
  have:=((h2 q).1 hq).2;exact λe=>xbh.1 this p hp e.symm
 refine⟨g1,λq=>?_⟩;rw[rx,g2,h2]
theorem xan{l w:List Pr}(hl:jl l=true)(hw:r9 w=true):jl (rx l w)=true:=by
 obtain⟨l1,l2,l3⟩:=(tn l).1 hl;obtain⟨w1,w2,w3⟩:=(qbp w).1 hw;obtain⟨a1,a2⟩:=xe9 l3 w3;refine(tn _).2 ⟨λp hp=>?_,λp hp=>?_,a1⟩
 .grind
 .grind
theorem xar{l w:List Pr}(hl:kg (pb l))(hw:kg (pb w))(hv:∀p∈w,okW p.v)(k:ig):jw (rx l w) k=if nf w k then jw w k else jw l k:=by grind[xb1,xvw,xau,xbh,xe9,xa1]
structure RunIn(fmt:Int->ig)(p:Proc)(args:List V)(st:List Pr):Prop where
 fmt:∀n,i64 n->pp (fmt n)=true
 body:∀t∈p.body,qky t
 args:∀v∈args,oj v
 st:∀q∈st,oj q.v
abbrev xw(fmt:Int->ig)(st:List Pr)(ft:Foot):Cfg:=⟨st,ft.all,ft.reads,ft.writes,fmt⟩
abbrev ms0(p:Proc)(args:List V):MS:=⟨qr0 p.params args [],[],[],[],[],0⟩
def qkn(p:Proc)(args:List V)(st:List Pr)(ft:Foot):Prop:=¬(qdq p≠0\/qrd p args≠0\/jl st=false\/qa ft.all ft.reads ft.writes=false)
theorem qod{fmt:Int->ig}{p:Proc}{args:List V}{st:List Pr}{ft:Foot}(h:¬qkn p args st ft):oi fmt p args st ft=yj:=by
 unfold oi;exact if_pos (Decidable.not_not.1 h)
theorem qeh{fmt:Int->ig}{p:Proc}{args:List V}{st:List Pr}{ft:Foot}(h:qkn p args st ft):oi fmt p args st ft=qmj (mc (xw fmt st ft) p.body (ms0 p args)):=by
 unfold oi;exact if_neg h
theorem qcp(p:Proc)(args:List V)(st:List Pr)(ft:Foot):qkn p args st ft↔qdq p=0/\qrd p args=0/\jl st=true/\qa ft.all ft.reads ft.writes=true:=by simp[Bool.not_eq_false,qkn]
theorem xjy:∀{ps:List Param} {vs:List V} {m:List (ig×V)} {q:ig×V},q∈qr0 ps vs m->q∈m\/q.2∈vs
 | [],vs,m,q,h=>by simp[qr0]at h;exact .inl h
 |x::l,[],m,q,h=>by simp[qr0]at h;exact .inl h
 |x::l,v::r,m,q,h=>by
  rw[qr0]at h;rcases xjy h with h|h
  .rcases xav h with rfl|h
   .simp
   .grind
  .grind
theorem xdj(x:Except Stop Unit×MS):(qmj x).reads=x.2.reads:=by rcases x with⟨z|u,m⟩<;>rfl
theorem xkt(x:Except Stop Unit×MS):(qmj x).puts=x.2.puts:=by rcases x with⟨z|u,m⟩<;>rfl
theorem jdz(x:Except Stop Unit×MS):(qmj x).steps=x.2.steps:=by rcases x with⟨z|u,m⟩<;>rfl
theorem jfg{p:Proc}(h:qdq p=0):qps p=0:=by grind[qdq,qwe,qtb]
theorem qz4{p:Proc}(h:qdq p=0):okL p.body 1:=xow (jfg h)
theorem xaj{p:Proc}(h:qdq p=0)(hr:∀t∈p.body,qky t):∀t∈p.body,goS t:=λt ht=>xkl t 1 (qz4 h t ht) (hr t ht)
theorem xeq{p:Proc}(h:qdq p=0):(sf p.body).st<=16384/\(sf p.body).ge<=64/\(sf p.body).pu<=64/\(sf p.body).em<=16:=by grind[qdq]
theorem xpl{p:Proc}(h:qdq p=0):((nL p.body).st:Int)=(sf p.body).st/\((nL p.body).ge:Int)=(sf p.body).ge/\((nL p.body).pu:Int)=(sf p.body).pu/\((nL p.body).em:Int)=(sf p.body).em:=by
 have h1:=xeq h;have h2:=jkx (qz4 h);have hm:∀n:Nat,mn n 16385<=16384->(n:Int)=mn n 16385:=λn hn=>by unfold mn at hn|-;split<;>split at hn<;>omega
 rw[h2]at h1|-;simp only[wg]at h1|-;exact⟨hm _ h1.1,hm _ aa,hm _ aa,hm _ aa⟩
theorem jec{ps:List Param}{vs:List V}(h:qur ps vs=true)(hl:vs.length=ps.length):∀v∈vs,ud v:=by
 induction ps generalizing vs with
 |nil=>intro v hv;rw[fg hl]at hv;cases hv
 |cons x l ih =>
  cases vs with
  |nil=>simp
  |cons v r =>
   simp only[qur,cw]at h;intro w hw;rcases c0.1 hw with rfl|hw
   .have:=h.1;unfold xfb at this;unfold ud qug xn;simp only[gu,cw,decide_eq_true_eq]at this;rcases this with⟨⟨h1,h2⟩,_⟩|⟨⟨⟨h1,h2⟩,h3⟩,_⟩
    .grind
    .grind
   .grind
theorem xsq{p:Proc}{args:List V}(h:qrd p args=0):args.length=p.params.length/\∀v∈args,ud v:=by
 unfold qrd at h;split at h
 .omega
 .rename_i h1;split at h
  .rename_i h2;have hl:args.length=p.params.length:=aa;exact⟨hl,jec h2 hl⟩
  .omega
section
variable {fmt:Int->ig} {p:Proc} {args:List V} {st:List Pr} {ft:Foot}
theorem qzf(hI:RunIn fmt p args st):Inv 0 0 (ms0 p args):=by
 refine⟨⟨λq hq=>?_,ac⟩,ac,ac,ac,ac,ac,ac⟩;rcases xjy hq with h|h
 .cases h
 .exact hI.args _ h
theorem vM0(h:qrd p args=0):vM (ms0 p args):=by
 refine⟨λq hq=>?_,ac⟩;rcases xjy hq with h1|h1
 .cases h1
 .exact(xsq h).2 _ h1
theorem jfc(hI:RunIn fmt p args st)(hs:jl st=true):vC (xw fmt st ft):=⟨λq hq=>(((tn st).1 hs).1 q hq).1,hI.fmt⟩
theorem xdh(x:List St):Fit (xw fmt st ft) (ms0 p args) (mc (xw fmt st ft) x (ms0 p args)).2:=qsd (jj1 _) x _
theorem xob{x:List St}{t:MS}{z:Stop}(h:mc (xw fmt st ft) x (ms0 p args)=(.error z,t)):qp4 (xw fmt st ft) z:=qz0 x _ _ _ h
theorem jbd{k:ig}(hk:k∈(oi fmt p args st ft).reads):jl st=true/\sw k=true/\(ft.all=true\/l8 ft.reads k=true):=by
 by_cases hr:qkn p args st ft
 .rw[qeh hr,xdj]at hk;rcases(xdh p.body).rd k hk with h|h
  .cases h
  .exact⟨((qcp _ _ _ _).1 hr).2.2.1,h.1,h.2⟩
 .rw[qod hr]at hk;cases hk
theorem xua{k:ig}(hk:k∈(oi fmt p args st ft).puts):sw k=true/\(ft.all=true\/l8 ft.writes k=true):=by
 by_cases hr:qkn p args st ft
 .rw[qeh hr,xkt]at hk;rcases(xdh p.body).pt k hk with h|h
  .cases h
  .exact h
 .rw[qod hr]at hk;cases hk
theorem jhr:kg (oi fmt p args st ft).reads/\kg (oi fmt p args st ft).puts:=by
 by_cases hr:qkn p args st ft
 .rw[qeh hr,xdj,xkt];exact⟨(xdh p.body).ar ac,(xdh p.body).ap ac⟩
 .simp_all[qod,yj]
theorem xpu(h:qdq p≠0):oi fmt p args st ft=yj:=qod λh'=>h ((qcp _ _ _ _).1 h').1
theorem xsj(hI:RunIn fmt p args st)(h:qdq p=0):(oi fmt p args st ft).steps<=(sf p.body).st/\((oi fmt p args st ft).reads.length:Int)<=(sf p.body).ge/\((oi fmt p args st ft).puts.length:Int)<=(sf p.body).pu/\((oi fmt p args st ft).out.length:Int)<=(sf p.body).em:=by
 have hn:=xpl h;by_cases hr:qkn p args st ft
 .rw[qeh hr,xdj,xkt,jdz];have hd:=qyv (C:=xw fmt st ft) (λq hq=>hI.st q hq) p.body 1 (ms0 p args) (qz4 h) (xaj h hI.body) (qzf hI);obtain⟨d1,d2,d3,d4⟩:=hd;simp only[ed,cz]at d1 d2 d3 d4;refine⟨aa,aa,aa,?_⟩;rcases hx:mc (xw fmt st ft) p.body (ms0 p args)with⟨z|u,m⟩
  .grind[qmj,ed]
  .grind[qmj]
 .grind[qod,yj,ed]
theorem xy8(h:(oi fmt p args st ft).status≠1):(oi fmt p args st ft).writes=[]/\(oi fmt p args st ft).out=[]/\((oi fmt p args st ft).status=2\/(oi fmt p args st ft).status=3/\(oi fmt p args st ft).code=0):=by
 by_cases hr:qkn p args st ft
 .rw[qeh hr]at h|-;rcases hx:mc (xw fmt st ft) p.body (ms0 p args)with⟨z|u,m⟩
  .refine⟨rfl,rfl,?_⟩;rcases xob hx with⟨c,rfl⟩|⟨k,rfl,_⟩
   .exact .inl rfl
   .exact .inr ⟨rfl,rfl⟩
  .rw[hx]at h;exact(h rfl).elim
 .rw[qod hr];exact⟨rfl,rfl,.inl rfl⟩
theorem xeg(hI:RunIn fmt p args st)(h:(oi fmt p args st ft).status=1):(oi fmt p args st ft).writes.map (·.key)=(oi fmt p args st ft).puts/\(oi fmt p args st ft).code=0/\r9 (oi fmt p args st ft).writes=true:=by
 by_cases hr:qkn p args st ft
 .have jf:=(qcp _ _ _ _).1 hr;have qyp:=(jhr (fmt:=fmt) (p:=p) (args:=args) (st:=st) (ft:=ft)).2;have qsc:=λk hk=>(xua (fmt:=fmt) (p:=p) (args:=args) (st:=st) (ft:=ft) (k:=k) hk).1;rw[qeh hr]at h qyp qsc|-;rcases hx:mc (xw fmt st ft) p.body (ms0 p args)with⟨z|u,m⟩
  .rw[hx]at h;rcases xob hx with⟨c,rfl⟩|⟨k,rfl,_⟩<;>simp[qmj,ab,rst]at h
  .rw[hx]at qyp qsc;have hvm:=qzm (jfc hI jf.2.2.1) (λq hq=>hI.st q hq) p.body 1 (ms0 p args) u m (qz4 jf.1) (xaj jf.1 hI.body) (qzf hI) (vM0 jf.2.1) hx;have hkeys:(qmj (.ok u,m)).writes.map (·.key)=(qmj (.ok u,m)).puts:=by simp[qmj,Function.comp_def]
   refine⟨hkeys,rfl,(qbp _).2 ⟨λq hq=>?_,λq hq=>?_,?_⟩⟩
   .obtain⟨k,_,rfl⟩:=cy.1 hq;simp only;rcases hg:kz m.own k with _|w
    .exact xgh
    .exact hvm.2 _ (qvz hg)
   .grind
   .grind
 .grind[qod,yj]
end
structure Txn where
 id:Int
 proc:ig
 args:List V
 ft:Foot
 att:Int
def Txn.c(t:Txn):List AV:=[I t.id,S t.proc,.slice (t.args.map V.c),Bo t.ft.all,.slice (t.ft.reads.map ja),.slice (t.ft.writes.map ja),I t.att]
def xs0(procs:List Proc)(name:ig):Option Proc:=procs.find? λp=>decide (p.name=name)
def qo7(procs:List Proc)(t:Txn):Option Proc :=
 match xs0 procs t.proc with
 |none=>none
 |some p=>if qrd p t.args=0 then some p else none
section
variable (fmt:Int->ig)
def ru(procs:List Proc)(s:List Pr)(t:Txn):List Pr×Eff :=
 match qo7 procs t with
 |none=>(s,yj)
 |some p=>if (oi fmt p t.args s t.ft).status=1 then(rx s (oi fmt p t.args s t.ft).writes,oi fmt p t.args s t.ft)else(s,oi fmt p t.args s t.ft)
def qt(procs:List Proc)(s:List Pr)(l:List Txn):List Pr×List Eff :=
 l.foldl (λy t=>((ru fmt procs y.1 t).1,y.2++[(ru fmt procs y.1 t).2])) (s,[])
end
def yw(e:Eff)(k:ig):Bool:=decide (e.status=1)&&nf e.writes k
def qxq(s:List Pr)(e:Eff):List Pr:=if e.status=1/\jl s=true/\r9 e.writes=true then rx s e.writes else s
section
variable (fmt:Int->ig)
end
structure BatchIn(fmt:Int->ig)(procs:List Proc)(l:List Txn):Prop where
 fmt:∀n,i64 n->pp (fmt n)=true
 body:∀p∈procs,∀t∈p.body,qky t
 args:∀t∈l,∀v∈t.args,oj v
abbrev l6(s:List Pr):Prop:=∀q∈s,oj q.v
section
variable {fmt:Int->ig}
theorem xjx{procs:List Proc}{t:Txn}{p:Proc}(h:qo7 procs t=some p):p∈procs/\qrd p t.args=0:=by
 unfold qo7 at h;split at h
 .cases h
 .rename_i q hq;split at h
  .cases h;exact⟨List.mem_of_find?_eq_some hq,by assumption⟩
  .cases h
theorem jgv{p:Proc}{args:List V}{a b:List Pr}{ft:Foot}(ha:jl a=true)(hb:jl b=true)(hg:∀k∈(oi fmt p args a ft).reads,jw a k=jw b k):oi fmt p args b ft=oi fmt p args a ft:=by
 by_cases h:qkn p args a ft
 .have hr:=(qcp _ _ _ _).1 h;have h':qkn p args b ft:=(qcp _ _ _ _).2 ⟨hr.1,hr.2.1,hb,hr.2.2.2⟩;rw[qeh h,xdj]at hg;rw[qeh h,qeh h'];exact congrArg qmj (xao (jis (xw fmt a ft) b) p.body (ms0 p args) hg)
 .grind[qod,qcp]
theorem xom{p:Proc}{args:List V}{s:List Pr}{ft:Foot}(h:(oi fmt p args s ft).status=1):jl s=true:=by
 by_cases hr:qkn p args s ft
 .exact((qcp _ _ _ _).1 hr).2.2.1
 .grind[qod,yj]
theorem jie{p:Proc}{args:List V}{s:List Pr}{ft:Foot}(hI:RunIn fmt p args s):l6 (oi fmt p args s ft).writes:=by
 by_cases hr:qkn p args s ft
 .have jf:=(qcp _ _ _ _).1 hr;rw[qeh hr];rcases hx:mc (xw fmt s ft) p.body (ms0 p args)with⟨z|u,m⟩
  .grind[qmj]
  .have hi:=qvo (C:=xw fmt s ft) (λq hq=>hI.st q hq) p.body _ _ _ (xaj jf.1 hI.body) (qzf hI) hx;intro q hq;simp only[qmj,cy]at hq;obtain⟨k,_,rfl⟩:=hq;simp only;rcases hg:kz m.own k with _|w
   .exact xgy
   .exact hi.rng.2 _ (qvz hg)
 .rw[qod hr];intro q hq;cases hq
theorem xf3{p:Proc}{args:List V}{s:List Pr}{ft:Foot}(hI:RunIn fmt p args s):(oi fmt p args s ft).writes.length<=64:=by
 by_cases h1:(oi fmt p args s ft).status=1
 .have h:=(xeg hI h1).1;have hl:(oi fmt p args s ft).writes.length=(oi fmt p args s ft).puts.length:=af;by_cases hc:qdq p=0
  .have h1:=xsj (ft:=ft) hI hc;have h2:=xeq hc;omega
  .grind[xpu,yj]
 .grind[xy8]
theorem xcr{l w:List Pr}(hl:l6 l)(hw:l6 w)(al:jl l=true)(aw:r9 w=true):l6 (rx l w):=λq hq=>by
 rcases((xe9 ((tn l).1 al).2.2 ((qbp w).1 aw).2.2).2 q).1 hq with h|h
 .grind
 .grind
theorem xin:∀(w out:List Pr),(qm6 out w).length<=out.length+w.length
 | [],out=>by simp[qm6]
 |p::w,out=>by
  rw[qm6];split
  .have:=xin w out;simp only[dy];omega
  .have:=xin w (qlo out p);have h:(qlo out p).length=out.length+1:=by grind[c7,ey,dy,qi8,qlo]
   simp only[dy];omega
theorem xfe(l w:List Pr):(rx l w).length<=l.length+w.length:=by
 have h1:=xin w (qnk w l);have h2:=(xkx w l).1.length_le;unfold rx;omega
structure OneOk(s:List Pr)(x:List Pr×Eff):Prop where
 rng:l6 x.1
 len:x.1.length<=s.length+64
 ok:jl s=true->jl x.1=true
 no:jl s=false->x.1=s
 get:∀k,yw x.2 k=false->jw x.1 k=jw s k
 upd:x.1=qxq s x.2
 rds:x.2.reads.length<=64
 wrs:x.2.writes.length<=64
 wrng:l6 x.2.writes
 com:x.2.status=1->jl s=true/\r9 x.2.writes=true
theorem xsx{procs:List Proc}{s:List Pr}{t:Txn}(hf:∀n,i64 n->pp (fmt n)=true)(hb:∀p∈procs,∀t∈p.body,qky t)(ha:∀v∈t.args,oj v)(hs:l6 s):OneOk s (ru fmt procs s t):=by
 unfold ru;split
 .exact { rng:=hs,len:=by simp,ok:=id,no:=λ_=>rfl,get:=λ_ _=>rfl,upd:=by simp[qxq,yj],rds:=by simp[yj],wrs:=by simp[yj],wrng:=by intro q hq;simp[yj]at hq,com:=λh=>by simp[yj]at h }
 .rename_i p hp;have hI:RunIn fmt p t.args s:=⟨hf,hb p (xjx hp).1,ha,hs⟩
  have hl:(oi fmt p t.args s t.ft).reads.length<=64:=by
   by_cases hc:qdq p=0
   .have h1:=xsj (ft:=t.ft) hI hc;have h2:=xeq hc;omega
   .grind[xpu,yj]
  have hw:=xf3 (ft:=t.ft) hI;have wy:=jie (ft:=t.ft) hI;split
  .rename_i h1;have sj:=xom h1;have hw1:=(xeg hI h1).2.2;refine⟨xcr hs wy sj hw1,?_,λ_=>xan sj hw1,λh=>?_,λk hk=>?_,?_,hl,hw,wy,λ_=>⟨sj,hw1⟩⟩
   .grind[xfe]
   .grind
   .obtain⟨w1,w2,w3⟩:=(qbp _).1 hw1;simp only at hk|-;rw[xar ((tn s).1 sj).2.2 w3 w1];simp only[yw,h1,decide_true,dh]at hk;simp[hk]
   .grind[qxq]
  .rename_i h1;refine⟨hs,ac,id,λ_=>rfl,λ_ _=>rfl,?_,hl,hw,wy,λh=>(h1 h).elim⟩;simp only[qxq];rw[if_neg (λh=>h1 h.1)]
theorem jgx{procs:List Proc}{a b:List Pr}{t:Txn}(ha:jl a=true)(hb:jl b=true)(hg:∀k∈(ru fmt procs a t).2.reads,jw a k=jw b k):(ru fmt procs b t).2=(ru fmt procs a t).2:=by grind[ru,jgv]
theorem xet(procs:List Proc)(s:List Pr)(l:List Txn)(t:Txn):qt fmt procs s (l++[t])=((ru fmt procs (qt fmt procs s l).1 t).1,(qt fmt procs s l).2++[(ru fmt procs (qt fmt procs s l).1 t).2]):=by simp[List.foldl_append,qt]
structure RoundOk(s:List Pr)(n:Nat)(x:List Pr×List Eff):Prop where
 rng:l6 x.1
 len:x.1.length<=s.length+64 * n
 cnt:x.2.length=n
 ok:jl s=true->jl x.1=true
 no:jl s=false->x.1=s
 get:∀k,(∀e∈x.2,yw e k=false)->jw x.1 k=jw s k
 rds:∀e∈x.2,e.reads.length<=64
 wrs:∀e∈x.2,e.writes.length<=64
 wrng:∀e∈x.2,l6 e.writes
theorem BatchIn.init{procs:List Proc}{l:List Txn}{t:Txn}(h:BatchIn fmt procs (l++[t])):BatchIn fmt procs l:=⟨h.fmt,h.body,λx hx=>h.args x bu⟩
theorem BatchIn.take{procs:List Proc}{l:List Txn}(h:BatchIn fmt procs l)(n:Nat):BatchIn fmt procs (l.take n):=⟨h.fmt,h.body,λx hx=>h.args x (qi7 hx)⟩
theorem xhz{α:Type}{P:List α->Prop}(h0:P [])(h1:∀l x,P l->P (l++[x]))(l:List α):P l:=by
 have:∀n (l:List α),l.length=n->P l:=by
  intro n
  induction n with
  |zero=>intro l hl;rw[fg hl];exact h0
  |succ n ih =>
   intro l hl;have it:l≠[]:=af;have e:l=l.dropLast++[l.getLast it]:=(List.dropLast_concat_getLast it).symm;rw[e];exact h1 _ _ (ih _ qgk)
 exact this _ l rfl
theorem xay{procs:List Proc}{s:List Pr}(hs:l6 s):∀(l:List Txn),BatchIn fmt procs l->RoundOk s l.length (qt fmt procs s l):=by
 refine xhz (λ_=>⟨hs,by simp[qt],rfl,id,λ_=>rfl,λ_ _=>rfl,by simp[qt],by simp[qt],by simp[qt]⟩) λl t ih hB=>?_;have hR:=ih hB.init;have hO:=xsx (fmt:=fmt) (procs:=procs) (t:=t) hB.fmt hB.body (hB.args t ac) hR.rng;rw[xet];refine⟨hO.rng,?_,by simp[hR.cnt],λh=>hO.ok (hR.ok h),λh=>?_,λk hk=>?_,λe he=>?_,λe he=>?_,λe he=>?_⟩
 .have:=hR.len;have:=hO.len;simp only[c7,fx];omega
 .have h1:=hR.no h;have:=hO.no af;exact this.trans h1
 .simp only[dw,ep]at hk;rw[hO.get k (hk _ (.inr rfl)),hR.get k (λe he=>hk e (.inl he))]
 .simp only[dw,ep]at he;rcases he with he|rfl
  .exact hR.rds e he
  .exact hO.rds
 .simp only[dw,ep]at he;rcases he with he|rfl
  .exact hR.wrs e he
  .exact hO.wrs
 .simp only[dw,ep]at he;rcases he with he|rfl
  .exact hR.wrng e he
  .exact hO.wrng
end
abbrev qu1(l:List Int):List Int:=l.mergeSort λx y=>decide (x<=y)
def qmi(l:List Int):List Int:=Lib.compact (qu1 l)
theorem xo6{d:Array Int}(hd:∀i j,i<=j->j<d.size->d[i]!<=d[j]!):∀m,m<=d.size ->
  (Lib.compactUpTo d m).Pairwise (· < ·)/\(∀x,x∈Lib.compactUpTo d m↔∃j,j<m/\d[j]! = x)/\∀x∈Lib.compactUpTo d m,x<=d[m - 1]!
 | 0,_=>by simp[Lib.compactUpTo]
 |m+1,hm=>by
  obtain⟨h1,h2,h3⟩:=xo6 hd m aa;rw[Lib.compactUpTo_succ];by_cases hk:Lib.keeps d m=true
  .rw[if_pos hk];refine⟨List.pairwise_append.2 ⟨h1,ac,λa ha b hb=>?_⟩,λx=>?_,λx hx=>?_⟩
   .simp only[ep]at hb;subst hb;have hx:=h3 a ha;obtain⟨j,hj,_⟩:=(h2 a).1 ha;have ij:=hd (m - 1) m aa aa;unfold Lib.keeps at hk;simp only[decide_eq_true_eq]at hk;rcases hk with hk|hk
    .omega
    .omega
   .grind
   .rw[Nat.add_sub_cancel];rcases dw.1 hx with hx|hx
    .obtain⟨j,hj,e⟩:=(h2 x).1 hx;rw[<-e];exact hd j m aa aa
    .grind
  .rw[if_neg hk,ej];unfold Lib.keeps at hk;simp only[decide_eq_true_eq,not_or,Decidable.not_not]at hk;refine⟨h1,λx=>?_,λx hx=>?_⟩
   .grind
   .grind
theorem xxe(l:List Int):(qu1 l).Pairwise (·<=·):=by grind[List.pairwise_mergeSort]
theorem xme(l:List Int):(qmi l).Pairwise (· < ·)/\∀x,x∈qmi l↔x∈l:=by
 have hs:=xxe l;have hd:∀i j,i<=j->j<(qu1 l).toArray.size->(qu1 l).toArray[i]!<=(qu1 l).toArray[j]!:=λi j hij hj=>by
  simp only[qjg]at hj;rw[getElem!_pos _ i af,getElem!_pos _ j aa];by_cases e:i=j
  .grind
  .exact qjs.1 hs i j aa hj aa
 obtain⟨h1,h2,_⟩:=xo6 hd (qu1 l).length ac;refine⟨h1,λx=>(h2 x).trans ?_⟩;constructor
 .rintro⟨j,hj,e⟩;rw[getElem!_pos _ j aa]at e;have:x∈qu1 l:=e▸dk aa;exact List.mem_mergeSort.1 this
 .intro hx;obtain⟨j,hj,e⟩:=qja (List.mem_mergeSort.2 hx:x∈qu1 l);exact⟨j,hj,by rw[getElem!_pos _ j aa];exact e⟩
theorem qzv(l:List Int):(qmi l).Pairwise (· < ·):=(xme l).1
theorem qsf{l:List Int}{x:Int}:x∈qmi l↔x∈l:=(xme l).2 x
theorem jmy(l:List Int):(qmi l).Nodup:=(qzv l).imp (λh=>by omega)
structure Part where
 id:Int
 frm:ig
 node:Int
 dest:Int
 done:ig
def Part.c(x:Part):List AV:=[I x.id,S x.frm,I x.node,I x.dest,S x.done]
structure Plc where
 ver:Int
 parts:List Part
def Plc.c(p:Plc):List AV:=[I p.ver,.slice (p.parts.map Part.c)]
def qt4(b:UInt8):Bool:=decide (33<=b.toNat)&&decide (b.toNat<=126)
def qlu(s:ig):Bool:=nz qt4 (bl s)&&decide ((s.size:Int)<=24)
def z8(n:Int):Bool:=decide (1<=n)&&decide (n<=16)
def qo6(n:Int):Bool:=decide (1<=n)&&decide (n<=1099511627776)
def qo5(x:Part)(nx:Option ig):Bool :=
 if x.dest=0 then decide (x.done=em)
 else z8 x.dest&&!decide (x.dest=x.node)&&qlu x.done&&!js x.done x.frm&&(match nx with|none=>true|some y=>js x.done y)
def xdr(pre:List Part)(x:Part):Bool:=match pre.getLast? with|none=>true|some y=>qlu x.frm&&js y.frm x.frm
theorem xg2(x:Part):xdr [] x=true:=rfl
theorem xj2{l:List Part}{m:Nat}(hm:m<l.length)(x:Part):xdr (l.take (m+1)) x=(qlu x.frm&&js l[m].frm x.frm):=by
 unfold xdr;rw[ec hm,List.getLast?_append];rfl
def xg:List Part->List Part->Bool
 |_,[]=>true
 |pre,x::l=>xdr pre x&&qo6 x.id&&z8 x.node&&qo5 x (l.head?.map (·.frm))&&!pre.any (λy=>decide (y.id=x.id))&&xg (pre++[x]) l
def jy(p:Plc):Bool :=
 decide (0<=p.ver)&&decide (p.ver<=1099511627776)&&decide (1<=p.parts.length)&&decide (p.parts.length<=16)&&(match p.parts with| []=>false|x::_=>decide (x.frm=em))&&xg [] p.parts
def y6(l:List Part)(k:ig):Nat->Nat
 | 0=>0
 |i+1=>match l[i+1]? with
  |some x=>if js k x.frm=true then y6 l k i else i+1
  |none=>y6 l k i
theorem xfw(l:List Part)(k:ig):∀i,y6 l k i<=i
 | 0=>cn _
 |i+1=>by
  rw[y6];have:=xfw l k i;split
  .grind
  .omega
def ly(p:Plc)(k:ig):Int :=
 if jy p=false then 0 else match p.parts[y6 p.parts k (p.parts.length - 1)]? with
 |none=>0
 |some x=>if x.dest≠0/\js k x.done=true then x.dest else x.node
def y5(l:List Part):List Int:=l.flatMap λx=>if x.dest≠0 then [x.node,x.dest]else [x.node]
def nq(p:Plc):List Int:=if jy p=true then qmi (y5 p.parts)else []
theorem qdb{p:Plc}(h:jy p=true):1<=p.parts.length/\p.parts.length<=16:=by simp_all[cw,jy]
theorem qx7{p:Plc}(h:jy p=true)(k:ig):ly p k∈nq p:=by
 have hl:=qdb h;have hi:=xfw p.parts k (p.parts.length - 1);rw[show nq p=qmi (y5 p.parts)from if_pos h];unfold ly;rw[if_neg (show ¬jy p=false by simp[h]),cu aa];simp only;rw[qsf];unfold y5;refine qjt.2 ⟨p.parts[y6 p.parts k (p.parts.length - 1)]'aa,dk _,?_⟩;by_cases hd:(p.parts[y6 p.parts k (p.parts.length - 1)]'aa).dest≠0
 .grind
 .grind
theorem xba(p:Plc):(nq p).Pairwise (· < ·):=by grind[nq,qzv,List.Pairwise.nil]
theorem xpi(p:Plc):(nq p).Nodup:=(xba p).imp (λh=>by omega)
def qrk(q:Pr)(l:List Pr):List Pr:=if q.v.k=0 then l else q::l
def o8:List Pr->List Pr->List Pr
 | [],[]=>[]
 | [],q::w=>qrk q (o8 [] w)
 |p::l,[]=>p::o8 l []
 |p::l,q::w=>if js p.key q.key=true then p::o8 l (q::w)else if js q.key p.key=true then qrk q (o8 (p::l) w)else qrk q (o8 l w)
termination_by l w=>l.length+w.length
decreasing_by all_goals simp only[dy,ed];omega
theorem qth{p:Pr}{l:List Pr}:kg (pb (p::l))↔(∀q∈l,js p.key q.key=true)/\kg (pb l):=ac
theorem qz5:∀{l m:List Pr},kg (pb l)->kg (pb m)->(∀q,q∈l↔q∈m)->l=m
 | [],[],_,_,_=>rfl
 | [],q::m,_,_,h=>by have:=(h q).2 ac;cases this
 |p::l,[],_,_,h=>by have:=(h p).1 ac;cases this
 |p::l,q::m,hl,hm,h=>by
  rw[qth]at hl hm;have e:p=q:=by grind[xax]
  subst e;have:l=m:=qz5 hl.2 hm.2 λq=>by grind[qc4]
  rw[this]
theorem qys{q x:Pr}{l:List Pr}:x∈qrk q l↔(x=q/\x.v.k≠0)\/x∈l:=by grind[qrk]
theorem xk0{q:Pr}{l:List Pr}(h:∀x∈l,js q.key x.key=true)(hl:kg (pb l)):kg (pb (qrk q l)):=by grind[qrk,qth]
theorem xt3(q:Pr)(w:List Pr)(k:ig):nf (q::w) k=(decide (q.key=k)||nf w k):=by simp[nf,si]
theorem jnp(l w:List Pr):(∀x∈o8 l w,x∈l\/x∈w):=by
 induction l,w using o8.induct with
 |case1=>intro x hx;simp[o8]at hx
 |case2 q w ih =>
  intro x hx;rw[o8,qys]at hx;rcases hx with⟨rfl,_⟩|hx
  .simp
  .grind
 |case3 p l ih =>
  intro x hx;rw[o8,c0]at hx;rcases hx with rfl|hx
  .simp
  .grind
 |case4 p l q w h1 ih =>
  intro x hx;rw[o8,if_pos h1,c0]at hx;rcases hx with rfl|hx
  .simp
  .grind
 |case5 p l q w h1 h2 ih =>
  intro x hx;rw[o8,if_neg h1,if_pos h2,qys]at hx;rcases hx with⟨rfl,_⟩|hx
  .simp
  .grind
 |case6 p l q w h1 h2 ih =>
  intro x hx;rw[o8,if_neg h1,if_neg h2,qys]at hx;rcases hx with⟨rfl,_⟩|hx
  .simp
  .grind
theorem qvh{a b:ig}(h1:¬js a b=true)(h2:¬js b a=true):a=b:=by
 have:=qwz a b;simp only[Bool.not_eq_true]at h1 h2;rw[h1,h2]at this;simpa using this
theorem jjf{q:ig}{w:List Pr}(h:∀x∈w,js q x.key=true):nf w q=false:=xbh.2 λp hp e=>by grind[qc4]
theorem jcg(l w:List Pr):kg (pb l)->kg (pb w)->kg (pb (o8 l w))/\∀q,q∈o8 l w↔(q∈l/\nf w q.key=false)\/(q∈w/\q.v.k≠0):=by
 induction l,w using o8.induct with
 |case1=>intro _ _;simp[o8,pb]
 |case2 q w ih =>
  intro hl hw;rw[qth]at hw;obtain⟨i1,i2⟩:=ih hl hw.2;rw[o8];refine⟨xk0 (λx hx=>?_) i1,λx=>?_⟩
  .grind
  .grind[qys]
 |case3 p l ih =>
  intro hl hw;rw[qth]at hl;obtain⟨i1,i2⟩:=ih hl.2 hw;rw[o8];refine⟨qth.2 ⟨λx hx=>?_,i1⟩,λx=>?_⟩
  .grind
  .grind[nf,si]
 |case4 p l q w h1 ih =>
  intro hl hw;have hw0:=hw;rw[qth]at hl hw;obtain⟨i1,i2⟩:=ih hl.2 hw0;have hp:∀x∈q::w,js p.key x.key=true:=λx hx=>by grind[qdc]
  rw[o8,if_pos h1];refine⟨qth.2 ⟨λx hx=>?_,i1⟩,λx=>?_⟩
  .grind
  .grind[jjf]
 |case5 p l q w h1 h2 ih =>
  intro hl hw;have w9:=hl;rw[qth]at hl hw;obtain⟨i1,i2⟩:=ih w9 hw.2;have hq:∀x∈p::l,js q.key x.key=true:=λx hx=>by grind[qdc]
  rw[o8,if_neg h1,if_pos h2];refine⟨xk0 (λx hx=>?_) i1,λx=>?_⟩
  .grind
  .grind[qys,xt3,qc4,Bool.or_eq_false_iff]
 |case6 p l q w h1 h2 ih =>
  intro hl hw;rw[qth]at hl hw;obtain⟨i1,i2⟩:=ih hl.2 hw.2;have e:=qvh h1 h2;have hq:∀x∈l,js q.key x.key=true:=λx hx=>by rw[<-e];exact hl.1 x hx
  rw[o8,if_neg h1,if_neg h2];refine⟨xk0 (λx hx=>?_) i1,λx=>?_⟩
  .grind
  .grind[qys,xt3,qc4,Bool.or_eq_false_iff]
theorem xt4{l w:List Pr}(hl:kg (pb l))(hw:kg (pb w)):o8 l w=rx l w:=by grind[qz5,jcg,xe9]
end Go.Cw
