/- Part 29 of a proof. -/
import Derived.Shelf.Spec.SlicesInsertGrow
import Derived.Test.YtolejdhnnchfpaaGreatDoorQ28
set_option linter.all false
set_option maxRecDepth 4000
set_option maxHeartbeats 2000000
namespace Go.Proofs.YtolejdhnnchfpaaGreatDoor
open Go Go.Abs Go.Cw Go.Proofs.Tryz
@[simp] theorem jn9(r:LReq):r.c.length=2:=rfl
@[simp] theorem jnw(r:LReq):r.c.take 2=r.c:=rfl
@[simp] theorem jng(h:g9)(r:LReq):ko h r.c=r.c:=rfl
@[simp] theorem jl3(r:LQ):r.c.length=2:=rfl
@[simp] theorem jpe(r:LQ):r.c.take 2=r.c:=rfl
@[simp] theorem jow(h:g9)(r:LQ):ko h r.c=r.c:=rfl
@[simp] theorem jmu(h:g9)(r:LT):ko h r.c=r.c:=rfl
theorem xkv(l:List LReq):APure prog 128 [.slice (l.map LReq.c)] (Bo (qo0 none l)):=by
 refine kl func128 ntmps128 rfl ae rfl rfl λE h hN hh hu hb=>?_;simp[go_sem]at hb;simp-dsimp[go_sem,hN];refine jz l.length (λn=>qo0 ((s6 l n).map (·.t)) (l.drop n)=qo0 none l) (λn=>⟨[(0,.slice (l.map LReq.c)),(5,.slice (l.map LReq.c)),(6,I l.length),(7,I n)],h⟩) qhe (Wk.mk ai ac aa ag) ?_
 intro n hn hI;have hw:=jj hn hb.1;simp-dsimp[go_sem,hN];refine ii ?_ ?_<;>intro hc<;>try simp at hc
 .rw[jv hc,qo0]at hI;simp-dsimp[go_sem,hN,hc,LReq.c];refine jt 15 mixed ae ae ?_;cases n with
  |zero =>
   simp-dsimp[go_sem,hN];refine ii ?_ ?_<;>intro hg<;>try simp at hg
   .simp-dsimp[go_sem,hN];rw[<-hI];simp[s6,hg]
   .have h0:decide (l[0].t<0)=false:=by simpa using hg
    simp-dsimp[go_sem,hN,hw];exact⟨hc,by simpa[h0,s6,hc]using hI,(Wk.mk ai ac aa ag)⟩
  |succ m =>
   have hm:m<l.length:=aa;have oh:=qq9 (ez hm) hb.1;simp at hw;simp-dsimp[go_sem,hN,oh,hm,LReq.c];refine ii ?_ ?_<;>intro hg<;>try simp at hg
   .simp-dsimp[go_sem,hN];rw[<-hI];grind[s6]
   .have h0:decide (l[m+1].t<0)=false:=by simpa using hg.1
    simp-dsimp[go_sem,hN,hw];simp[h0,hg,s6,hm]at hI;exact⟨hc,qf0,(Wk.mk ai ac aa ag)⟩
 .rw[cq aa,qo0]at hI;simp-dsimp[go_sem,hN,<-hI]
theorem jjz(x:LReq)(h:g9)(i:Nat)(t:Int)(hi:h[i]?=some (.cells [I t])):ACalls prog 130 [.agg x.c,.ptr i 0] h λr h'=>r=.ret (Bo (decide (x.t=t)))/\h'=h:=by
 refine mh func130 ntmps130 rfl ae rfl λE hN hh hu hb iq ju=>?_;have ke:i<h.length:=(cm.1 hi).1;have a1:∀l,(h++l)[i]?=some (.cells [I t]):=λl=>by rw[co ke];exact hi
 simp-dsimp[go_sem,hN,a1,hu,LReq.c];exact⟨_,.refl _,h,ag,ag,ac,aq,rfl,rfl⟩
theorem xl1(l:List LReq)(f:FuncId)(caps:List AV)(q:LReq->Bool)(h:g9)(hcn:ko h caps=caps)(hp:∀x:LReq,ACalls prog f ([.agg x.c]++caps) h λr h'=>r=.ret (Bo (q x))/\h'=h) :
  ACalls prog 129 [.slice (l.map LReq.c),.fn (.func f) [] caps] h λr h'=>r=.ret (I (nv q l))/\h'=h:=by
 refine mh func129 ntmps129 rfl ae rfl λE hN hh hu hb iq ju=>?_;simp[go_sem]at hb;simp-dsimp[go_sem,hN];refine jz l.length (λn=>ph q n (l.drop n)=nv q l) (λn=>⟨[(0,.slice (l.map LReq.c)),(1,.fn (.func f) [] caps),(7,I l.length),(8,I n)],h⟩) qgd (Wk.mk ai ac qfx qet) ?_;intro n hn hI;have hw:=jj hn hb.1;simp-dsimp[go_sem,hN];refine ii ?_ ?_<;>intro hc<;>simp at hc
 .rw[jv hc,ph]at hI;simp-dsimp[go_sem,hN,hc,hcn];refine iy (hp l[n]) ?_;rintro r h' ⟨rfl,rfl⟩;simp-dsimp[go_sem,hN];refine ii ?_ ?_<;>intro hg<;>try simp at hg
  .simp-dsimp[go_sem,hN];rw[if_pos hg]at hI;rw[hI];exact⟨_,.refl _,h',ag,ag,ac,aq,rfl,rfl⟩
  .simp-dsimp[go_sem,hN,hw];exact⟨hc,br,Wk.mk ai ac qfx qet⟩
 .rw[cq aa,ph]at hI;simp-dsimp[go_sem,hN,<-hI];exact⟨_,.refl _,h,ag,ag,ac,aq,rfl,rfl⟩
abbrev wx(t:Int):LReq->Bool:=λx=>decide (x.t=t)
theorem qwm(l:List LReq)(t:Int):APure prog 90 [.slice (l.map LReq.c),I t] (I (nv (wx t) l)):=by
 refine lz func90 rfl ae ac rfl ?_;intro E h hN hh hu hb;rw[ntmps90]at hN;refine jo _ _ _ ?_;simp-dsimp[go_sem,hN];refine iy (xl1 l _ _ (wx t) _ qfz (λx=>jjz x _ _ t ac)) ?_;rintro r h' ⟨rfl,rfl⟩;simp-dsimp[go_sem,hN]
theorem xth{g:List LReq}{t:Int}:(nv (wx t) g = -1/\inG g t=false)\/∃(m:Nat) (hm:m<g.length),nv (wx t) g=(m:Int)/\inG g t = !g[m].w:=by
 rcases qzz (wx t) g with⟨h1,h2⟩|⟨m,hm,h1,h2⟩
 .grind[inG]
 .grind[inG]
theorem xds(t:LT):APure prog 89 [.agg t.c] (Bo (qlz t)):=by
 refine lz func89 rfl ae ac rfl ?_;intro E h hN hh hu hb;rw[ntmps89]at hN;refine jo _ _ _ ?_;simp[go_sem,LT.c]at hb;obtain⟨R,hR⟩:∃R,qlz t=R:=⟨_,rfl⟩
 rw[hR];unfold qlz at hR;simp-dsimp[go_sem,hN,LT.c];refine iv (xkv t.glob) ?_;simp-dsimp[go_sem,hN];refine ii ?_ ?_<;>intro ha<;>simp at ha
 .rw[ha]at hR;simp at hR;subst hR;simp-dsimp[go_sem,hN]
 .rw[ha,dh]at hR;subst hR;simp-dsimp[go_sem,hN];refine jz t.qs.length (λn=>qo2 t.glob ((s6 t.qs n).map (·.key)) (t.qs.drop n)=qo2 t.glob none t.qs) (λn=>⟨[(1,P0 h.length),(13,.slice (t.qs.map LQ.c)),(14,I t.qs.length),(15,I n)],h++[.cells [.slice (t.glob.map LReq.c),.slice (t.qs.map LQ.c)]]⟩) qhe (Wk.mk ai ac am ag) ?_
  intro n hn hI;have hw:=jj hn (show _<=68719476736 by omega);simp-dsimp[go_sem,hN];refine ii ?_ ?_<;>intro hc<;>simp at hc
  .rw[jv hc,qo2]at hI;simp-dsimp[go_sem,hN,hc,LQ.c];refine jt 17 mixed ae ae ?_;simp-dsimp[go_sem,hN];refine m6 (qd7 _) ac ?_;have qrw:sw t.qs[n].key=true->after ((s6 t.qs n).map (·.key)) t.qs[n].key=true->t.qs[n].reqs≠[]->qo0 none t.qs[n].reqs=true ->
     ((t.qs[n].reqs.all λr=>inG t.glob r.t)&&qo2 t.glob (some t.qs[n].key) (t.qs.drop (n+1)))=qo2 t.glob none t.qs:=λh1 h2 h3 h4=>by
    have h5:t.qs[n].reqs.isEmpty=false:=af;rw[h1,h2,h4,h5]at hI;simpa using hI
   have kf:(sw t.qs[n].key=false\/after ((s6 t.qs n).map (·.key)) t.qs[n].key=false\/t.qs[n].reqs=[]\/qo0 none t.qs[n].reqs=false)->qo2 t.glob none t.qs=false:=λh1=>by grind
   have jm:t.qs[n].reqs.length<=68719476736:=by
    have:=(qvw.1 hb.2.2) _ (cy.2 ⟨_,dk hc,rfl⟩);have h9:t.qs[n].key.size<=68719476736/\t.qs[n].reqs.length<=68719476736/\qv8 (t.qs[n].reqs.map LReq.c):=by grind[LQ.c,zi,AV.bd]
    exact h9.2.1
   cases n with
   |zero =>
    simp-dsimp[go_sem,hN];refine kq (xkv _) ac ?_;simp-dsimp[go_sem,hN];refine ii ?_ ?_<;>intro hg<;>simp at hg
    .simp-dsimp[go_sem,hN];exact kf af
    .have s8:=qrw af (by simp[s6,after]) af af;clear qrw kf;simp-dsimp[go_sem,hN];refine jz t.qs[0].reqs.length (λk=>((t.qs[0].reqs.drop k).all λr=>inG t.glob r.t)=t.qs[0].reqs.all λr=>inG t.glob r.t) (λk=>⟨[(1,P0 h.length),(13,.slice (t.qs.map LQ.c)),(14,I t.qs.length),(15,I (0:Nat)),(53,.slice (t.qs[0].reqs.map LReq.c)),(54,I t.qs[0].reqs.length),(55,I k)],h++[.cells [.slice (t.glob.map LReq.c),.slice (t.qs.map LQ.c)]]⟩) ac mj ?_;intro k hk hJ;have hwk:=jj hk jm;simp-dsimp[go_sem,hN];refine ii ?_ ?_<;>intro hd<;>simp at hd
     .rw[jv hd,qi1]at hJ;simp-dsimp[go_sem,hN,hd,LReq.c];refine iv (qwm t.glob _) ?_;rcases xth (g:=t.glob) (t:=t.qs[0].reqs[k].t)with⟨h1,h2⟩|⟨j,hj,h1,h2⟩
      .rw[h1];rw[h2,fl]at hJ;simp-dsimp[go_sem,hN];rw[<-s8,<-hJ,fl]
      .rw[h1];simp-dsimp[go_sem,hN,hj,LReq.c];refine ii ?_ ?_<;>intro qe<;>simp at qe
       .have hg3:t.glob[j].w=true:=qe.elim (λh9=>by omega) id;rw[h2,hg3]at hJ;simp-dsimp[go_sem,hN];rw[<-s8,<-hJ];simp
       .simp-dsimp[go_sem,hN,hwk];exact⟨hd,by simpa[h2,qe]using hJ,mj⟩
     .rw[cq aa,List.all_nil]at hJ;rw[<-hJ,dh]at s8;simp-dsimp[go_sem,hN,hw];exact⟨hc,by simpa[s6,hc]using s8,(Wk.mk ai ac am ag)⟩
   |succ m =>
    have hm:m<t.qs.length:=aa;have oh:=qq9 (ez hm) hb.2.1;have hpv:(s6 t.qs (m+1)).map (·.key)=some t.qs[m].key:=by simp[s6,hm]
    rw[hpv]at kf qrw;simp only[after]at kf qrw;rw[qwz]at kf qrw;simp at hw;simp-dsimp[go_sem,hN,oh,hm,LQ.c];refine kq (xkv _) ac ?_;simp-dsimp[go_sem,hN,oh,hm,LQ.c];refine ii ?_ ?_<;>intro hg<;>simp at hg
    .simp-dsimp[go_sem,hN];exact kf af
    .have s8:=qrw af af af af;clear qrw kf;simp-dsimp[go_sem,hN];refine jz t.qs[m+1].reqs.length (λk=>((t.qs[m+1].reqs.drop k).all λr=>inG t.glob r.t)=t.qs[m+1].reqs.all λr=>inG t.glob r.t) (λk=>⟨[(1,P0 h.length),(13,.slice (t.qs.map LQ.c)),(14,I t.qs.length),(15,I (m+1:Nat)),(53,.slice (t.qs[m+1].reqs.map LReq.c)),(54,I t.qs[m+1].reqs.length),(55,I k)],h++[.cells [.slice (t.glob.map LReq.c),.slice (t.qs.map LQ.c)]]⟩) ac mj ?_;intro k hk hJ;have hwk:=jj hk jm;simp-dsimp[go_sem,hN];refine ii ?_ ?_<;>intro hd<;>simp at hd
     .rw[jv hd,qi1]at hJ;simp-dsimp[go_sem,hN,hd,LReq.c];refine iv (qwm t.glob _) ?_;rcases xth (g:=t.glob) (t:=t.qs[m+1].reqs[k].t)with⟨h1,h2⟩|⟨j,hj,h1,h2⟩
      .rw[h1];rw[h2,fl]at hJ;simp-dsimp[go_sem,hN];rw[<-s8,<-hJ,fl]
      .rw[h1];simp-dsimp[go_sem,hN,hj,LReq.c];refine ii ?_ ?_<;>intro qe<;>simp at qe
       .have hg3:t.glob[j].w=true:=qe.elim (λh9=>by omega) id;rw[h2,hg3]at hJ;simp-dsimp[go_sem,hN];rw[<-s8,<-hJ];simp
       .simp-dsimp[go_sem,hN,hwk];exact⟨hd,by simpa[h2,qe]using hJ,mj⟩
     .rw[cq aa,List.all_nil]at hJ;rw[<-hJ,dh]at s8;simp-dsimp[go_sem,hN,hw];exact⟨hc,by simpa[s6,hc]using s8,(Wk.mk ai ac am ag)⟩
  .rw[cq aa,qo2]at hI;simp-dsimp[go_sem,hN,<-hI]
theorem xi2(l:List LReq)(h:g9):ACalls prog 131 [.slice (l.map LReq.c)] h λr h'=>r=.ret (.own h.length l.length)/\h'=h++[.uarr 152 2 (l.map LReq.c)]:=by
 refine re func131 rfl ae (by simp[ntmps131]) ?_;intro E hN hh hu hb iq ju;rw[ntmps131]at hN;simp[go_sem]at hb;have hw:=jj (cn l.length) (show l.length<=68719476736 by omega);refine tg (qr6 ?_);simp[go_sem,hN];refine tg (qeq [_,_,_,_,_] _ ?_);simp[go_sem,hN,hw];intro c a w sm k;refine jd1 sm k (el:=152) (x:=.tmp 5) (y:=.tmp 8) (d1:=9) (n:=l.length) (m:=l.length+1) (sz:=2) (zr:=[I 0,Bo false]) rfl rfl aa rfl ac ac ac aa ac ac (by simp[qnx]) ag ag ag aa aa aa λc' a' w' s' k'=>?_;refine qca _ [_,_,_,_,_,_] _ rfl ?_ c' a' w' s' k';simp[go_sem,hN];refine tg (qeq [_,_] _ ?_);simp[go_sem,hN];intro c a w sm k;refine xvs sm k (el:=152) (sz:=2) (i:=h.length) (n:=l.length) (d1:=12) (x:=.tmp 10) (y:=.tmp 11) (rows:=List.replicate l.length [I 0,Bo false]) (rows2:=l.map LReq.c) rfl rfl aa rfl ac ac ac aa ag ag ag ac ac ac ac λa' w' s' k'=>?_;refine qca _ [_,_,_] _ rfl ?_ _ a' w' s' k';simp[go_sem,hN];apply jo;simp-dsimp[go_sem,hN];exact⟨_,.refl _,h++[.uarr 152 2 (l.map LReq.c)],ag,by simp[hwk.refl],ac,am,ac,rfl⟩
def vv:Nat->List LQ->List (List AV)
 |_,[]=>[]
 |k,q::l=>[S q.key,.own k q.reqs.length]::vv (k+2) l
def qld(tR:TypeId):List LQ->g9
 | []=>[]
 |q::l=>.none::.uarr tR 2 (q.reqs.map LReq.c)::qld tR l
theorem xpz(q:LQ):∀(k:Nat) (l:List LQ),vv k (l++[q])=vv k l++[[S q.key,.own (k+2 * l.length) q.reqs.length]]
 |k,[]=>by simp[vv]
 |k,x::l=>by simp only[qix,vv,xpz q (k+2) l,dy];rw[show k+2+2 * l.length=k+2 * (l.length+1)by omega]
theorem xtd(tR:TypeId)(q:LQ):∀(l:List LQ),qld tR (l++[q])=qld tR l++[.none,.uarr tR 2 (q.reqs.map LReq.c)]
 | []=>by simp[qld]
 |x::l=>by simp[qld,xtd tR q l]
@[simp] theorem jdh:∀(k:Nat) (l:List LQ),(vv k l).length=l.length
 |_,[]=>rfl
 |k,_::l=>by simp[vv,jdh (k+2) l]
@[simp] theorem xw5(tR:TypeId):∀(l:List LQ),(qld tR l).length=2 * l.length
 | []=>rfl
 |_::l=>by simp[qld,xw5 tR l];omega
theorem xcm(tR:TypeId)(n:Nat):∀(l:List LQ),hUnder n (qld tR l)=true
 | []=>rfl
 |_::l=>by simp[qld,hUnder,AObj.under,xcm tR n l]
theorem xk5{n:Nat}:∀{k:Nat} {l:List LQ},k+2 * l.length<=n+1->(vv k l).all (λr=>lj n r)=true
 |_,[],_=>rfl
 |k,_::l,h=>by
  simp only[dy]at h;simp only[vv,qi1,cw];exact⟨by simp[lj,AV.under];omega,xk5 aa⟩
abbrev hpC(T:LT)(L:Nat)(k:Nat):g9:=[.cells [.slice (T.glob.map LReq.c),.slice (T.qs.map LQ.c)],.cells [.nils,.nils],.uarr 152 2 (T.glob.map LReq.c),.cells [.own (L+2) T.glob.length,.own (L+4) k],.oarr 192 2 (vv (L+6) (T.qs.take k))]
theorem xy6(T:LT)(h:g9):ACalls prog 91 [.agg T.c] h λr h'=>r=.ret (.agg [.own (h.length+2) T.glob.length,.own (h.length+4) T.qs.length])/\h'=h++([.none,.none,.uarr 152 2 (T.glob.map LReq.c),.none,.oarr 192 2 (vv (h.length+6) T.qs)]++qld 152 T.qs):=by
 refine re func91 rfl ae ac ?_;intro E hN hh hu hb iq ju;rw[ntmps91]at hN;refine jo _ _ _ ?_;simp[go_sem,LT.c]at hb;simp-dsimp[go_sem,hN,LT.c];refine iy (xi2 T.glob _) ?_;rintro r h' ⟨rfl,rfl⟩;simp-dsimp[go_sem,hN];refine jz T.qs.length (λn=>True) (λn=>⟨[(1,P0 h.length),(2,P0 (h.length+1)),(3,P0 (h.length+3)),(11,.slice (T.qs.map LQ.c)),(12,I T.qs.length),(13,I n)],h++(hpC T h.length n++qld 152 (T.qs.take n))⟩) trivial ((xsc E _ (p:=h.length+3) (j:=1) (t:=192) (sz:=2) (xs:=[.own (h.length+2) T.glob.length,.nils]) ac ac).trans ?_) ?_
 .simp[qld,vv];exact(Wk.mk ai (by simp[go_sem,vv]) (by simp[hu,tj hu,go_sem,vv]) ag)
 intro n hn _;have hw:=jj hn (show _<=68719476736 by omega);obtain⟨H,hH⟩:∃H,h++(hpC T h.length n++qld 152 (T.qs.take n))=H:=⟨_,rfl⟩
 have hHl:H.length=h.length+(5+2 * n):=qh4;have a3:H[h.length+3]?=some (.cells [.own (h.length+2) T.glob.length,.own (h.length+4) n]):=af;have a4:H[h.length+4]?=some (.oarr 192 2 (vv (h.length+6) (T.qs.take n))):=af;have b3:∀l,(H++l)[h.length+3]?=some (.cells [.own (h.length+2) T.glob.length,.own (h.length+4) n]):=λl=>by rw[co aa];exact a3
 have b4:∀l,(H++l)[h.length+4]?=some (.oarr 192 2 (vv (h.length+6) (T.qs.take n))):=λl=>by rw[co aa];exact a4
 simp only[hH];simp-dsimp[go_sem,hN];refine ii ?_ ?_<;>intro hc<;>simp at hc
 .simp-dsimp[go_sem,hN,hc,LQ.c];refine qw5 9 6 [0,1,2,3] mixed ae ?_;simp-dsimp[go_sem,hN,b3,b4];refine qyx (xi2 T.qs[n].reqs _) ?_;simp-dsimp[go_sem,hN,b3,b4,hHl];refine⟨aa,aa,hc,?_⟩;have et:T.qs.take (n+1)=T.qs.take n++[T.qs[n]]:=(List.take_append_getElem hc).symm;rw[et,xpz,xtd,<-hH];have se:(T.qs.take n).length=n:=az;rw[se,show h.length+6+2 * n=h.length+(5+2 * n)+1 by omega];refine Wk.mk ?_ ?_ ?_ ?_
  .simp[hh]
  .simp[go_sem]
  .simp[hu,tj hu,go_sem,xcm];have hU:=xk5 (n:=h.length+(2 * min n T.qs.length+2+1+1+1+1+1)) (k:=h.length+6) (l:=T.qs.take n) az;rw[dr]at hU;exact⟨⟨hU,aa⟩,by rw[qx,xcm];simp[hUnder,AObj.under]⟩
  .simp[go_sem,hw]
 .have e:n=T.qs.length:=aa;subst e;have a1:H[h.length+1]?=some (.cells [.nils,.nils]):=af;have a2:H[h.length+2]?=some (.uarr 152 2 (T.glob.map LReq.c)):=af;have s1:∀X,(H.set (h.length+1) X)[h.length+1]?=some X:=λX=>du aa;have s2:∀X,(H.set (h.length+1) X)[h.length+2]?=some (.uarr 152 2 (T.glob.map LReq.c)):=λX=>by rw[ct aa];exact a2
  have s4:∀X,(H.set (h.length+1) X)[h.length+4]?=some (.oarr 192 2 (vv (h.length+6) (T.qs.take T.qs.length))):=λX=>by rw[ct aa];exact a4
  simp-dsimp[go_sem,hN,a1,a3,s1,s2,s4];rw[gw]at hH;have hU:=xk5 (n:=h.length+(5+2 * T.qs.length)) (k:=h.length+6) (l:=T.qs) aa;rw[dr]at hU;refine⟨_,.refl _,_,?_,?_,?_,?_,rfl,rfl⟩
  .simp[go_sem]
  .rw[<-hH];simp[go_sem]
  .simp
  .simp[hu,tj hu,go_sem,xcm];rw[show h.length+(2 * T.qs.length+1+1+1+1+1)=h.length+(5+2 * T.qs.length)by omega];exact hU
def qy2(q:LQ)(k:ig):Int:=if js q.key k=true then -1 else if q.key=k then 0 else 1
theorem xog(q:LQ)(k:ig):APure prog 133 [.agg q.c,S k] (I (qy2 q k)):=by
 refine kl func133 ntmps133 rfl ae rfl rfl λE h hN hh hu hb=>?_;unfold qy2;simp-dsimp[go_sem,hN,LQ.c];refine ii (λh1=>?_) (λh1=>?_)
 .rw[if_pos h1];simp-dsimp[go_sem,hN]
 .rw[if_neg af];simp-dsimp[go_sem,hN];refine ii ?_ ?_<;>intro h2<;>simp at h2
  .rw[if_neg h2.2];simp-dsimp[go_sem,hN]
  .rw[if_pos (h2 h1)];simp-dsimp[go_sem,hN]
theorem jby(l:List LQ)(k:ig)(hs:kg (lu l)):APure prog 132 [.slice (l.map LQ.c),S k,.fn (.func 133) [] []] (.tuple [I (l7 k (lu l)),Bo (decide ((lu l)[l7 k (lu l)]?=some k))]):=by
 refine kl func132 ntmps132 rfl ae rfl rfl λE h hN hh hu hb=>?_;simp[go_sem]at hb;have hp:=qwn k (lu l);have hkl:(lu l).length=l.length:=ac;rw[hkl]at hp;simp-dsimp[go_sem,hN];refine qvb (α:=Nat×Nat) (λx=>x.1<=l7 k (lu l)/\l7 k (lu l)<=x.2/\x.2<=l.length) (λx=>⟨[(0,.slice (l.map LQ.c)),(1,S k),(2,.fn (.func 133) [] []),(8,I l.length),(9,I x.1),(10,I x.2)],h⟩) (λx=>x.2 - x.1) (0,l.length) ⟨ac,hp,ac⟩ mj ?_;rintro⟨i,j⟩ ⟨h1,h2,h3⟩;simp only at h1 h2 h3;simp-dsimp[go_sem,hN];refine ii ?_ ?_<;>intro hc<;>simp at hc
 .have hm:IntKind.i64.wrap ((IntKind.u64.wrap (IntKind.i64.wrap ((i:Int)+j))).fdiv 2)=(((i+j) / 2:Nat):Int):=by
   have h0:=hb.1.1;have e0:IntKind.i64.wrap ((i:Int)+j)=(i:Int)+j:=qed aa aa;rw[e0];have:IntKind.u64.wrap ((i:Int)+j)=(i:Int)+j:=by
    simp only[IntKind.wrap,IntKind.bits,IntKind.signed];simp;omega
   rw[this];have e1:((i:Int)+j).fdiv 2=(((i+j) / 2:Nat):Int):=by
    rw[Int.fdiv_eq_ediv_of_nonneg _ aa];omega
   rw[e1,qed aa aa]
  have il:(i+j) / 2<l.length:=aa;have ke:=qwq (k:=k) hs ((i+j) / 2) qis;generalize hq:(i+j) / 2=q at hm il ke;have hw:IntKind.i64.wrap ((q:Int)+1)=((q+1:Nat):Int):=by have h0:=hb.1.1;rw[qed aa aa];omega
  have hkq:(lu l)[q]'qis=l[q].key:=ac;simp-dsimp[go_sem,hN,hm,il];refine iv (xog l[q] k) ?_;simp-dsimp[go_sem,hN];refine ii (λnh=>?_) (λnh=>?_)
  .have tk:js l[q].key k=true:=by
    have hc3:=of_decide_eq_true nh;unfold qy2 at hc3;split at hc3
    .assumption
    .split at hc3<;>omega
   simp-dsimp[go_sem,hN,hw];exact⟨q+1,j,⟨by have:=ke.2 (by rw[hkq];exact tk);omega,h2,h3⟩,aa,mj⟩
  .simp-dsimp[go_sem,hN];refine⟨i,q,⟨h1,?_,aa⟩,aa,mj⟩;rcases ei q (l7 k (lu l))with h5|h5
   .have:=ke.1 h5;rw[hkq]at this;have hc3:=of_decide_eq_false nh;unfold qy2 at hc3;rw[if_pos this]at hc3;omega
   .exact h5
 .have hi:i=l7 k (lu l):=aa;subst hi;by_cases il:l7 k (lu l)<l.length
  .have hkq:(lu l)[l7 k (lu l)]?=some l[l7 k (lu l)].key:=bc;simp-dsimp[go_sem,hN,il]
   repeat refine⟨af,?_⟩
   refine kq (xog _ _) ac ?_;simp-dsimp[go_sem,hN];have nl:js l[l7 k (lu l)].key k=false:=by
    have:=qwq (k:=k) hs (l7 k (lu l)) qis;have h9:¬js (lu l)[l7 k (lu l)] k=true:=λh=>absurd (this.2 h) (Nat.lt_irrefl _);simpa using h9
   have hcq:qy2 l[l7 k (lu l)] k=0↔l[l7 k (lu l)].key=k:=by
    unfold qy2;rw[nl,if_neg ac];by_cases h9:l[l7 k (lu l)].key=k<;>simp[h9]
   rw[hcq,cu il];simp
  .have hd:decide (l7 k (lu l)<l.length)=false:=by simpa using il
   have qqi:(lu l)[l7 k (lu l)]?=none:=fq aa;simp-dsimp[go_sem,hN,hd,qqi];refine qd3 ?_;simp-dsimp[go_sem,hN];rw[fq aa];simp
end Go.Proofs.YtolejdhnnchfpaaGreatDoor
set_option maxRecDepth 100000
set_option maxHeartbeats 4000000
namespace Go.Proofs.YtolejdhnnchfpaaGreatDoor
open Go Go.Abs Go.Proofs Go.Shelf Go.RowKit Go.Lib Go.Proofs.Tryz
theorem xdm{P:Program}(w:World)(dT sT ty elem:TypeId)(b o dLen dCap:Nat)(a:Addr)(sLen sCap:Nat)(cs:List Value)(k m:Nat)
  (hu:P.underlying dT=some (.slice elem)) (hs:(P.info? elem).map (·.size)=some k) (hm:Nat.min sLen dLen=m) (ki:cs.length=m * k)
  (qoh:∀j v,cs[j]?=some v->w.cell? (a.add j)=some v) (hc:∀j,j<cs.length->(w.cell? ⟨b,o+j,none⟩).isSome=true) (hf:∀j,j<cs.length->w.frozen? ⟨b,o+j,none⟩=false) (h1:∀v∈cs,v.oneCell'=true) :
  (Builtin.copy_ #[dT,sT] ty #[.slice (some ⟨b,o,none⟩) dLen dCap,.slice (some a) sLen sCap]).run P w=.ok (goInt m) (w.setCells b o cs):=by
 have hl:=run_loadCells_list (P:=P) w a cs qoh;have kn:=run_storeCells_cells (P:=P) b o cs 0 w aa aa h1;cases hq:P.info? elem with
 |none=>simp[hq]at hs
 |some i =>
  have hi:i.size=k:=af;simp[Builtin.copy_,run_underlying hu,Builtin.lenOf,Builtin.firstCells,sizeOf,typeInfo,hq,hi,hm,<-ki,hl,kn]
theorem xjk:∃i,prog.info? 192=some i/\i.zero=some (.agg #[.string ⟨#[]⟩,.slice none 0 0])/\i.size=2/\i.bytes=40:=info_parts ae
theorem xzs(w:World)(v:Value)(n vb vc:Nat)(cs:List Value)(kv:Array Value)(tA:TypeId)(m8:w.ownsRow 0 192 2 v n cs)(hn:n+1<=68719476736)
  (hk:w.heap[vb]?=some (.cells kv tA (0,0))) (hks:kv.size=2) (hk1:∀u∈kv.toList,u.oneCell'=true) :
  Calls prog 134 #[v,.int .i64 n,.slice (some ⟨vb,0,none⟩) 1 vc] w λe' w'=>∃v',e'=.returned v'/\InsPostK w w' v v' 192 2 (n+1) (cs++kv.toList):=by
 obtain⟨i,hi,hz,p8,hzb⟩:=xjk;obtain⟨v',w',jk,ho,qng,zz,ht,y9,jx,te⟩:=xcx (P:=prog) (w:=w) 99 99 192 i _ underlying99 hi hz (by rw[p8];rfl) aa v n cs af ⟨vb,0,none⟩ 1 vc kv.toList af
  (λj u hu=>by rw[vg,cell_of_row _ _ _ _ _ _ hk,cz];simpa using hu) hk1 aa qfg af
 have zd:InsPostK w w' v v' 192 2 (n+1) (cs++kv.toList):=⟨ho,by rw[p8]at qng;exact qng,zz,ht,y9,jx,te⟩
 have hrun':∀ty,(Builtin.append_ #[99,99] ty #[v,.slice (some ⟨vb,0,none⟩) 1 vc]).run prog w=.ok v' w':=λty=>jk;rcases m8.2 with⟨hv,hn0⟩|⟨g,cap,cur,hv,_,hg,ng,lw,md,xy⟩
 .subst hv;subst hn0
  go_enter func134,ntmps134
  go_wp2_with (at_builtin;refine Lib.wpList_append_run _ rfl _ _ _ _ rfl _ _ rfl rfl _ _ (hrun' _) ?_)
  go_ret
  exact⟨_,rfl,zd⟩
 .subst hv;by_cases hcn:cap=n
  .subst hcn
   go_enter func134,ntmps134
   go_wp2_with (at_builtin;refine Lib.wpList_append_run _ rfl _ _ _ _ rfl _ _ rfl rfl _ _ (hrun' _) ?_)
   all_goals (go_ret;exact⟨_,rfl,zd⟩)
  .skip
   go_enter func134,ntmps134
   go_wp2_with (at_builtin;refine Lib.wpList_append_run _ rfl _ _ _ _ rfl _ _ rfl rfl _ _ (hrun' _) ?_)
   all_goals (go_ret;exact⟨_,rfl,zd⟩)
abbrev zQ:Array Value:=#[.string ⟨#[]⟩,.slice none 0 0]
theorem xls(n:Nat):(Builtin.zeroCells zQ n).size=n * 2:=by simp[Builtin.zeroCells]
theorem jky(b n c i vb m vc:Nat)(cs vs:List Value)(w:World)(hi:i<n)(hm:0<m)(xv:m<=4)(ng:n<=c)(yh:c<n+m)(qsp:n+m<=68719476736)
  (ki:cs.length=n * 2) (hvl:vs.length=m * 2)
  (md:∀j v,cs[j]?=some v->w.cell? ⟨b,j,none⟩=some v)
  (wz:∀j v,vs[j]?=some v->w.cell? ⟨vb,j,none⟩=some v) (h1c:∀v∈cs,v.oneCell'=true) (h1v:∀v∈vs,v.oneCell'=true) :
  Calls prog 134 #[.slice (some ⟨b,0,none⟩) n c,.int .i64 i,.slice (some ⟨vb,0,none⟩) m vc] w λe w' =>
   e=.returned (.slice (some ⟨w.heap.size,0,none⟩) (n+m) (grownCap w (n+m) c 192)) /\
   w'=(((w.alloc (.cells ((cs.take (i * 2)).toArray++Builtin.zeroCells zQ (n+m - i)++Builtin.zeroCells zQ (grownCap w (n+m) c 192 - (n+m))) 192)).drew.setCells w.heap.size (i * 2) vs).drew).setCells w.heap.size ((i+m) * 2) (cs.drop (i * 2)):=by
 have mixed:prog.follows .mixedOrders=true:=ae;obtain⟨i0,hi0,hz0,p8,hzb⟩:=xjk;have hz1:¬((m:Int)=0):=aa;have hz2:¬((i:Int)=(n:Int)):=aa;have hz3:(c:Int)<(n:Int)+(m:Int):=aa;have jx:(prog.info? 192).map (·.size)=some 2:=af
 have hbw:b<w.heap.size:=block_lt_of_cell (md 0 _ (cu aa));have hvw:vb<w.heap.size:=block_lt_of_cell (wz 0 _ (cu aa));have hkk:(n:Int)+(m:Int) - (i:Int)=((n+m - i:Nat):Int):=aa;have hik:i+(n+m - i)=n+m:=aa;have uv:(Builtin.firstCells i0.size i (.slice (some ⟨b,0,none⟩) i c)).run prog w.drew=.ok (cs.take (i * 2)).toArray w.drew:=by
  rw[p8];exact run_firstCells_some w.drew 2 i ⟨b,0,none⟩ i c (cs.take (i * 2)) af (λj v hj=>by
   rw[Addr.add_lit,cz];rw[dt]at hj;split at hj
   .simp_all
   .cases hj)
 have hrz:∀ty,(Builtin.append_ #[99,3] ty #[.slice (some ⟨b,0,none⟩) i c,.int .i64 ((n:Int)+(m:Int) - (i:Int))]).run prog w =
   .ok (.slice (some ⟨w.heap.size,0,none⟩) (n+m) (grownCap w (n+m) c 192)) (w.drew.alloc (.cells ((cs.take (i * 2)).toArray++Builtin.zeroCells zQ (n+m - i)++Builtin.zeroCells zQ (grownCap w (n+m) c 192 - (n+m))) 192)):=λty=>by
  have h:=Lib.run_append_grow_zeros w 99 3 ty 192 i0 _ .i64 .i64 underlying99 underlying3 hi0 hz0 (some ⟨b,0,none⟩) i c (cs.take (i * 2)) uv (n+m - i) aa aa aa aa af (by rw[hzb,hik];exact growslice_fits yh aa);rw[hik]at h;rw[hkk];exact h
 obtain⟨G,hG⟩:∃G,G=grownCap w (n+m) c 192:=⟨_,rfl⟩
 obtain⟨ROW,hROW⟩:∃ROW:Array Value,ROW=(cs.take (i * 2)).toArray++Builtin.zeroCells zQ (n+m - i)++Builtin.zeroCells zQ (G - (n+m)):=⟨_,rfl⟩
 rw[<-hG]at hrz|-;rw[<-hROW]at hrz|-;have hRl:(n+m) * 2<=ROW.size:=by grind[Array.size_append,qjg,ey,xls]
 obtain⟨W1,hW1⟩:∃W1,W1=w.drew.alloc (.cells ROW 192):=⟨_,rfl⟩
 rw[<-hW1]at hrz;have hN:∀j,j<(n+m) * 2->(W1.cell? ⟨w.heap.size,j,none⟩).isSome=true:=λj hj=>by
  rw[hW1,World.cell?_alloc_at (w:=w.drew) ROW _ w.heap.size j rfl,fi aa];rfl
 have hNf:∀j,W1.frozen? ⟨w.heap.size,j,none⟩=false:=λj=>by rw[hW1];exact World.frozen?_alloc_at (w:=w.drew) ROW _ w.heap.size j rfl
 have hOb:∀j v,w.cell? ⟨b,j,none⟩=some v->W1.cell? ⟨b,j,none⟩=some v:=λj v h=>by rw[hW1,World.cell?_alloc_past (w:=w.drew) _ b j hbw];exact h
 have hOv:∀j v,w.cell? ⟨vb,j,none⟩=some v->W1.cell? ⟨vb,j,none⟩=some v:=λj v h=>by rw[hW1,World.cell?_alloc_past (w:=w.drew) _ vb j hvw];exact h
 have hcpA:∀(W:World),(∀x,W.cell? x=W1.cell? x)->(∀x,W.frozen? x=W1.frozen? x)->∀ty dc,(Builtin.copy_ #[99,99] ty #[.slice (some ⟨w.heap.size,i * 2,none⟩) (n+m - i) dc,.slice (some ⟨vb,0,none⟩) m vc]).run prog W=.ok (goInt m) (W.setCells w.heap.size (i * 2) vs):=λW hWc hWf ty dc =>
  xdm W _ _ ty 192 w.heap.size (i * 2) (n+m - i) dc ⟨vb,0,none⟩ m vc vs 2 m underlying99 jx af hvl
   (λj v hj=>by rw[Addr.add_lit,cz,hWc];exact hOv _ v (wz j v hj))
   (λj hj=>by rw[hWc];exact hN _ aa) (λj hj=>by rw[hWf];exact hNf _) h1v
 have hGn:n+m<=G:=by rw[hG];exact grownCap_ge w _ _ _
 have hG63:G<=9223372036854775807:=by
  have:=grownCap_le_maxLen w (n+m) c 192 qha;rw[<-hG]at this;unfold maxLen at this;omega
 have hGi:¬(G=i):=aa;have hGim:¬(G=i+m):=aa;have hci:¬(c=i):=aa;have hbN:b≠w.heap.size:=aa;have hdl:(cs.drop (i * 2)).length=(n - i) * 2:=af;have hcpB:∀(W:World),(∀x,W.cell? x=(W1.setCells w.heap.size (i * 2) vs).cell? x)->(∀x,W.frozen? x=(W1.setCells w.heap.size (i * 2) vs).frozen? x)->∀ty dc sc,(Builtin.copy_ #[99,99] ty #[.slice (some ⟨w.heap.size,(i+m) * 2,none⟩) (n+m - (i+m)) dc,.slice (some ⟨b,i * 2,none⟩) (n - i) sc]).run prog W=.ok (goInt (n - i:Nat)) (W.setCells w.heap.size ((i+m) * 2) (cs.drop (i * 2))):=λW hWc hWf ty dc sc =>
  xdm W _ _ ty 192 w.heap.size ((i+m) * 2) (n+m - (i+m)) dc ⟨b,i * 2,none⟩ (n - i) sc (cs.drop (i * 2)) 2 (n - i) underlying99 jx af hdl
   (λj v hj=>by
    rw[Addr.add_lit,hWc,World.cell?_setCells_out _ _ _ _ _ (λh _=>absurd h hbN)];exact hOb _ v (md (i * 2+j) v af))
   (λj hj=>by rw[hWc];exact isSome_setCells _ _ _ _ (λt ht=>hN _ aa) _ (hN _ aa))
   (λj hj=>by rw[hWf,World.frozen?_setCells];exact hNf _) (λv hv=>h1c v (qjf hv))
 subst hW1;have hE1:∀x,((w.alloc (.cells ROW 192)).drew).cell? x=(w.drew.alloc (.cells ROW 192)).cell? x:=λx=>rfl;have m9:∀x,((w.alloc (.cells ROW 192)).drew).frozen? x=(w.drew.alloc (.cells ROW 192)).frozen? x:=λx=>rfl;have s9:∀x,(((w.alloc (.cells ROW 192)).drew.setCells w.heap.size (i * 2) vs).drew).cell? x=((w.drew.alloc (.cells ROW 192)).setCells w.heap.size (i * 2) vs).cell? x:=λx=>rfl;have pz:∀x,(((w.alloc (.cells ROW 192)).drew.setCells w.heap.size (i * 2) vs).drew).frozen? x=((w.drew.alloc (.cells ROW 192)).setCells w.heap.size (i * 2) vs).frozen? x:=λx=>rfl;have hw1:IntKind.i64.wrap ((i:Int)+(m:Int))=(i:Int)+(m:Int):=by rw[IntKind.wrap_i64];omega
 have kr:(0:Int)<=(i:Int)+(m:Int):=aa;have mw:i<=n:=aa;have htn:((i:Int)+(m:Int)).toNat=i+m:=aa;have hb3:(i:Int)<=(n:Int):=aa;clear hkk hik uv hROW hG hRl
 go_enter func134,ntmps134
 go_wp2_with (first
  |(at_builtin;refine Lib.wpList_append_run _ rfl _ _ _ _ rfl _ _ rfl rfl _ _ (hrz _) ?_)
  |(at_builtin;refine wpList_copy_runI _ rfl _ _ 99 99 rfl _ _ rfl rfl (hcpA _ hE1 m9 _ _) ?_)
  |(at_builtin;refine wpList_copy_runI _ rfl _ _ 99 99 rfl _ _ rfl rfl (hcpB _ (λ_=>rfl) (λ_=>rfl) _ _ _) ?_))
 go_region_law_o (refine step_copy_runI rfl _ _ 99 99 rfl (.slice (some ⟨w.heap.size,(i+m) * 2,none⟩) (n+m - (i+m)) (G - (i+m))) (.slice (some ⟨b,i * 2,none⟩) (n - i) (c - i)) qfi qfi (hcpB _ s9 pz 3 (G - (i+m)) (c - i)) ?_)
 go_wp2
 go_ret
 exact⟨rfl,rfl⟩
theorem ja5(b n c i vb m vc:Nat)(cs vs:List Value)(w:World)(hi:i<n)(hm:0<m)(xv:m<=4)(yh:n+m<=c)(hc63:c<=9223372036854775807)(hvb:vb≠b)
  (ki:cs.length=n * 2) (hvl:vs.length=m * 2)
  (md:∀j v,cs[j]?=some v->w.cell? ⟨b,j,none⟩=some v) (hsp:∀j,j<(n+m) * 2->(w.cell? ⟨b,j,none⟩).isSome=true) (hfz:∀j,j<(n+m) * 2->w.frozen? ⟨b,j,none⟩=false)
  (wz:∀j v,vs[j]?=some v->w.cell? ⟨vb,j,none⟩=some v) (h1c:∀v∈cs,v.oneCell'=true) (h1v:∀v∈vs,v.oneCell'=true)
  (tA tB:TypeId) (kA kB:Nat) (hsa:w.shape? vb=some (tA,kA)) (hsb:w.shape? b=some (tB,kB)) (hkB:kB≠0) (hfa:w.frozen? ⟨vb,0,none⟩=false) (hfe:w.frozen? ⟨vb,kA,none⟩=false) :
  Calls prog 134 #[.slice (some ⟨b,0,none⟩) n c,.int .i64 i,.slice (some ⟨vb,0,none⟩) m vc] w λe w' =>
   e=.returned (.slice (some ⟨b,0,none⟩) (n+m) c)/\w'=(w.drew.setCells b ((i+m) * 2) (cs.drop (i * 2))).setCells b (i * 2) vs:=by
 have mixed:prog.follows .mixedOrders=true:=ae;obtain⟨i0,hi0,hz0,p8,hzb⟩:=xjk;have hz1:¬((m:Int)=0):=aa;have hz2:¬((i:Int)=(n:Int)):=aa;have jx:(prog.info? 192).map (·.size)=some 2:=af
 have hzQ:∀w,(Go.sizeOf 192).run prog w=.ok 2 w:=λw=>by simp[Go.sizeOf,typeInfo,hi0,p8]
 have hov:∀lb cb,(callFunc 167 #[.slice (some ⟨vb,0,none⟩) m vc,.slice (some ⟨b,(i+m) * 2,none⟩) lb cb]).run prog w=.ok (.value (.bool false)) w:=λlb cb=>by
  rw[run_callFunc_extern func167 ae ae ae (e:=Extern.SlicesOverlaps.overlaps #[99,99] #[4]) ae,
   Lib.run_overlaps_apart w 99 4 192 underlying99 2 hzQ ⟨vb,0,none⟩ ⟨b,(i+m) * 2,none⟩ m vc lb cb hvb tA tB kA kB hsa hsb hkB hfa hfe]
  rfl
 have hdl:(cs.drop (i * 2)).length=(n - i) * 2:=af;have hw1:IntKind.i64.wrap ((i:Int)+(m:Int))=(i:Int)+(m:Int):=by rw[IntKind.wrap_i64];omega
 have kr:(0:Int)<=(i:Int)+(m:Int):=aa;have mw:i<=n:=aa;have htn:((i:Int)+(m:Int)).toNat=i+m:=aa;have nm:¬(c=i+m):=aa;have hb3:(i:Int)<=(n:Int)+(m:Int):=aa;have hb4:¬(c=i):=aa;have hcp1:∀ty dc sc,(Builtin.copy_ #[99,99] ty #[.slice (some ⟨b,(i+m) * 2,none⟩) (n+m - (i+m)) dc,.slice (some ⟨b,i * 2,none⟩) (n+m - i) sc]).run prog w.drew=.ok (goInt (n - i:Nat)) (w.drew.setCells b ((i+m) * 2) (cs.drop (i * 2))):=λty dc sc =>
  xdm w.drew _ _ ty 192 b ((i+m) * 2) (n+m - (i+m)) dc ⟨b,i * 2,none⟩ (n+m - i) sc (cs.drop (i * 2)) 2 (n - i) underlying99 jx af hdl
   (λj v hj=>by rw[Addr.add_lit];exact md (i * 2+j) v af)
   (λj hj=>hsp _ aa) (λj hj=>hfz _ aa) (λv hv=>h1c v (qjf hv))
 obtain⟨W1,hW1⟩:∃W1,W1=w.drew.setCells b ((i+m) * 2) (cs.drop (i * 2)):=⟨_,rfl⟩
 have hsp1:∀k,k<(n+m) * 2->(W1.cell? ⟨b,k,none⟩).isSome=true:=λk hk=>by
  rw[hW1];exact isSome_setCells b (cs.drop (i * 2)) ((i+m) * 2) w.drew (λj hj=>hsp _ aa) k (hsp k hk)
 have hcp2:∀(W:World),(∀x,W.cell? x=W1.cell? x)->(∀x,W.frozen? x=W1.frozen? x)->∀ty dc,(Builtin.copy_ #[99,99] ty #[.slice (some ⟨b,i * 2,none⟩) (n+m - i) dc,.slice (some ⟨vb,0,none⟩) m vc]).run prog W=.ok (goInt m) (W.setCells b (i * 2) vs):=λW hWc hWf ty dc =>
  xdm W _ _ ty 192 b (i * 2) (n+m - i) dc ⟨vb,0,none⟩ m vc vs 2 m underlying99 jx af hvl
   (λj v hj=>by
    rw[Addr.add_lit,cz,hWc,hW1,World.cell?_setCells_out b _ _ _ _ (λh _=>absurd h hvb)];exact wz j v hj)
   (λj hj=>by rw[hWc];exact hsp1 _ aa) (λj hj=>by rw[hWf,hW1,World.frozen?_setCells];exact hfz _ aa) h1v
 rw[<-hW1]at hcp1
 go_enter func134,ntmps134
 go_wp2_with (simp only[hov])
 go_region_law_o (refine step_copy_runI rfl _ _ 99 99 rfl _ _ qfi qfi (hcp1 _ _ _) ?_)
 go_wp2_with (at_builtin;refine wpList_copy_runI _ rfl _ _ 99 99 rfl _ _ rfl rfl (hcp2 _ (λ_=>rfl) (λ_=>rfl) _ _) ?_)
 go_ret
 first|exact⟨rfl,rfl⟩|exact⟨rfl,by rw[hW1]⟩
theorem jc4:xrv prog 134 192 2:=by
 intro w v n pos vb vc cs kv tA m8 nj hat hn hk hks qu7 it;have zf:cs.length=n * 2:=m8.1;have hkl:kv.toList.length=2:=aa;have wz:∀j u,kv.toList[j]?=some u->w.cell? ⟨vb,j,none⟩=some u:=λj u hu=>by
  rw[cell_of_row _ _ _ _ _ _ hk];simpa using hu
 rcases ei pos n with il|hge'
 .rcases m8.2 with⟨rfl,h0⟩|⟨g,cap,cur,rfl,_,hg,ng,quq,md,xy⟩
  .omega
  .have hcc:cap<=9223372036854775807:=by simp only[maxLen]at quq;omega
   have hvb:vb≠g:=it g rfl;have mb:∀j u,cs[j]?=some u->w.cell? ⟨g,j,none⟩=some u:=λj u hu=>by
    have:=m8.cells (g:=g) rfl j u hu
    rwa [vg,cz]at this
   have xfq:∀j,j<cap * 2->(w.cell? ⟨g,j,none⟩).isSome=true:=λj hj=>by
    rw[cell_of_row _ _ _ _ _ _ hg,fi aa];rfl
   have hfz:∀j,w.frozen? ⟨g,j,none⟩=false:=λj=>by simp[World.frozen?,hg]
   have hcurn:∀j,j<n * 2->cur[j]?=cs[j]?:=λj hj=>by grind
   have we:pos * 2<=n * 2:=aa;have htl:(cs.take (pos * 2)).length=pos * 2:=af;have hfinal:∀c2:Array Value,(∀j,j<(n+1) * 2->c2[j]?=if j<pos * 2 then cs[j]? else if j<pos * 2+2 then kv.toList[j - pos * 2]? else cs[j - 2]?)->(n+1) * 2<=c2.size->c2.toList.take ((n+1) * 2)=cs.take (pos * 2)++kv.toList++cs.drop (pos * 2):=λc2 h jx=>by
    apply fh;intro j;rw[dt,fb];by_cases hj:j<(n+1) * 2
    .rw[if_pos hj,h j hj];by_cases h1:j<pos * 2
     .grind
     .rw[if_neg h1];by_cases h2:j<pos * 2+2
      .grind
      .rw[if_neg h2,cx af,ew,c7,htl,hkl];congr 1;omega
    .grind
   rcases ei cap (n+1)with yh|yh
   .
    refine(jky g n cap pos vb 1 vc cs kv.toList w il aa aa ng yh aa zf aa mb wz nj qu7).mono ?_;rintro e w' ⟨rfl,rfl⟩;have zp:=grownCap_ge w (n+1) cap 192;have hgm:=grownCap_le_maxLen w (n+1) cap 192 qfg;generalize grownCap w (n+1) cap 192=G at zp hgm|-;obtain⟨ROW,hROW⟩:∃ROW:Array Value,(cs.take (pos * 2)).toArray++Builtin.zeroCells zQ (n+1 - pos)++Builtin.zeroCells zQ (G - (n+1))=ROW:=⟨_,rfl⟩
    rw[hROW];have hRs:ROW.size=G * 2:=by grind[Array.size_append,qjg,xls]
    have hRj:∀j,j<pos * 2->ROW[j]?=cs[j]?:=λj hj=>by grind
    have h0:(w.alloc (.cells ROW 192)).drew.heap[w.heap.size]?=some (.cells ROW 192 (0,0)):=heap_alloc_new _ _;obtain⟨c1,a1,a2,a3,a4,a5,a6,a7,a8⟩:=qb3 kv.toList (pos * 2) _ _ h0 aa;obtain⟨c2,b1,b2,b3,b4,b5,b6,b7,b8⟩:=qb3 (cs.drop (pos * 2)) ((pos+1) * 2) ((w.alloc (.cells ROW 192)).drew.setCells w.heap.size (pos * 2) kv.toList).drew c1 a1 af;refine⟨_,rfl,rfl,⟨qgo,.inr ⟨w.heap.size,G,c2,rfl,dq _,b1,zp,hgm,by rw[b2,a2,hRs],hfinal c2 (λj hj=>?_) aa⟩⟩,b5.trans a5,b6.trans a6,b7.trans a7,?_,.inr ⟨rfl,λk kb=>?_⟩⟩
    .rw[b3 j,a3 j,qi8,zf,hkl];by_cases h1:j<pos * 2
     .grind
     .rw[if_neg h1];by_cases h2:j<pos * 2+2
      .grind
      .rw[if_neg h2,if_pos aa,ew];congr 1;omega
    .grind
    .rw[b8 k aa];show((w.alloc (.cells ROW 192)).drew.setCells w.heap.size (pos * 2) kv.toList).heap[k]?=_;rw[a8 k aa];exact Go.heap_alloc_old _ _ kb
   .
    refine(ja5 g n cap pos vb 1 vc cs kv.toList w il aa aa yh hcc hvb zf aa mb (λj hj=>xfq j aa) (λj _=>hfz j) wz nj qu7 tA 192 2 (cap * 2) (by simp[World.shape?,hk,hks]) (by simp[World.shape?,hg,md]) aa qgw qgw).mono ?_;rintro e w' ⟨rfl,rfl⟩;obtain⟨c1,a1,a2,a3,a4,a5,a6,a7,a8⟩:=qb3 (cs.drop (pos * 2)) ((pos+1) * 2) w.drew cur hg af;obtain⟨c2,b1,b2,b3,b4,b5,b6,b7,b8⟩:=qb3 kv.toList (pos * 2) _ c1 a1 aa;refine⟨_,rfl,rfl,⟨qgo,.inr ⟨g,cap,c2,rfl,dq _,b1,yh,quq,by rw[b2,a2,md],hfinal c2 (λj hj=>?_) aa⟩⟩,b5.trans a5,b6.trans a6,b7.trans a7,by rw[b4,a4];exact cn _,.inl ⟨g,rfl,rfl,λk kb=>(b8 k kb).trans (a8 k kb)⟩⟩;rw[b3 j,a3 j,qi8,zf,hkl];by_cases h1:j<pos * 2
    .grind
    .rw[if_neg h1];by_cases h2:j<pos * 2+2
     .grind
     .rw[if_neg h2,if_neg aa,if_pos aa,ew];congr 1;omega
 .grind[xzs,fw,cq]
end Go.Proofs.YtolejdhnnchfpaaGreatDoor
