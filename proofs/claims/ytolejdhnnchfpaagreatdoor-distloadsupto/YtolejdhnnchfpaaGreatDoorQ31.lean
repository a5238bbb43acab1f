/- Part 31 of a proof. -/
import Derived.Shelf.Small.Strs
import Derived.Test.YtolejdhnnchfpaaGreatDoorQ30
set_option linter.all false
set_option maxRecDepth 4000
namespace Go.Proofs.YtolejdhnnchfpaaGreatDoor
open Go Go.Abs Go.Cw Go.Proofs.Tryz
theorem xim{σ:Type}{fs fr:FuncId}{cs cr:List AV}{H:σ->g9}{fS:σ->St->Nat->σ}{fR:σ->Ex->σ}{n0:Nat}{K:σ->Nat}{M:Nat}(B:CB prog fs fr cs cr H fS fR n0 K M)(p:Proc)(s:σ)(hK:K s+401<=M) :
  ACalls prog 285 [.agg p.c,.fn (.func fs) [] cs,.fn (.func fr) [] cr] (H s) λr h'=>r=.ret (.val (.int .i64 (IntKind.i64.wrap (401 - ((qu fS fR p.body 1 (401,s)).1:Int)))))/\h'=H (qu fS fR p.body 1 (401,s)).2:=by
 refine mh func285 ntmps285 rfl ae rfl λE hN hh hu hb iq ju=>?_;simp[go_sem]at hb;have X:=B.walk (.cells p.c) ag;have g0:∀(s:σ) (x:AObj) (l:g9),(H s++x::l)[n0]?=some x:=λs x l=>by
  rw[cx qhq,B.len,fe];rfl
 have g1:∀(s:σ) (x y:AObj) (l:g9),(H s++x::y::l)[n0+1]?=some y:=λs x y l=>by
  rw[cx qhq,B.len,show n0+1 - n0=1 by omega];rfl
 simp-dsimp[go_sem,hN,B.len,g0,g1];refine iy (xf7 X p.body 1 401 s aa hK) ?_;rintro r h' ⟨rfl,rfl⟩;simp-dsimp[go_sem,hN,g1];exact⟨_,.refl _,H (qu fS fR p.body 1 (401,s)).2,rfl,ac,by simp[B.len],by rw[B.len];exact B.und _,rfl,rfl⟩
theorem xwk(t:St)(d:Int)(h:g9):ACalls prog 291 [.agg t.x,I d] h λr h'=>r=.ret (.tuple [])/\h'=h:=by
 refine mh func291 ntmps291 rfl ae rfl λE hN hh hu hb iq ju=>?_;simp-dsimp[go_sem,hN];exact⟨_,.refl _,h,ag,ag,ac,aq,rfl,rfl⟩
theorem xoa(e:Ex)(h:g9):ACalls prog 288 [.agg e.x] h λr h'=>r=.ret (.tuple [])/\h'=h:=by
 refine mh func288 ntmps288 rfl ae rfl λE hN hh hu hb iq ju=>?_;simp-dsimp[go_sem,hN];exact⟨_,.refl _,h,ag,ag,ac,aq,rfl,rfl⟩
theorem jdd(t:St)(d:Nat)(h:g9)(i:Nat)(x:Int)(hi:h[i]?=some (.cells [I x])):ACalls prog 286 [.agg t.x,I d,.ptr i 0] h λr h'=>r=.ret (.tuple [])/\h'=h.set i (.cells [I (qlh x t d)]):=by
 refine mh func286 ntmps286 rfl ae rfl λE hN hh hu hb iq ju=>?_;simp[go_sem]at hb;have ke:i<h.length:=(cm.1 hi).1;have a1:∀l,(h++l)[i]?=some (.cells [I x]):=λl=>by rw[co ke];exact hi
 have a2:∀l (y:AObj),(h++l).set i y=h.set i y++l:=λl y=>e6 _ _ ke;have hus:∀y:Int,hUnder h.length (h.set i (.cells [I y]))=true:=λy=>qh hu (by simp[AObj.under,lj,AV.under]);have hxx:h.set i (.cells [I x])=h:=by
  apply fh;intro j;by_cases hj:i=j
  .grind
  .grind
 simp-dsimp[go_sem,hN,a1];refine ii ?_ ?_<;>intro h0<;>simp at h0
 .simp-dsimp[go_sem,hN];refine iv (xxa t d) ?_;simp-dsimp[go_sem,hN,a1,a2];rw[qlh,if_pos h0];exact⟨_,.refl _,_,rfl,hwk.app0 _,ac,by simpa using hus _,rfl,rfl⟩
 .simp-dsimp[go_sem,hN];rw[qlh,if_neg h0,hxx];exact⟨_,.refl _,_,rfl,hwk.app0 _,ac,hu,rfl,rfl⟩
theorem xns(p:Proc):APure prog 258 [.agg p.c] (I (qps p)):=by
 refine kl func258 ntmps258 rfl ae rfl rfl λE h hN hh hu hb=>?_;simp[go_sem]at hb;simp-dsimp[go_sem,hN];refine iv (xe6 _) ?_;simp-dsimp[go_sem,hN];refine ii ?_ ?_<;>intro h0<;>simp at h0
 .simp-dsimp[go_sem,hN];rw[qps,if_pos h0]
 simp-dsimp[go_sem,hN];refine iv (xv3 _) ?_;simp-dsimp[go_sem,hN];refine ii (λh1=>?_) (λh1=>?_)
 .simp-dsimp[go_sem,hN];simp only[gv,decide_eq_false_iff_not]at h1;rw[qps,if_neg cj,if_pos h1]
 simp only[Bool.not_eq_false',decide_eq_true_eq]at h1;simp-dsimp[go_sem,hN,h1];have B:CB prog 286 288 [.ptr (h.length+1) 0] [] (λx:Int=>h++[.cells p.c,.cells [I x]]) qlh wu (h.length+2) (λ_=>0) 401:={
  hS:=λ_ _ _=>by simp
  hR:=λ_ _=>by simp
  len:=λx=>by simp
  und:=λx=>by rw[tj hu];simp[go_sem]
  ucs:=qhb
  ucr:=rfl
  ncs:=λh=>rfl
  ncr:=λh=>rfl
  stmt:=λx L t d _=>by
   have:=jdd t d ((h++[.cells p.c,.cells [I x]])++L) (h.length+1) x ac;simpa using this
  root:=λx L e _=>by
   have:=xoa e ((h++[.cells p.c,.cells [I x]])++L);simpa[wu]using this }
 refine iy (xim B p 0 aa) ?_;rintro r h' ⟨rfl,rfl⟩;simp-dsimp[go_sem,hN];have ij:=quf qlh wu p.body 1 (401,(0:Int));simp only at ij;rw[qed aa aa];refine ii ?_ ?_<;>intro h2<;>simp at h2
 .simp-dsimp[go_sem,hN];rw[qps,if_neg cj,if_neg qgl];simp only;rw[if_pos ⟨h2.1,aa⟩]
 .simp-dsimp[go_sem,hN];rw[qps,if_neg cj,if_neg qgl];simp only;rw[if_neg aa]
theorem xx3(t:St)(d:Nat)(h:g9)(p i:Nat)(l:List ig)(hp:h[p]?=some (.cells [.own i l.length]))(hi:h[i]?=some (.arr 9 1 (l.map ja)))(hl:l.length+1<=68719476736) :
  ACalls prog 289 [.agg t.x,I d,.ptr p 0] h λr h'=>r=.ret (.tuple [])/\h'=(h.set i (.arr 9 1 ((qra l t d).map ja))).set p (.cells [.own i (qra l t d).length]):=by
 refine mh func289 ntmps289 rfl ae rfl λE hN hh hu hb iq ju=>?_;simp[go_sem]at hb;have hp':p<h.length:=(cm.1 hp).1;have ke:i<h.length:=(cm.1 hi).1;have hpi:p≠i:=af;have a1:∀l:g9,(h++l)[p]?=h[p]?:=λl=>co hp';have a2:∀l:g9,(h++l)[i]?=h[i]?:=λl=>co ke;have a3:∀(l:g9) (y:AObj),(h++l).set p y=h.set p y++l:=λl y=>e6 _ _ hp';have a4:∀(l:g9) (y:AObj),(h++l).set i y=h.set i y++l:=λl y=>e6 _ _ ke;have a5:∀(l:g9) (o y:AObj),(h.set i o++l).set p y=(h.set i o).set p y++l:=λl o y=>e6 _ _ af;have a6:∀(l:g9) (o:AObj),(h.set i o++l)[p]?=h[p]?:=λl o=>by rw[co af,ct (Ne.symm hpi)]
 have hus:∀(r:List (List AV)) (n:Nat),hUnder h.length ((h.set i (.arr 9 1 r)).set p (.cells [.own i n]))=true:=λr n=>qh (qh hu qhk) qg0;simp-dsimp[go_sem,hN,a1,hp];refine ii ?_ ?_<;>intro h0<;>simp at h0
 .simp-dsimp[go_sem,hN,a1,a2,a3,a4,a5,a6,hp,hi];refine⟨aa,?_⟩;have e:qra l t d=l++[t.name]:=by grind[qra]
  exact⟨_,.refl _,_,rfl,hwk.app0 _,ac,qio,rfl,by rw[e];simp[ja]⟩
 .simp-dsimp[go_sem,hN];have e:qra l t d=l:=by grind[qra]
  rw[e,qcf hi,qcf hp];exact⟨_,.refl _,_,rfl,hwk.app0 _,ac,hu,rfl,rfl⟩
theorem xwg(p:Proc)(jm:p.params.length<=34359738368):APure prog 260 [.agg p.c] (.slice ((qrq p).map ja)):=by
 refine kl func260 ntmps260 rfl ae rfl rfl λE h hN hh hu hb=>?_;simp[go_sem]at hb;simp-dsimp[go_sem,hN];refine td (α:=List ig) p.params.length (λn o=>o++(p.params.drop n).map (·.name)=p.params.map (·.name)/\o.length<=n) (λn o=>⟨[(1,.ptr h.length 0),(3,.ptr (h.length+1) 0),(7,.slice (p.params.map Param.c)),(8,I p.params.length),(9,I n)],h++[.cells p.c,.cells [.own (h.length+2) o.length],.arr 9 1 (o.map ja)]⟩) [] ac ((qol E _ (p:=h.length+1) (j:=0) (t:=9) (sz:=1) (xs:=[.nils]) ac rfl).trans ?_) ?_
 .simp;exact mj
 intro n o hn ⟨hI,hol⟩;have hw:=jj hn hb.2.1.1;simp-dsimp[go_sem,hN];refine ii ?_ ?_<;>intro hc<;>simp at hc
 .rw[jv hc,dj]at hI;simp-dsimp[go_sem,hN,hc,hw];exact⟨aa,o++[p.params[n].name],⟨by simpa using hI,az⟩,mj⟩
 rw[cq aa,fc,ej]at hI;simp-dsimp[go_sem,hN];have B:CB prog 289 288 [.ptr (h.length+1) 0] [] (λl:List ig=>h++[.cells p.c,.cells [.own (h.length+2) l.length],.arr 9 1 (l.map ja)]) qra wu (h.length+3) List.length 68719476735:={
  hS:=xlo
  hR:=λs _=>by simp[wu]
  len:=λx=>by simp
  und:=λx=>by rw[tj hu];simp[go_sem]
  ucs:=qhb
  ucr:=rfl
  ncs:=λh=>rfl
  ncr:=λh=>rfl
  stmt:=λl L t d hk=>by
   have:=xx3 t d ((h++[.cells p.c,.cells [.own (h.length+2) l.length],.arr 9 1 (l.map ja)])++L) (h.length+1) (h.length+2) l ac ac aa;simpa using this
  root:=λx L e _=>by
   have:=xoa e ((h++[.cells p.c,.cells [.own (h.length+2) x.length],.arr 9 1 (x.map ja)])++L);simpa[wu]using this }
 refine iy (xim B p o aa) ?_;rintro r h' ⟨rfl,rfl⟩;simp-dsimp[go_sem,hN];rw[qrq,<-hI]
theorem xsk(e:Ex):APure prog 293 [.agg e.x] (.agg e.x):=by
 refine kl func293 ntmps293 rfl ae rfl rfl λE h hN hh hu hb=>?_;simp[go_sem]at hb;simp-dsimp[go_sem,hN];refine jz e.args.length (λn=>True) (λn=>⟨[(1,.ptr h.length 0),(2,.ptr (h.length+1) 0),(9,.slice (e.args.map Ex.c)),(10,I e.args.length),(11,I n)],h++[.cells [I e.op,I e.n,S e.s,.own (h.length+2) n],.cells [I 0,I 0,S ⟨#[]⟩,.nils],.arr 64 4 ((e.args.take n).map Ex.c)]⟩) trivial ((qol E _ (p:=h.length) (j:=3) (t:=64) (sz:=4) (xs:=[I e.op,I e.n,S e.s,.nils]) ac rfl).trans ?_) ?_
 .simp;exact(Wk.mk ai ac am ag)
 intro n hn _;have hw:=jj hn hb.2.1;simp-dsimp[go_sem,hN];refine ii ?_ ?_<;>intro hc<;>simp at hc
 .have il:SizeOf.sizeOf e.args[n]<SizeOf.sizeOf e:=Ex.arg_lt (dk hc);simp-dsimp[go_sem,hN,hc];refine jt 5 mixed ae ae ?_;simp-dsimp[go_sem,hN,hc];refine m6 (xsk e.args[n]) ac ?_;simp-dsimp[go_sem,hN,hc,hw];have et:(e.args.map Ex.c).take (n+1)=(e.args.map Ex.c).take n++[e.args[n].x]:=by grind[ec,Ex.c_eq]
  rw[et];exact⟨aa,aa,mj⟩
 .simp-dsimp[go_sem,hN];rw[if_pos aa,fw af]
termination_by SizeOf.sizeOf e
theorem qxa{P:Program}{N:Nat}{Q:AExit->Env->Prop}{l:List Oper}{n:Nat}{L:Array Bool}{e:Env}(rs:List Nat)(it:rs≠[])(hr:Region.ready .any l.toArray L=rs)
  (h:∀i,i∈rs->match l[i]? with
  |some o=>s7 P N Q (l.map (·.dst)) o e λe'=>qz3 P N Q l n (L.setIfInBounds i true) e'
  |none=>False):qz3 P N Q l (n+1) L e:=⟨λh0=>(it (hr▸h0)).elim,λi hi=>h i (hr▸hi)⟩
theorem xwz(e:Ex)(h:g9)(p i:Nat)(l:List Ex)(hp:h[p]?=some (.cells [.own i l.length]))(hi:h[i]?=some (.uarr 64 4 (l.map Ex.c)))(hl:l.length+1<=68719476736) :
  ACalls prog 292 [.agg e.x,.ptr p 0] h λr h'=>r=.ret (.tuple [])/\h'=(h.set i (.uarr 64 4 ((l++[e]).map Ex.c))).set p (.cells [.own i (l.length+1)]):=by
 refine mh func292 ntmps292 rfl ae rfl λE hN hh hu hb iq ju=>?_;simp[go_sem]at hb;simp-dsimp[go_sem,hN];have rh:p<h.length:=(cm.1 hp).1;have ou:i<h.length:=(cm.1 hi).1;have hpi:p≠i:=af;have hip:i≠p:=λh=>hpi h.symm;have rt:∀l:g9,(h++l)[p]?=h[p]?:=λl=>co rh;have hi1:∀l:g9,(h++l)[i]?=h[i]?:=λl=>co ou;have sj:∀(y:AObj) (l:g9),(h++l).set i y=h.set i y++l:=λy l=>e6 _ _ ou;have tk:∀(y:AObj) (l:g9),(h++l).set p y=h.set p y++l:=λy l=>e6 _ _ rh;have hs3:∀(o y:AObj) (l:g9),(h.set i o++l).set p y=(h.set i o).set p y++l:=λo y l=>e6 _ _ af;have hs4:∀(o y:AObj) (l:g9),(h.set i o++l).set i y=h.set i y++l:=λo y l=>by rw[e6 _ _ af,qi2]
 have hs5:∀(o o' y:AObj) (l:g9),((h.set i o).set p o'++l).set i y=(h.set i y).set p o'++l:=λo o' y l=>by rw[e6 _ _ af,List.set_comm _ _ hpi,qi2]
 have hA:∀(o:AObj) (l:g9),(h.set i o++l)[i]?=some o:=λo l=>by rw[co af];simp[ou]
 have hB:∀(o:AObj) (L:g9),(h.set i o++L)[p]?=some (.cells [.own i l.length]):=λo L=>by rw[co af,ct hip];exact hp
 have hC:∀(o o':AObj) (L:g9),((h.set i o).set p o'++L)[i]?=some o:=λo o' L=>by rw[co af,ct hpi];simp[ou]
 have yz:∀z:List AV,(l.map Ex.c++[z])[l.length]?=some z:=λz=>by rw[cx ac];simp
 have qlg:∀y z:List AV,(l.map Ex.c++[z]).set l.length y=l.map Ex.c++[y]:=λy z=>by rw[fk _ _ ac];simp
 have qqj:∀e1:Env,e1.h=(h.set i (AObj.uarr 64 4 (l.map Ex.c++[e.x]))).set p (AObj.cells [AV.own i (l.length+1)])++[AObj.cells e.x] ->
   qwv prog [] h.length (λr h'=>r=AEnd.ret (AV.tuple [])/\h'=(h.set i (AObj.uarr 64 4 (l.map Ex.c++[e.x]))).set p (AObj.cells [AV.own i (l.length+1)])) .normal e1:=λe1 he=>by
  refine⟨trivial,.tuple [],_,.refl _,rfl,by rw[he];exact hwk.app0 _,ac,?_,rfl,rfl⟩;simpa using(qh (qh hu qhk) (by simp[AObj.under,lj,AV.under,ou]):hUnder h.length ((h.set i (AObj.uarr 64 4 (l.map Ex.c++[e.x]))).set p (AObj.cells [AV.own i (l.length+1)]))=true)
 show AWp _ _ _ _ _;refine jkg 5 mixed ae ?_;simp[qml,ux,go_sem,hN,rt,hi1,hp,hi,DR.next,qxe,rr];refine⟨_,(xsk e).at _,qhz,?_⟩;refine qxa [5] ac ae ?_;intro i' ke;simp only[ep]at ke;subst ke;simp[go_sem,hN,rt,hi1,hp,hi,hA,hB,hC,yz,qlg,sj,tk,hs3,hs4,hs5];refine⟨aa,qxa [6,8] ac ae ?_⟩;intro i' ke;simp only[c0,ep,qjc,or_false]at ke;rcases ke with rfl|rfl
 .simp[go_sem,hN,rt,hi1,hp,hi,hA,hB,hC,yz,qlg,sj,tk,hs3,hs4,hs5];refine qxa [7,8] ac ae ?_;intro i' ke;simp only[c0,ep,qjc,or_false]at ke;rcases ke with rfl|rfl
  .simp[go_sem,hN,rt,hi1,hp,hi,hA,hB,hC,yz,qlg,sj,tk,hs3,hs4,hs5];refine qxa [8] ac ae ?_;intro i' ke;simp only[ep]at ke;subst ke;simp[go_sem,hN,rt,hi1,hp,hi,hA,hB,hC,yz,qlg,sj,tk,hs3,hs4,hs5];refine⟨ae,qqj _ ?_⟩;simp
  .simp[go_sem,hN,rt,hi1,hp,hi,hA,hB,hC,yz,qlg,sj,tk,hs3,hs4,hs5];refine qxa [7] ac ae ?_;intro i' ke;simp only[ep]at ke;subst ke;simp[go_sem,hN,rt,hi1,hp,hi,hA,hB,hC,yz,qlg,sj,tk,hs3,hs4,hs5];refine⟨ae,qqj _ ?_⟩;simp
 .simp[go_sem,hN,rt,hi1,hp,hi,hA,hB,hC,yz,qlg,sj,tk,hs3,hs4,hs5];refine qxa [6] ac ae ?_;intro i' ke;simp only[ep]at ke;subst ke;simp[go_sem,hN,rt,hi1,hp,hi,hA,hB,hC,yz,qlg,sj,tk,hs3,hs4,hs5];refine qxa [7] ac ae ?_;intro i' ke;simp only[ep]at ke;subst ke;simp[go_sem,hN,rt,hi1,hp,hi,hA,hB,hC,yz,qlg,sj,tk,hs3,hs4,hs5];refine⟨ae,qqj _ ?_⟩;simp
theorem jeo(p:Proc):APure prog 262 [.agg p.c] (.slice ((uw p).map Ex.c)):=by
 refine kl func262 ntmps262 rfl ae rfl rfl λE h hN hh hu hb=>?_;simp[go_sem]at hb;simp-dsimp[go_sem,hN];have B:CB prog 291 292 [] [.ptr (h.length+1) 0] (λl:List Ex=>h++[.cells p.c,.cells [.own (h.length+2) l.length],.uarr 64 4 (l.map Ex.c)]) qyi qxu (h.length+3) List.length 68719476735:={
  hS:=λs _ _=>by simp[qyi]
  hR:=λs _=>by simp[qxu]
  len:=λx=>by simp
  und:=λx=>by rw[tj hu];simp[go_sem]
  ucs:=rfl
  ucr:=qhb
  ncs:=λh=>rfl
  ncr:=λh=>rfl
  stmt:=λx L t d _=>by simp[qyi,xwk]
  root:=λl L e hk=>by
   have:=xwz e ((h++[.cells p.c,.cells [.own (h.length+2) l.length],.uarr 64 4 (l.map Ex.c)])++L) (h.length+1) (h.length+2) l ac ac aa;simpa[qxu]using this }
 have X:=xc7 (h:=h++[.cells p.c,.cells [.nils]]) (λE=>by
  have:=xas E ⟨[],h++[.cells p.c,.cells [.nils]]⟩ (p:=h.length+1) (j:=0) (t:=64) (sz:=4) (xs:=[.nils]) ac rfl;simpa using this) (xim B p [] ac)
 have Y:=jgb (h2:=h++[.cells p.c,.cells [.own (h.length+2) (uw p).length],.arr 64 4 ((uw p).map Ex.c)]) (λE=>by
  have:=qdt E ⟨[],h++[.cells p.c,.cells [.own (h.length+2) (uw p).length],.uarr 64 4 ((uw p).map Ex.c)]⟩ (i:=h.length+2) (t:=64) (sz:=4) (rows:=(uw p).map Ex.c) ac;simpa[uw]using this) X
 refine iy Y ?_;rintro r h' ⟨rfl,rfl⟩;simp-dsimp[go_sem,hN]
theorem jbz(op:Int):APure prog 360 [I op] (.tuple [I (r5 op).1,I (r5 op).2]):=by
 refine kl func360 ntmps360 rfl ae rfl rfl λE h hN hh hu hb=>?_;by_cases h1:op=1
 .subst h1;simp-dsimp[go_sem,hN,r5]
 by_cases h25:op=25
 .subst h25;simp-dsimp[go_sem,hN,r5]
 by_cases h26:op=26
 .subst h26;simp-dsimp[go_sem,hN,r5]
 by_cases h27:op=27
 .subst h27;simp-dsimp[go_sem,hN,r5]
 by_cases h4:op=4
 .subst h4;simp-dsimp[go_sem,hN,r5]
 by_cases h5:op=5
 .subst h5;simp-dsimp[go_sem,hN,r5]
 by_cases h6:op=6
 .subst h6;simp-dsimp[go_sem,hN,r5]
 by_cases h7:op=7
 .subst h7;simp-dsimp[go_sem,hN,r5]
 by_cases h8:op=8
 .subst h8;simp-dsimp[go_sem,hN,r5]
 by_cases h9:op=9
 .subst h9;simp-dsimp[go_sem,hN,r5]
 by_cases h2:op=2
 .subst h2;simp-dsimp[go_sem,hN,r5]
 by_cases h19:op=19
 .subst h19;simp-dsimp[go_sem,hN,r5]
 by_cases h23:op=23
 .subst h23;simp-dsimp[go_sem,hN,r5]
 by_cases h16:op=16
 .subst h16;simp-dsimp[go_sem,hN,r5]
 by_cases h17:op=17
 .subst h17;simp-dsimp[go_sem,hN,r5]
 by_cases h18:op=18
 .subst h18;simp-dsimp[go_sem,hN,r5]
 by_cases h20:op=20
 .subst h20;simp-dsimp[go_sem,hN,r5]
 by_cases h21:op=21
 .subst h21;simp-dsimp[go_sem,hN,r5]
 by_cases h22:op=22
 .subst h22;simp-dsimp[go_sem,hN,r5]
 simp-dsimp[go_sem,hN,r5,h1,h25,h26,h27,h4,h5,h6,h7,h8,h9,h2,h19,h23,h16,h17,h18,h20,h21,h22]
theorem xyl(op ty:Int):APure prog 359 [I op,I ty] (Bo (xdl op ty)):=by
 refine kl func359 ntmps359 rfl ae rfl rfl λE h hN hh hu hb=>?_;simp-dsimp[go_sem,hN,xdl]
 try grind
theorem jbw(op:Int):APure prog 264 [I op] (Bo (qvl op)):=by
 refine kl func264 ntmps264 rfl ae rfl rfl λE h hN hh hu hb=>?_;simp-dsimp[go_sem,hN,qvl]
 try grind
theorem jek(s:ig):APure prog 202 [S s] (Bo (pp s)):=by
 refine kl func202 ntmps202 rfl ae rfl rfl λE h hN hh hu hb=>?_;simp[go_sem]at hb;simp-dsimp[go_sem,hN];refine jz s.size (λn=>nz okB ((bl s).drop n)=nz okB (bl s)) (λn=>⟨[(0,S s),(3,I n)],h⟩) ac (Wk.mk ai ac aa ag) ?_;intro n hn hI;have hw:=jj hn hb;simp-dsimp[go_sem,hN];refine ii ?_ ?_<;>intro hc<;>try simp at hc
 .rw[qnt hc,nz]at hI;simp-dsimp[go_sem,hN,hc];refine ii (λhg=>?_) (λhg=>?_)
  .simp-dsimp[go_sem,hN];simp[pp,<-hI,okB,hg]
  .simp-dsimp[go_sem,hN,hw];exact⟨hc,qgu,(Wk.mk ai ac aa ag)⟩
 .rw[qt1 aa,nz]at hI;simp-dsimp[go_sem,hN,pp,<-hI]
theorem xfd(a:Int):APure prog 297 [I a] (.tuple [I (qql a).1,I (qql a).2]):=by
 refine kl func297 ntmps297 rfl ae rfl rfl λE h hN hh hu hb=>?_;simp-dsimp[go_sem,hN];refine ii ?_ ?_<;>intro h0<;>simp at h0<;>simp-dsimp[go_sem,hN,qql,h0]
theorem jgk(a b:Int):APure prog 331 [I a,I b] (.tuple [I (qwi a b).1,I (qwi a b).2]):=by
 refine kl func331 ntmps331 rfl ae rfl rfl λE h hN hh hu hb=>?_;simp-dsimp[go_sem,hN]
 repeat refine⟨af,?_⟩
 refine ii ?_ ?_<;>intro h0<;>simp at h0<;>simp-dsimp[go_sem,hN]<;>grind[qwi]
theorem jjo(a b:Int):APure prog 332 [I a,I b] (.tuple [I (qwd a b).1,I (qwd a b).2]):=by
 refine kl func332 ntmps332 rfl ae rfl rfl λE h hN hh hu hb=>?_;simp-dsimp[go_sem,hN]
 repeat refine⟨af,?_⟩
 refine ii ?_ ?_<;>intro h0<;>simp at h0<;>simp-dsimp[go_sem,hN]<;>grind[qwd]
theorem xvo(a b:Int):APure prog 333 [I a,I b] (.tuple [I (qsl a b).1,I (qsl a b).2]):=by
 refine kl func333 ntmps333 rfl ae rfl rfl λE h hN hh hu hb=>?_;simp-dsimp[go_sem,hN]
 repeat refine⟨af,?_⟩
 refine ii ?_ ?_<;>intro h0<;>simp at h0<;>simp-dsimp[go_sem,hN]
 .grind[qsl]
 refine ii ?_ ?_<;>intro h1<;>simp at h1<;>simp-dsimp[go_sem,hN]
 .refine iv (xfd b) ?_;simp-dsimp[go_sem,hN];grind[qsl]
 refine ii ?_ ?_<;>intro h2<;>simp at h2<;>simp-dsimp[go_sem,hN]
 .refine iv (xfd a) ?_;simp-dsimp[go_sem,hN];grind[qsl]
 repeat refine⟨af,?_⟩
 refine ii ?_ ?_<;>intro h3<;>simp at h3<;>simp-dsimp[go_sem,hN]<;>grind[qsl]
theorem jdr(a b:Int):APure prog 334 [I a,I b] (.tuple [I (qt7 a b).1,I (qt7 a b).2]):=by
 refine kl func334 ntmps334 rfl ae rfl rfl λE h hN hh hu hb=>?_;simp-dsimp[go_sem,hN];refine ii ?_ ?_<;>intro h0<;>simp at h0<;>simp-dsimp[go_sem,hN]
 .grind[qt7]
 refine ii ?_ ?_<;>intro h1<;>simp at h1<;>simp-dsimp[go_sem,hN]
 .refine iv (xfd a) ?_;simp-dsimp[go_sem,hN];grind[qt7]
 repeat refine⟨af,?_⟩
 refine ii ?_ ?_<;>intro h3<;>simp at h3<;>simp-dsimp[go_sem,hN]<;>grind[qt7]
theorem jai(a b:Int):APure prog 335 [I a,I b] (.tuple [I (qta a b).1,I (qta a b).2]):=by
 refine kl func335 ntmps335 rfl ae rfl rfl λE h hN hh hu hb=>?_;simp-dsimp[go_sem,hN];refine ii ?_ ?_<;>intro h0<;>simp at h0<;>simp-dsimp[go_sem,hN]
 .grind[qta]
 refine ii ?_ ?_<;>intro h1<;>simp at h1<;>simp-dsimp[go_sem,hN]
 .grind[qta]
 repeat refine⟨af,?_⟩
 refine ii ?_ ?_<;>intro h3<;>simp at h3<;>simp-dsimp[go_sem,hN]<;>grind[qta]
theorem xnm(a:Int):APure prog 165 [I a] (Bo false):=by
 refine kl func165 ntmps165 rfl ae rfl rfl λE h hN hh hu hb=>?_;simp-dsimp[go_sem,hN]
theorem xpb(a:Int):APure prog 373 [I a] (Bo false):=by
 refine kl func373 ntmps373 rfl ae rfl rfl λE h hN hh hu hb=>?_;simp-dsimp[go_sem,hN]
theorem xxp(a b:Int):APure prog 352 [I a,I b] (I (qtf a b)):=by
 refine kl func352 ntmps352 rfl ae rfl rfl λE h hN hh hu hb=>?_;simp-dsimp[go_sem,hN];refine iv (xnm a) ?_;simp-dsimp[go_sem,hN];refine iv (xnm b) ?_;simp-dsimp[go_sem,hN];refine ii ?_ ?_<;>intro h0<;>simp at h0<;>simp-dsimp[go_sem,hN]
 .grind[qtf]
 refine ii ?_ ?_<;>intro h1<;>simp at h1<;>simp-dsimp[go_sem,hN]<;>grind[qtf]
theorem xvl(a b:Int):APure prog 365 [I a,I b] (I (qtf a b)):=by
 refine kl func365 ntmps365 rfl ae rfl rfl λE h hN hh hu hb=>?_;simp-dsimp[go_sem,hN];refine iv (xpb a) ?_;simp-dsimp[go_sem,hN];refine iv (xpb b) ?_;simp-dsimp[go_sem,hN];refine ii ?_ ?_<;>intro h0<;>simp at h0<;>simp-dsimp[go_sem,hN]
 .grind[qtf]
 refine ii ?_ ?_<;>intro h1<;>simp at h1<;>simp-dsimp[go_sem,hN]<;>grind[qtf]
theorem xuu(u v:V):APure prog 353 [.agg [I u.k,I u.n,S u.s,I v.k,I v.n,S v.s]] (I (qtf u.n v.n)):=by
 refine kl func353 ntmps353 rfl ae rfl rfl λE h hN hh hu hb=>?_;simp-dsimp[go_sem,hN];refine iv (xvl u.n v.n) ?_;simp-dsimp[go_sem,hN]
end Go.Proofs.YtolejdhnnchfpaaGreatDoor
namespace Go.Proofs.YtolejdhnnchfpaaGreatDoor
open Go Go.Abs Go.Cw Go.Shelf Go.Proofs.Tryz
def xvv:Ren:=⟨λ| 106=>107| 213=>159| 265=>193|x=>x,λ| 3=>3| 9=>9|x=>x,λx=>x⟩
theorem xqx:Lays.n106 prog xvv where
 mixed:=ae
 f106:=ae
 f213:=ae
 f265:=ae
 t3:=ae
 a3:=λ_=>by kernel_rfl
 z3:=λ_=>by kernel_rfl
 v3:=λ_=>by kernel_rfl
 t9:=ae
 a9:=λ_=>by kernel_rfl
 z9:=λ_=>by kernel_rfl
 v9:=λ_=>by kernel_rfl
theorem xum(a b:ig):APure prog 107 [S a,S b] (I (qti a b)) :=
 jd2 (l:=[.string a,.string b]) (r:=.int .i64 (qti a b)) rfl ⟨_,xqx.f106,rfl,rfl⟩ λw=>Any.strings_Compare xqx a b w
theorem xzm(u v:V):APure prog 354 [.agg [I u.k,I u.n,S u.s,I v.k,I v.n,S v.s]] (I (qti u.s v.s)):=by
 refine kl func354 ntmps354 rfl ae rfl rfl λE h hN hh hu hb=>?_;simp-dsimp[go_sem,hN];refine iv (xum u.s v.s) ?_;simp-dsimp[go_sem,hN]
theorem jhs(u v:V):APure prog 336 [.agg u.c,.agg v.c] (I (qq8 u v)):=by
 refine kl func336 ntmps336 rfl ae rfl rfl λE h hN hh hu hb=>?_;simp-dsimp[go_sem,hN];refine ii ?_ ?_<;>intro h0<;>simp at h0<;>simp-dsimp[go_sem,hN]
 .refine iv (xxp u.k v.k) ?_;simp-dsimp[go_sem,hN];simp[qq8,h0]
 refine ii ?_ ?_<;>intro h1<;>simp at h1<;>simp-dsimp[go_sem,hN]
 .refine iv (xzm u v) ?_;simp-dsimp[go_sem,hN];simp[qq8,h0,h1]
 .refine iv (xuu u v) ?_;simp-dsimp[go_sem,hN];simp[qq8,h0,h1]
end Go.Proofs.YtolejdhnnchfpaaGreatDoor
namespace Go.Proofs.YtolejdhnnchfpaaGreatDoor
open Go Go.Abs Go.Cw Go.Proofs.Tryz
@[go_sem] theorem jn5:qtv prog 3=some (I 0):=ae
@[go_sem] theorem jmj:qtv prog 4=some (Bo false):=ae
@[go_sem] theorem jm9:qtv prog 57=some (.agg [I 0,I 0,S ⟨#[]⟩]):=ae
theorem xf8(vars:List (ig×Int))(e:Ex)(d:Nat)(hv:py e d=0)(h:g9)(m:Nat)(hm:h[m]?=some (.map (mr I vars))) :
  ACalls prog 350 [.agg e.x,.mapr m] h λr h'=>r=.ret (.tuple [I (ofE vars e).1,I (ofE vars e).2])/\h'=h:=by
 refine mh func350 ntmps350 rfl ae rfl λE hN hh hu hb iq ju=>?_;simp[go_sem]at hb;have se:m<h.length:=(cm.1 hm).1;have a1:∀l:g9,(h++l)[m]?=h[m]?:=λl=>co se;simp-dsimp[go_sem,hN];refine ii ?_ ?_<;>intro h0<;>simp at h0
 .have ho:ofE vars e=xa7 (kz vars e.s):=by rw[xj4,if_pos h0]
  rcases hk:kz vars e.s with _|ty
  .rw[hk]at ho;simp-dsimp[go_sem,hN,a1,hm,hk];rw[ho];exact⟨_,.refl _,h,ag,ag,ac,aq,rfl,rfl⟩
  .rw[hk]at ho;simp-dsimp[go_sem,hN,a1,hm,hk]
   repeat refine⟨af,?_⟩
   refine ii ?_ ?_<;>intro h1<;>simp at h1
   .simp-dsimp[go_sem,hN];rw[ho,xa7,if_pos aa];exact⟨_,.refl _,h,ag,ag,ac,aq,rfl,rfl⟩
   .simp-dsimp[go_sem,hN];rw[ho,xa7,if_neg aa];exact⟨_,.refl _,h,ag,ag,ac,aq,rfl,rfl⟩
 simp-dsimp[go_sem,hN];refine td (α:=List Int) e.args.length (λn o=>((ofL vars e.args).1=(ofL vars (e.args.drop n)).1/\((ofL vars e.args).1=0->(ofL vars e.args).2=o++(ofL vars (e.args.drop n)).2))/\o.length=n) (λn o=>⟨[(1,.mapr m),(2,.ptr h.length 0),(8,.own (h.length+1) o.length),(39,.slice (e.args.map Ex.c)),(40,I e.args.length),(41,I n)],h++[.cells e.x,.arr 3 1 (o.map ka)]⟩) [] ac ((qq1 E _ 8 3 1 rfl).trans ?_) ?_
 .exact(Wk.mk ai ac am qe3)
 intro n o hn ⟨⟨hI1,s8⟩,hol⟩;have hw:=jj hn hb.2.1;simp-dsimp[go_sem,hN];refine ii ?_ ?_<;>intro hc<;>simp at hc
 .have il:SizeOf.sizeOf e.args[n]<SizeOf.sizeOf e:=Ex.arg_lt (dk hc);rw[jv hc,ofL]at hI1 s8;simp-dsimp[go_sem,hN,hc];refine iy (xf8 vars e.args[n] (d+1) (xxo hv _ (dk hc)) _ m af) ?_;rintro r h' ⟨rfl,rfl⟩;simp-dsimp[go_sem,hN];refine ii ?_ ?_<;>intro h1<;>simp at h1
  .simp-dsimp[go_sem,hN];rw[if_pos h1]at hI1;simp only at hI1;have ho:ofE vars e=(0,(ofE vars e.args[n]).2):=by rw[xj4 vars e,if_neg h0,if_pos aa,hI1]
   rw[ho];exact⟨_,.refl _,h,ag,ag,ac,aq,rfl,rfl⟩
  .rw[if_neg aa]at hI1 s8;simp only at hI1 s8;simp-dsimp[go_sem,hN,hw];refine⟨aa,hc,o++[(ofE vars e.args[n]).1],⟨⟨hI1,λh2=>by rw[s8 h2];simp⟩,az⟩,?_⟩;exact(Wk.mk ai ag am qe3)
 rw[cq aa,ofL]at hI1 s8;simp only at hI1 s8;have hI3:=s8 hI1;rw[ej]at hI3;have hoe:=xj4 vars e;rw[if_neg h0,hI1,if_neg ac,hI3]at hoe;have har:=xbk hv;simp-dsimp[go_sem,hN];refine ii ?_ ?_<;>intro h1<;>simp at h1
 .rw[if_pos h1]at hoe;have h2:o.length=2:=by grind[arity]
  obtain⟨x,y,rfl⟩:∃x y,o=[x,y]:=by
   match o,h2 with
   | [x,y],_=>exact⟨x,y,rfl⟩
  simp at hoe;simp-dsimp[go_sem,hN];refine jt 13 mixed ae ae ?_;simp-dsimp[go_sem,hN,ka];refine kq (xyl e.op x) ac ?_;simp-dsimp[go_sem,hN]
  repeat refine⟨af,?_⟩
  refine ii (λh3=>?_) (λh3=>?_)
  .simp-dsimp[go_sem,hN];rw[hoe,if_pos af];exact⟨_,.refl _,h,ag,ag,ac,aq,rfl,rfl⟩
  .simp-dsimp[go_sem,hN];rw[hoe,if_neg af];exact⟨_,.refl _,h,ag,ag,ac,aq,rfl,rfl⟩
 rw[if_neg aa]at hoe;simp-dsimp[go_sem,hN];refine iv (jbz e.op) ?_;simp-dsimp[go_sem,hN];refine jz o.length (λn=>(o.drop n).all (λt=>decide (t=(r5 e.op).1))=o.all (λt=>decide (t=(r5 e.op).1))) (λn=>⟨[(13,I (r5 e.op).1),(14,I (r5 e.op).2),(89,.slice (o.map ka)),(90,I o.length),(91,I n)],h⟩) ac ((quy E _).trans ?_) ?_
 .exact(Wk.mk ai ac aa (by simp[go_sem];try omega))
 intro n hn hJ;have hw:=jj hn aa;simp-dsimp[go_sem,hN];refine ii ?_ ?_<;>intro hc<;>simp at hc
 .rw[jv hc,qi1]at hJ;simp-dsimp[go_sem,hN,hc,ka];refine ii ?_ ?_<;>intro h3<;>simp at h3
  .simp-dsimp[go_sem,hN];rw[hoe,if_neg af];exact⟨_,.refl _,h,ag,ag,ac,aq,rfl,rfl⟩
  .simp-dsimp[go_sem,hN,hw];refine⟨hc,by simpa[h3]using hJ,?_⟩;exact(Wk.mk ai ac aa (by simp[go_sem];try omega))
 .rw[cq aa]at hJ;simp-dsimp[go_sem,hN];rw[hoe,if_pos af];exact⟨_,.refl _,h,ag,ag,ac,aq,rfl,rfl⟩
termination_by SizeOf.sizeOf e
end Go.Proofs.YtolejdhnnchfpaaGreatDoor
