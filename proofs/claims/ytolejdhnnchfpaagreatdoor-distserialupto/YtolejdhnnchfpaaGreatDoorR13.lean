/- Part 13 of a proof. -/
import Derived.Shelf.Small.Strs
import Derived.Shelf.Strconv.Itoa4
import Derived.Lib.ItoaLen
import Derived.Test.YtolejdhnnchfpaaGreatDoorProg
import Derived.Shelf.Slices.In.SortNone
import Derived.Shelf.Sort.Plain
import Derived.Shelf.Slices.CompactI
import Derived.Lib.SlicesCompact
import Derived.Test.YtolejdhnnchfpaaGreatDoorR12
set_option linter.all false
set_option maxRecDepth 100000
set_option maxHeartbeats 4000000
namespace Go.Proofs.YtolejdhnnchfpaaGreatDoor
open Go Go.Abs Go.Cw Go.Proofs.Tryz
section
variable {σ:Type} {K:σ->Nat} {PA:Nat} {w:Nat} {fs fr:FuncId} {cs cr:List V} {H:Nat->σ->mz} {fS:σ->St->Nat->σ} {fR:σ->Ex->σ} {n0:Nat}
def SF{H:Nat->σ->mz}{n0:Nat}(ae:WH prog w fs fr cs cr H fS fR n0 K PA)(e:Ex)(left:Nat)(s:σ)(hl:left<=1000) :
  ACalls prog 357 [.ptr w 0,.agg e.x] (H left s) λr Y=>r=.ret (.tuple [])/\Y=H (oS e left) s:=by
 refine cD func357 ntmps357 λE B hh Q hb nl qb=>?_;simp-dsimp[go_sem,B,ae.w',ae.look,ae.len];refine ox (λL=>?_) (λL=>?_)
 .subst L;refine M ?_;rw[GY,gh rfl];exact⟨_,.refl _,H 0 s,rfl,Z,Z,Q,rfl,rfl⟩
 have yw:IntKind.i64.wrap ((left:Int) - 1)=((left - 1:Nat):Int):=cq;simp-dsimp[go_sem,B,ae.w',yw,ae.set',ae.loc0];refine u4 (α:=Nat) e.args.length (λn m=>tF (e.args.drop n) m=oS e left/\m<=left) (λn m=>⟨[(0,.ptr w 0),(19,.slice (e.args.map Ex.c)),(20,I e.args.length),(21,I n)],H m s++[.cells e.x]⟩) (left - 1) ⟨by rw[GY,gg L];rfl,J⟩ (Wk.mk (by simp[hh,ae.len]) Z ((ae.ext [.cells e.x] af).und' _ _) qf0) ?_;intro n m hn ⟨z,hm⟩;have hw:=oi hn hb.2.1;refine nf (λhc=>?_) (λhc=>?_)
 .rw[ov hc,tF]at z;have ni:SizeOf.sizeOf e.args[n]<SizeOf.sizeOf e:=Ex.arg_lt (ij hc);simp-dsimp[go_sem,B,hc,ae.loc0,ae.loc1,ae.set0,ae.set1,ae.len];refine o7 (SF (ae.ext [.cells e.x,.cells e.args[n].x] af) e.args[n] m s J) (Qaa ?_);refine⟨hc,_,⟨z,?_⟩,?_⟩
  .grind[Gu]
  exact(Wk.mk (by simp[hh,ae.len]) af ((ae.ext [.cells e.x] af).und' _ _) qf0)
 rw[gq J,tF]at z;refine M ?_;subst z;exact⟨_,.refl _,H (oS e left) s,rfl,Z,qh7,ae.und' _ _,rfl,rfl⟩
termination_by SizeOf.sizeOf e
def O5{H:Nat->σ->mz}{n0:Nat}(ae:WH prog w fs fr cs cr H fS fR n0 K PA)(e:Ex)(left:Nat)(s:σ)(hl:left<=1000)(hK:K s+left<=PA) :
  ACalls prog 347 [.ptr w 0,.agg e.x] (H left s) λr Y=>r=.ret (.tuple [])/\Y=H (wa fR e (left,s)).1 (wa fR e (left,s)).2:=by
 refine cD func347 ntmps347 λE B hh Q hb nl qb=>?_;simp-dsimp[go_sem,B,ae.w',ae.look,ae.len,ae.loc0];refine pz (KJ e) Z ?_;refine nf (λL=>?_) (λL=>?_)
 .refine M ?_;rw[wa,gh J];exact⟨_,.refl _,H left s,rfl,Z,Z,Q,rfl,rfl⟩
 refine M ?_;refine pf 5 ?_;simp-dsimp[go_sem,B,ae.w',ae.loc0,ae.ncr];refine o7 (ae.root left s [.cells e.x] e hK L.1) ?_;simp-dsimp[go_sem,B,ae.loc0];refine o7 (SF (ae.ext [.cells e.x] af) e left (fR s e) hl) (M ?_);rw[wa,gg W];exact⟨_,.refl _,H (oS e left) (fR s e),rfl,Z,qh7,ae.und' _ _,rfl,rfl⟩
def Jp{H:Nat->σ->mz}{n0:Nat}(ae:WH prog w fs fr cs cr H fS fR n0 K PA)(l:List St)(d left:Nat)(s:σ)(hl:d+left<=1000)(hK:K s+left<=PA) :
  ACalls prog 324 [.ptr w 0,.slice (l.map St.c),I d] (H left s) λr Y=>r=.ret (.tuple [])/\Y=H (tn fS fR l d (left,s)).1 (tn fS fR l d (left,s)).2:=by
 refine cD func324 ntmps324 λE B hh Q hb nl qb=>?_;simp-dsimp[go_sem,B,ae.w',ae.look,ae.len,ae.loc0];refine u4 (α:=Nat×σ) l.length (λn x=>tn fS fR (l.drop n) d x=tn fS fR l d (left,s)/\x.1<=left/\K x.2+x.1<=PA) (λn x=>⟨[(0,.ptr w 0),(2,I d),(8,.slice (l.map St.c)),(9,I l.length),(10,I n)],H x.1 x.2⟩) (left,s) ⟨Z,Z,hK⟩ (Wk.mk W Z (ae.und' _ _) qf0) ?_;rintro n ⟨m,s⟩ hn ⟨z,hm,hk⟩;simp only at hm hk;have hw:=oi hn hb.1;refine nf (λhc=>?_) (λhc=>?_)
 .rw[ov hc,tn]at z;have ni:SizeOf.sizeOf l[n]<SizeOf.sizeOf l:=km (ij hc);simp-dsimp[go_sem,B,hc,ae.loc0,ae.set0,ae.len,ae.w'];refine ox (λL=>?_) (λL=>?_)
  .subst L;refine M ?_;rw[gh rfl]at z;rw[<-z];exact⟨_,.refl _,H 0 s,rfl,Z,qh7,ae.und' _ _,rfl,rfl⟩
  have yw:IntKind.i64.wrap ((m:Int) - 1)=((m - 1:Nat):Int):=cq;rw[gg L]at z;simp-dsimp[go_sem,B,yw,ae.loc0,ae.w',ae.set'];refine pf 6 ?_;have X:=ae.ext [.cells l[n].x] af;simp-dsimp[go_sem,B,ae.w',ae.loc0,ae.ncs];refine o7 (ae.stmt (m - 1) s [.cells l[n].x] l[n] d J) ?_;have k0:=ae.hS s l[n] d;simp-dsimp[go_sem,B,ae.w',ae.loc0];refine o7 (O5 X l[n].a (m - 1) (fS s l[n] d) J J) ?_;have g1:=Kl fR l[n].a (m - 1,fS s l[n] d);have k1:=E9 fR K ae.hR l[n].a (m - 1,fS s l[n] d);simp only at g1 k1;generalize rF:wa fR l[n].a (m - 1,fS s l[n] d)=x1 at g1 k1|-;simp-dsimp[go_sem,B,ae.w',ae.loc0];refine o7 (O5 X l[n].b x1.1 x1.2 J J) ?_;have g2:=Kl fR l[n].b x1;have k2:=E9 fR K ae.hR l[n].b x1;generalize hx2:wa fR l[n].b x1=x2 at g2 k2|-;have uc:IntKind.i64.wrap ((d:Int)+1)=((d+1:Nat):Int):=cq;have qd:=St.body_le l[n];have rh:=St.els_le l[n];simp-dsimp[go_sem,B,ae.w',ae.loc0,uc];refine o7 (Jp X l[n].body (d+1) x2.1 x2.2 J J) ?_;have g3:=wE fS fR l[n].body (d+1) x2;have k3:=Bg fS fR K ae.hS ae.hR l[n].body (d+1) x2;generalize hx3:tn fS fR l[n].body (d+1) x2=x3 at g3 k3|-;simp-dsimp[go_sem,B,ae.w',ae.loc0,uc];refine o7 (Jp X l[n].els (d+1) x3.1 x3.2 J J) ?_;have g4:=wE fS fR l[n].els (d+1) x3;have k4:=Bg fS fR K ae.hS ae.hR l[n].els (d+1) x3;refine Qaa ?_;refine⟨hc,(tn fS fR l[n].els (d+1) x3).1,(tn fS fR l[n].els (d+1) x3).2,⟨?_,?_⟩,(Wk.mk (by simp[hh,ae.len]) Z (ae.und' _ _) qf0)⟩
  .grind[TA]
  omega
 rw[gq J,tn]at z;refine M ?_;rw[<-z];exact⟨_,.refl _,H m s,rfl,Z,qh7,ae.und' _ _,rfl,rfl⟩
termination_by SizeOf.sizeOf l
end
def Lo{σ:Type}{fs fr:FuncId}{cs cr:List V}{H:σ->mz}{fS:σ->St->Nat->σ}{fR:σ->Ex->σ}{n0:Nat}{K:σ->Nat}{PA:Nat}(hN:CB prog fs fr cs cr H fS fR n0 K PA)(p:Proc)(s:σ)(hK:K s+401<=PA) :
  ACalls prog 285 [.agg p.c,.fn (.func fs) [] cs,.fn (.func fr) [] cr] (H s) λr Y=>r=.ret (.val (.int .i64 (IntKind.i64.wrap (401 - ((tn fS fR p.body 1 (401,s)).1:Int)))))/\Y=H (tn fS fR p.body 1 (401,s)).2:=by
 refine cD func285 ntmps285 λE B hh Q hb nl qb=>?_;have X:=hN.walk (.cells p.c) af;have g0:∀(s:σ) (x:AObj) (l:mz),(H s++x::l)[n0]?=some x:=λs x l=>by rw[gz qhd,hN.len,kh];rfl
 have g1:∀(s:σ) (x y:AObj) (l:mz),(H s++x::y::l)[n0+1]?=some y:=λs x y l=>by rw[gz qhd,hN.len,show n0+1 - n0=1 by omega];rfl
 simp-dsimp[go_sem,B,hN.len,g0,g1];refine o7 (Jp X p.body 1 401 s J hK) ?_;simp-dsimp[go_sem,B,g1];exact⟨_,.refl _,H (tn fS fR p.body 1 (401,s)).2,rfl,Z,by simp[hN.len],by rw[hN.len];exact hN.und _,rfl,rfl⟩
theorem ql8(t:St)(d:Int)(h:mz):ACalls prog 291 [.agg t.x,I d] h λr Y=>r=.ret (.tuple [])/\Y=h:=by refine s8 func291 ntmps291 λE B hh Q hb nl qb=>?_;exact Qfc
def LB(e:Ex)(h:mz):ACalls prog 288 [.agg e.x] h λr Y=>r=.ret (.tuple [])/\Y=h:=by refine s8 func288 ntmps288 λE B hh Q hb nl qb=>?_;exact Qfc
def qkk(t:St)(d:Nat)(h:mz)(i:Nat)(x:Int)(hi:h[i]?=some (.cells [I x])):ACalls prog 286 [.agg t.x,I d,.ptr i 0] h λr Y=>r=.ret (.tuple [])/\Y=h.set i (.cells [I (cQ x t d)]):=by
 refine cD func286 ntmps286 λE B hh Q hb nl qb=>?_;have qj:i<h.length:=(gn.1 hi).1;have a1:∀l,(h++l)[i]?=some (.cells [I x]):=λl=>by rw[gu qj];exact hi
 have a2:∀l (y:AObj),(h++l).set i y=h.set i y++l:=λl y=>jw _ _ qj;have dF:∀y:Int,hUnder h.length (h.set i (.cells [I y]))=true:=λy=>wh Q (by simp[AObj.under,q9,V.under]);have hxx:h.set i (.cells [I x])=h:=by
  apply kp;intro j;by_cases hj:i=j
  .grind
  grind
 simp-dsimp[go_sem,B,a1];refine ox (λL=>?_) (λL=>?_)
 .refine M ?_;refine nc (XL t d) ?_;simp-dsimp[go_sem,B,a1,a2];rw[cQ,gh L];exact⟨_,.refl _,_,rfl,hwk.app0 _,Z,by simpa using dF _,rfl,rfl⟩
 refine M ?_;rw[cQ,gg L,hxx];exact⟨_,.refl _,_,rfl,hwk.app0 _,Z,Q,rfl,rfl⟩
def QW(p:Proc):APure prog 258 [.agg p.c] (I (zo p)):=by
 refine ry func258 ntmps258 λE h B hh Q hb=>?_;refine M ?_;refine nc (Fp _) ?_;refine nf (λL=>?_) (λL=>?_)
 .refine M ?_;rw[zo,gh L]
 refine M ?_;refine nc (Zw _) (M ?_);refine og (λO=>?_) (λO=>?_)
 .refine M ?_;simp only[mh,decide_eq_false_iff_not]at O;rw[zo,gg bz,gh O]
 simp only[Bool.not_eq_false',jm]at O;simp-dsimp[go_sem,B,O];have hN:CB prog 286 288 [.ptr (h.length+1) 0] [] (λx:Int=>h++[.cells p.c,.cells [I x]]) cQ tz (h.length+2) (λ_=>0) 401:={
  hS:=λ_ _ _=>by simp
  hR:=λ_ _=>by simp
  len:=λx=>by simp
  und:=λx=>by rw[z8 Q];simp[go_sem]
  ucs:=qgy
  ucr:=rfl
  ncs:=λh=>rfl
  ncr:=λh=>rfl
  stmt:=λx h0 t d _=>by have:=qkk t d ((h++[.cells p.c,.cells [I x]])++h0) (h.length+1) x Z;simpa using this
  root:=λx h0 e _=>by have:=LB e ((h++[.cells p.c,.cells [I x]])++h0);simpa[tz]using this }
 refine o7 (Lo hN p 0 J) (M ?_);have nh:=wE cQ tz p.body 1 (401,(0:Int));simp only at nh;rw[eU J J];refine ox (λU=>?_) (λU=>?_)
 .refine M ?_;rw[zo,gg bz,gg dq];simp only;rw[gh ⟨U.1,J⟩]
 refine M ?_;rw[zo,gg bz,gg dq];simp only;rw[gg J]
def W7(t:St)(d:Nat)(h:mz)(p i:Nat)(l:List na)(hp:h[p]?=some (.cells [.own i l.length]))(hi:h[i]?=some (.arr 9 1 (l.map ny)))(hl:l.length+1<=68719476736) :
  ACalls prog 289 [.agg t.x,I d,.ptr p 0] h λr Y=>r=.ret (.tuple [])/\Y=(h.set i (.arr 9 1 ((bC l t d).map ny))).set p (.cells [.own i (bC l t d).length]):=by
 refine cD func289 ntmps289 λE B hh Q hb nl qb=>?_;have rL:p<h.length:=(gn.1 hp).1;have qj:i<h.length:=(gn.1 hi).1;have sE:p≠i:=W;have a1:∀l:mz,(h++l)[p]?=h[p]?:=λl=>gu rL;have a2:∀l:mz,(h++l)[i]?=h[i]?:=λl=>gu qj;have a3:∀(l:mz) (y:AObj),(h++l).set p y=h.set p y++l:=λl y=>jw _ _ rL;have a4:∀(l:mz) (y:AObj),(h++l).set i y=h.set i y++l:=λl y=>jw _ _ qj;have a5:∀(l:mz) (o y:AObj),(h.set i o++l).set p y=(h.set i o).set p y++l:=λl o y=>jw _ _ W;have a6:∀(l:mz) (o:AObj),(h.set i o++l)[p]?=h[p]?:=λl o=>by rw[gu W,gv (Ne.symm sE)]
 have dF:∀(r:List (List V)) (n:Nat),hUnder h.length ((h.set i (.arr 9 1 r)).set p (.cells [.own i n]))=true:=λr n=>wh (wh Q fh) qgo;simp-dsimp[go_sem,B,a1,hp];refine ox (λL=>?_) (λL=>?_)
 .simp-dsimp[go_sem,B,a1,a2,a3,a4,a5,a6,hp,hi];refine⟨J,?_⟩;have e:bC l t d=l++[t.name]:=by grind[bC]
  exact⟨_,.refl _,_,rfl,hwk.app0 _,Z,qic,rfl,by rw[e];simp[ny]⟩
 refine M ?_;have e:bC l t d=l:=by grind[bC]
 rw[e,fM hi,fM hp];exact⟨_,.refl _,_,rfl,hwk.app0 _,Z,Q,rfl,rfl⟩
def Yy(p:Proc)(oy:p.params.length<=34359738368):APure prog 260 [.agg p.c] (.slice ((gC p).map ny)):=by
 refine ry func260 ntmps260 λE h B hh Q hb=>?_;refine M ?_;refine u4 (α:=List na) p.params.length (λn o=>o++(p.params.drop n).map (·.name)=p.params.map (·.name)/\o.length<=n) (λn o=>⟨[(1,.ptr h.length 0),(3,.ptr (h.length+1) 0),(7,.slice (p.params.map Param.c)),(8,I p.params.length),(9,I n)],h++[.cells p.c,.cells [.own (h.length+2) o.length],.arr 9 1 (o.map ny)]⟩) [] Z ((pJ E _ (p:=h.length+1) (j:=0) (t:=9) (sz:=1) (xs:=[.nils]) Z rfl).trans ?_) ?_
 .simp;exact ng
 intro n o hn ⟨z,nK⟩;have hw:=oi hn hb.2.1.1;refine nf (λhc=>?_) (λhc=>?_)
 .rw[ov hc,jd]at z;simp-dsimp[go_sem,B,hc,hw];exact⟨J,o++[p.params[n].name],⟨qhp,au⟩,ng⟩
 rw[gq J,kf,jv]at z;refine M ?_;have hN:CB prog 289 288 [.ptr (h.length+1) 0] [] (λl:List na=>h++[.cells p.c,.cells [.own (h.length+2) l.length],.arr 9 1 (l.map ny)]) bC tz (h.length+3) List.length 68719476735:={
  hS:=Sm
  hR:=λs _=>by simp[tz]
  len:=λx=>by simp
  und:=λx=>by rw[z8 Q];simp[go_sem]
  ucs:=qgy
  ucr:=rfl
  ncs:=λh=>rfl
  ncr:=λh=>rfl
  stmt:=λl h0 t d hk=>by
   have:=W7 t d ((h++[.cells p.c,.cells [.own (h.length+2) l.length],.arr 9 1 (l.map ny)])++h0) (h.length+1) (h.length+2) l Z Z J
   simp_all
  root:=λx h0 e _=>by have:=LB e ((h++[.cells p.c,.cells [.own (h.length+2) x.length],.arr 9 1 (x.map ny)])++h0);simpa[tz]using this }
 refine o7 (Lo hN p o J) (M ?_);grind[gC]
def PK(e:Ex):APure prog 293 [.agg e.x] (.agg e.x):=by
 refine ry func293 ntmps293 λE h B hh Q hb=>?_;refine M ?_;refine po e.args.length (λn=>True) (λn=>⟨[(1,.ptr h.length 0),(2,.ptr (h.length+1) 0),(9,.slice (e.args.map Ex.c)),(10,I e.args.length),(11,I n)],h++[.cells [I e.op,I e.n,my e.s,.own (h.length+2) n],.cells [I 0,I 0,my ⟨#[]⟩,.nils],.arr 64 4 ((e.args.take n).map Ex.c)]⟩) trivial ((pJ E _ (p:=h.length) (j:=3) (t:=64) (sz:=4) (xs:=[I e.op,I e.n,my e.s,.nils]) Z rfl).trans ?_) ?_
 .simp;exact ng
 intro n hn _;have hw:=oi hn hb.2.1;refine nf (λhc=>?_) (λhc=>?_)
 .have ni:SizeOf.sizeOf e.args[n]<SizeOf.sizeOf e:=Ex.arg_lt (ij hc);refine Qab ?_;refine pf 5 (Qab ?_);refine p7 (PK e.args[n]) Z ?_;simp-dsimp[go_sem,B,hc,hw];have et:(e.args.map Ex.c).take (n+1)=(e.args.map Ex.c).take n++[e.args[n].x]:=by grind[jn,Ex.c_eq]
  rw[et];exact⟨J,J,ng⟩
 refine M ?_;grind[ll]
termination_by SizeOf.sizeOf e
def AM{P:Program}{N:Nat}{hu:AExit->Env->Prop}{l:List Oper}{n:Nat}{h0:Array Bool}{e:Env}(rs:List Nat)(nv:rs≠[])(G:Region.ready .any l.toArray h0=rs)
  (h:∀i,i∈rs->match l[i]? with
  |some o=>zx P N hu (l.map (·.dst)) o e λe'=>DU P N hu l n (h0.setIfInBounds i true) e'
  |none=>False):DU P N hu l (n+1) h0 e:=⟨λL=>(nv (G▸L)).elim,λi hi=>h i (G▸hi)⟩
def W9(e:Ex)(h:mz)(p i:Nat)(l:List Ex)(hp:h[p]?=some (.cells [.own i l.length]))(hi:h[i]?=some (.uarr 64 4 (l.map Ex.c)))(hl:l.length+1<=68719476736) :
  ACalls prog 292 [.agg e.x,.ptr p 0] h λr Y=>r=.ret (.tuple [])/\Y=(h.set i (.uarr 64 4 ((l++[e]).map Ex.c))).set p (.cells [.own i (l.length+1)]):=by
 refine cD func292 ntmps292 λE B hh Q hb nl qb=>?_;refine M ?_;have y3:p<h.length:=(gn.1 hp).1;have tq:i<h.length:=(gn.1 hi).1;have sE:p≠i:=W;have hip:i≠p:=λh=>sE h.symm;have yu:∀l:mz,(h++l)[p]?=h[p]?:=λl=>gu y3;have hi1:∀l:mz,(h++l)[i]?=h[i]?:=λl=>gu tq;have aA:∀(y:AObj) (l:mz),(h++l).set i y=h.set i y++l:=λy l=>jw _ _ tq;have zy:∀(y:AObj) (l:mz),(h++l).set p y=h.set p y++l:=λy l=>jw _ _ y3;have nE:∀(o y:AObj) (l:mz),(h.set i o++l).set p y=(h.set i o).set p y++l:=λo y l=>jw _ _ W;have rP:∀(o y:AObj) (l:mz),(h.set i o++l).set i y=h.set i y++l:=λo y l=>by rw[jw _ _ W,mq]
 have hs5:∀(o o' y:AObj) (l:mz),((h.set i o).set p o'++l).set i y=(h.set i y).set p o'++l:=λo o' y l=>by rw[jw _ _ W,List.set_comm _ _ sE,mq]
 have hA:∀(o:AObj) (l:mz),(h.set i o++l)[i]?=some o:=λo l=>by rw[gu W];simp[tq]
 have hB:∀(o:AObj) (h0:mz),(h.set i o++h0)[p]?=some (.cells [.own i l.length]):=λo h0=>by rw[gu W,gv hip];exact hp
 have hC:∀(o o':AObj) (h0:mz),((h.set i o).set p o'++h0)[i]?=some o:=λo o' h0=>by rw[gu W,gv sE];simp[tq]
 have fT:∀hI:List V,(l.map Ex.c++[hI])[l.length]?=some hI:=λhI=>by rw[gz Z];simp
 have eX:∀y hI:List V,(l.map Ex.c++[hI]).set l.length y=l.map Ex.c++[y]:=λy hI=>by rw[ku _ _ Z];simp
 have rY:∀e1:Env,e1.h=(h.set i (AObj.uarr 64 4 (l.map Ex.c++[e.x]))).set p (AObj.cells [V.own i (l.length+1)])++[AObj.cells e.x] ->
   Af prog [] h.length (λr Y=>r=AEnd.ret (V.tuple [])/\Y=(h.set i (AObj.uarr 64 4 (l.map Ex.c++[e.x]))).set p (AObj.cells [V.own i (l.length+1)])) .normal e1:=λe1 he=>by
  refine⟨trivial,.tuple [],_,.refl _,rfl,by rw[he];exact hwk.app0 _,Z,?_,rfl,rfl⟩;grind[AObj.under,q9,V.under,wh]
 show AWp _ _ _ _ _;refine qrr 5 mixed ah ?_;simp[mO,cA,go_sem,B,yu,hi1,hp,hi,DR.next,A7,xy];refine⟨_,(PK e).at _,qgk,?_⟩;refine AM [5] Z ah ?_;intro i' qj;simp only[jx]at qj;subst qj;simp[go_sem,B,yu,hi1,hp,hi,hA,hB,hC,fT,eX,aA,zy,nE,rP,hs5];refine⟨J,AM [6,8] Z ah ?_⟩;intro i' qj;simp only[iq,jx,qi0,or_false]at qj;rcases qj with rfl|rfl
 .simp[go_sem,B,yu,hi1,hp,hi,hA,hB,hC,fT,eX,aA,zy,nE,rP,hs5];refine AM [7,8] Z ah ?_;intro i' qj;simp only[iq,jx,qi0,or_false]at qj;rcases qj with rfl|rfl
  .simp[go_sem,B,yu,hi1,hp,hi,hA,hB,hC,fT,eX,aA,zy,nE,rP,hs5];refine AM [8] Z ah ?_;intro i' qj;simp only[jx]at qj;subst qj;simp[go_sem,B,yu,hi1,hp,hi,hA,hB,hC,fT,eX,aA,zy,nE,rP,hs5];refine⟨ah,rY _ ?_⟩;simp
  exact Qfd
 simp[go_sem,B,yu,hi1,hp,hi,hA,hB,hC,fT,eX,aA,zy,nE,rP,hs5];refine AM [6] Z ah ?_;intro i' qj;simp only[jx]at qj;subst qj;exact Qfd
def qo6(p:Proc):APure prog 262 [.agg p.c] (.slice ((yt p).map Ex.c)):=by
 refine ry func262 ntmps262 λE h B hh Q hb=>?_;refine M ?_;have hN:CB prog 291 292 [] [.ptr (h.length+1) 0] (λl:List Ex=>h++[.cells p.c,.cells [.own (h.length+2) l.length],.uarr 64 4 (l.map Ex.c)]) eR mM (h.length+3) List.length 68719476735:={
  hS:=λs _ _=>by simp[eR]
  hR:=λs _=>by simp[mM]
  len:=λx=>by simp
  und:=λx=>by rw[z8 Q];simp[go_sem]
  ucs:=rfl
  ucr:=qgy
  ncs:=λh=>rfl
  ncr:=λh=>rfl
  stmt:=λx h0 t d _=>by simp[eR,ql8]
  root:=λl h0 e hk=>by have:=W9 e ((h++[.cells p.c,.cells [.own (h.length+2) l.length],.uarr 64 4 (l.map Ex.c)])++h0) (h.length+1) (h.length+2) l Z Z J;simpa[mM]using this }
 have X:=Hz (h:=h++[.cells p.c,.cells [.nils]]) (λE=>by have:=CW E ⟨[],h++[.cells p.c,.cells [.nils]]⟩ (p:=h.length+1) (j:=0) (t:=64) (sz:=4) (xs:=[.nils]) Z rfl;simpa using this) (Lo hN p [] Z)
 have h':=qko (U:=h++[.cells p.c,.cells [.own (h.length+2) (yt p).length],.arr 64 4 ((yt p).map Ex.c)]) (λE=>by have:=tX E ⟨[],h++[.cells p.c,.cells [.own (h.length+2) (yt p).length],.uarr 64 4 ((yt p).map Ex.c)]⟩ (i:=h.length+2) (t:=64) (sz:=4) (S:=(yt p).map Ex.c) Z;simpa[yt]using this) X
 refine o7 h' ?_;exact Qek
def T0(op:Int):APure prog 360 [I op] (.tuple [I (ux op).1,I (ux op).2]):=by
 refine od func360 ntmps360 λE h B hh Q hb=>?_;by_cases O:op=1
 .subst O;exact Qfe
 by_cases h25:op=25
 .subst h25;exact Qfe
 by_cases h26:op=26
 .subst h26;exact Qfe
 by_cases h27:op=27
 .subst h27;exact Qfe
 by_cases h4:op=4
 .subst h4;exact Qfe
 by_cases h5:op=5
 .subst h5;exact Qfe
 by_cases h6:op=6
 .subst h6;exact Qfe
 by_cases h7:op=7
 .subst h7;exact Qfe
 by_cases h8:op=8
 .subst h8;exact Qfe
 by_cases h9:op=9
 .subst h9;exact Qfe
 by_cases U:op=2
 .subst U;exact Qfe
 by_cases eY:op=19
 .subst eY;exact Qfe
 by_cases h23:op=23
 .subst h23;exact Qfe
 by_cases h16:op=16
 .subst h16;exact Qfe
 by_cases gA:op=17
 .subst gA;exact Qfe
 by_cases eJ:op=18
 .subst eJ;exact Qfe
 by_cases jJ:op=20
 .subst jJ;exact Qfe
 by_cases h21:op=21
 .subst h21;exact Qfe
 by_cases h22:op=22
 .subst h22;exact Qfe
 simp-dsimp[go_sem,B,ux,O,h25,h26,h27,h4,h5,h6,h7,h8,h9,U,eY,h23,h16,gA,eJ,jJ,h21,h22]
def qr3(op ty:Int):APure prog 359 [I op,I ty] (Bo (F8 op ty)):=by
 refine od func359 ntmps359 λE h B hh Q hb=>?_;simp-dsimp[go_sem,B,F8]
 try grind
def qrd(op:Int):APure prog 264 [I op] (Bo (uP op)):=by
 refine od func264 ntmps264 λE h B hh Q hb=>?_;simp-dsimp[go_sem,B,uP]
 try grind
def qom(s:na):APure prog 202 [my s] (Bo (tv s)):=by
 refine ry func202 ntmps202 λE h B hh Q hb=>?_;refine M ?_;refine po s.size (λn=>ue iN ((bl s).drop n)=ue iN (bl s)) (λn=>⟨[(0,my s),(3,I n)],h⟩) Z ng ?_;intro n hn z;have hw:=oi hn hb;refine M ?_;refine og ?_ ?_<;>intro hc<;>try simp at hc
 .rw[lJ hc,ue]at z;refine Qab ?_;refine og (λhg=>?_) (λhg=>?_)
  .refine M ?_;simp[tv,<-z,iN,hg]
  exact Qec
 exact Qed
def Gq(a:Int):APure prog 297 [I a] (.tuple [I (eF a).1,I (eF a).2]):=by refine od func297 ntmps297 λE h B hh Q hb=>?_;refine nf (λL=>?_) (λL=>?_)<;>simp-dsimp[go_sem,B,eF,L]
def qra(a b:Int):APure prog 331 [I a,I b] (.tuple [I (sQ a b).1,I (sQ a b).2]):=by
 refine od func331 ntmps331 λE h B hh Q hb=>?_;refine M ?_
 repeat refine⟨W,?_⟩
 refine ox (λL=>?_) (λL=>?_)<;>simp-dsimp[go_sem,B]<;>grind[sQ]
def Wo(a b:Int):APure prog 332 [I a,I b] (.tuple [I (aE a b).1,I (aE a b).2]):=by
 refine od func332 ntmps332 λE h B hh Q hb=>?_;refine M ?_
 repeat refine⟨W,?_⟩
 refine ox (λL=>?_) (λL=>?_)<;>simp-dsimp[go_sem,B]<;>grind[aE]
def qqf(a b:Int):APure prog 333 [I a,I b] (.tuple [I (kF a b).1,I (kF a b).2]):=by
 refine od func333 ntmps333 λE h B hh Q hb=>?_;refine M ?_
 repeat refine⟨W,?_⟩
 refine ox (λL=>?_) (λL=>?_)<;>simp-dsimp[go_sem,B]
 .grind[kF]
 refine ox (λO=>?_) (λO=>?_)<;>simp-dsimp[go_sem,B]
 .refine nc (Gq b) (M ?_);grind[kF]
 refine ox (λU=>?_) (λU=>?_)<;>simp-dsimp[go_sem,B]
 .refine nc (Gq a) (M ?_);grind[kF]
 repeat refine⟨W,?_⟩
 refine ox (λh3=>?_) (λh3=>?_)<;>simp-dsimp[go_sem,B]<;>grind[kF]
def qq8(a b:Int):APure prog 334 [I a,I b] (.tuple [I (mY a b).1,I (mY a b).2]):=by
 refine od func334 ntmps334 λE h B hh Q hb=>?_;refine nf (λL=>?_) (λL=>?_)<;>simp-dsimp[go_sem,B]
 .grind[mY]
 refine ox (λO=>?_) (λO=>?_)<;>simp-dsimp[go_sem,B]
 .refine nc (Gq a) (M ?_);grind[mY]
 repeat refine⟨W,?_⟩
 exact Qff
def qmv(a b:Int):APure prog 335 [I a,I b] (.tuple [I (kU a b).1,I (kU a b).2]):=by
 refine od func335 ntmps335 λE h B hh Q hb=>?_;refine nf (λL=>?_) (λL=>?_)<;>simp-dsimp[go_sem,B]
 .grind[kU]
 refine ox (λO=>?_) (λO=>?_)<;>simp-dsimp[go_sem,B]
 .grind[kU]
 repeat refine⟨W,?_⟩
 exact Qfg
def Og(a:Int):APure prog 165 [I a] (Bo false):=by refine od func165 ntmps165 λE h B hh Q hb=>?_;exact Qek
def Lx(a:Int):APure prog 373 [I a] (Bo false):=by refine od func373 ntmps373 λE h B hh Q hb=>?_;exact Qek
def qli(a b:Int):APure prog 352 [I a,I b] (I (wQ a b)):=by
 refine od func352 ntmps352 λE h B hh Q hb=>?_;refine M ?_;refine nc (Og a) (M ?_);refine nc (Og b) ?_;refine nf (λL=>?_) (λL=>?_)<;>simp-dsimp[go_sem,B]
 .grind[wQ]
 exact Qfh
def qod(a b:Int):APure prog 365 [I a,I b] (I (wQ a b)):=by
 refine od func365 ntmps365 λE h B hh Q hb=>?_;refine M ?_;refine nc (Lx a) (M ?_);refine nc (Lx b) ?_;refine nf (λL=>?_) (λL=>?_)<;>simp-dsimp[go_sem,B]
 .grind[wQ]
 exact Qfh
def qo5(u v:AV):APure prog 353 [.agg [I u.k,I u.n,my u.s,I v.k,I v.n,my v.s]] (I (wQ u.n v.n)):=by refine od func353 ntmps353 λE h B hh Q hb=>?_;refine M ?_;refine nc (qod u.n v.n) ?_;exact Qek
end Go.Proofs.YtolejdhnnchfpaaGreatDoor
namespace Go.Proofs.YtolejdhnnchfpaaGreatDoor
open Go Go.Abs Go.Cw Go.Shelf Go.Proofs.Tryz
def qme:Ren:=⟨λ| 106=>107| 213=>159| 265=>193|x=>x,λ| 3=>3| 9=>9|x=>x,λx=>x⟩
def Sz:Lays.n106 prog qme where
 mixed:=ah
 f106:=ah
 f213:=ah
 f265:=ah
 t3:=ah
 a3:=λ_=>by kernel_rfl
 z3:=λ_=>by kernel_rfl
 v3:=λ_=>by kernel_rfl
 t9:=ah
 a9:=λ_=>by kernel_rfl
 z9:=λ_=>by kernel_rfl
 v9:=λ_=>by kernel_rfl
def Ng(a b:na):APure prog 107 [my a,my b] (I (yC a b)) :=
 UO (l:=[.string a,.string b]) (r:=.int .i64 (yC a b)) rfl ⟨_,Sz.f106,rfl,rfl⟩ λw=>Any.strings_Compare Sz a b w
def qsc(u v:AV):APure prog 354 [.agg [I u.k,I u.n,my u.s,I v.k,I v.n,my v.s]] (I (yC u.s v.s)):=by refine od func354 ntmps354 λE h B hh Q hb=>?_;refine M ?_;refine nc (Ng u.s v.s) ?_;exact Qek
def Xi(u v:AV):APure prog 336 [.agg u.c,.agg v.c] (I (nP u v)):=by
 refine od func336 ntmps336 λE h B hh Q hb=>?_;refine nf (λL=>?_) (λL=>?_)<;>simp-dsimp[go_sem,B]
 .refine nc (qli u.k v.k) (M ?_);simp[nP,L]
 refine ox (λO=>?_) (λO=>?_)<;>simp-dsimp[go_sem,B]
 .refine nc (qsc u v) (M ?_);simp[nP,L,O]
 refine nc (qo5 u v) (M ?_);simp[nP,L,O]
end Go.Proofs.YtolejdhnnchfpaaGreatDoor
namespace Go.Proofs.YtolejdhnnchfpaaGreatDoor
open Go Go.Abs Go.Cw Go.Proofs.Tryz
@[go_sem] theorem qut:xO prog 3=some (I 0):=ah
@[go_sem] theorem qtz:xO prog 4=some (Bo false):=ah
@[go_sem] theorem qug:xO prog 57=some (.agg [I 0,I 0,my ⟨#[]⟩]):=ah
def Je(vars:List (na×Int))(e:Ex)(d:Nat)(hv:te e d=0)(h:mz)(m:Nat)(hm:h[m]?=some (.map (s9 I vars))) :
  ACalls prog 350 [.agg e.x,.mapr m] h λr Y=>r=.ret (.tuple [I (ofE vars e).1,I (ofE vars e).2])/\Y=h:=by
 refine cD func350 ntmps350 λE B hh Q hb nl qb=>?_;have zg:m<h.length:=(gn.1 hm).1;have a1:∀l:mz,(h++l)[m]?=h[m]?:=λl=>gu zg;refine nf (λL=>?_) (λL=>?_)
 .have ho:ofE vars e=dH (pb vars e.s):=by rw[xC,gh L]
  rcases hk:pb vars e.s with _|ty
  .rw[hk]at ho;simp-dsimp[go_sem,B,a1,hm,hk];rw[ho];exact Qfi
  rw[hk]at ho;simp-dsimp[go_sem,B,a1,hm,hk]
  repeat refine⟨W,?_⟩
  refine ox (λO=>?_) (λO=>?_)
  .refine M ?_;rw[ho,dH,gh J];exact Qfi
  refine M ?_;rw[ho,dH,gg J];exact Qfi
 refine M ?_;refine u4 (α:=List Int) e.args.length (λn o=>((bB vars e.args).1=(bB vars (e.args.drop n)).1/\((bB vars e.args).1=0->(bB vars e.args).2=o++(bB vars (e.args.drop n)).2))/\o.length=n) (λn o=>⟨[(1,.mapr m),(2,.ptr h.length 0),(8,.own (h.length+1) o.length),(39,.slice (e.args.map Ex.c)),(40,I e.args.length),(41,I n)],h++[.cells e.x,.arr 3 1 (o.map qe)]⟩) [] Z ((mF E _ 8 3 1 rfl).trans ?_) ?_
 .exact(Wk.mk bb Z cu co)
 intro n o hn ⟨⟨eC,za⟩,nK⟩;have hw:=oi hn hb.2.1;refine nf (λhc=>?_) (λhc=>?_)
 .have ni:SizeOf.sizeOf e.args[n]<SizeOf.sizeOf e:=Ex.arg_lt (ij hc);rw[ov hc,bB]at eC za;refine Qab ?_;refine o7 (Je vars e.args[n] (d+1) (IZ hv _ (ij hc)) _ m W) ?_;refine nf (λO=>?_) (λO=>?_)
  .refine M ?_;rw[gh O]at eC;simp only at eC;have ho:ofE vars e=(0,(ofE vars e.args[n]).2):=by rw[xC vars e,gg L,gh J,eC]
   rw[ho];exact Qfi
  rw[gg J]at eC za;simp only at eC za;refine Qaa ?_;refine⟨J,hc,o++[(ofE vars e.args[n]).1],⟨⟨eC,λU=>by rw[za U];simp⟩,au⟩,?_⟩;exact(Wk.mk bb af cu co)
 rw[gq J,bB]at eC za;simp only at eC za;have hI3:=za eC;rw[jv]at hI3;have hoe:=xC vars e;rw[gg L,eC,gg Z,hI3]at hoe;have bJ:=Ad hv;refine nf (λO=>?_) (λO=>?_)
 .rw[gh O]at hoe;have U:o.length=2:=fg;obtain⟨x,y,rfl⟩:∃x y,o=[x,y]:=by
   match o,U with
   | [x,y],_=>exact⟨x,y,rfl⟩
  simp at hoe;refine M ?_;refine pf 13 ?_;simp-dsimp[go_sem,B,qe];refine pz (qr3 e.op x) Z (M ?_)
  repeat refine⟨W,?_⟩
  refine og (λh3=>?_) (λh3=>?_)
  .exact Qfj
  exact Qfk
 rw[gg J]at hoe;refine M ?_;refine nc (T0 e.op) (M ?_);refine po o.length (λn=>(o.drop n).all (λt=>decide (t=(ux e.op).1))=o.all (λt=>decide (t=(ux e.op).1))) (λn=>⟨[(13,I (ux e.op).1),(14,I (ux e.op).2),(89,.slice (o.map qe)),(90,I o.length),(91,I n)],h⟩) Z ((AB E _).trans ?_) ?_
 .exact(Wk.mk bb Z J (by simp[go_sem];try omega))
 intro n hn hJ;have hw:=oi hn J;refine nf (λhc=>?_) (λhc=>?_)
 .rw[ov hc,qin]at hJ;simp-dsimp[go_sem,B,hc,qe];refine ox (λh3=>?_) (λh3=>?_)
  .exact Qfk
  refine Qaa ?_;refine⟨hc,by simpa[h3]using hJ,?_⟩;exact(Wk.mk bb Z J (by simp[go_sem];try omega))
 rw[gq J]at hJ;exact Qfj
termination_by SizeOf.sizeOf e
def qY(hI:Stop):V:=.iface 232 (.agg [I hI.status,I hI.code,.slice [],my hI.miss])
@[simp] theorem qt8(h:mz)(hI:Stop):(qY hI).norm h=qY hI:=by simp[qY,V.norm,qu]
@[simp] theorem qtt(n:Nat)(hI:Stop):(qY hI).under n=true:=by simp[qY,V.under,q9]
def u5:EV->AEnd
 | .ok v=>.ret (.agg v.c)
 | .error hI=>.panic (qY hI)
def uy:Except Stop Unit->AEnd
 | .ok _=>.ret (.tuple [])
 | .error hI=>.panic (qY hI)
def pX(code:Int)(h:mz):ACalls prog 228 [I code] h λr Y=>r=.panic (qY (ab code))/\Y=h:=by refine s8 func228 ntmps228 λE B hh Q hb nl qb=>?_;exact Qfl
def Fx(n:Int):APure prog 268 [I n] (.agg (vI n).c):=by refine od func268 ntmps268 λE h B hh Q hb=>?_;exact Qfm
def wA(b:Bool):APure prog 298 [Bo b] (.agg (vB b).c):=by
 refine od func298 ntmps298 λE h B hh Q hb=>?_;refine M ?_;refine og (λL=>?_) (λL=>?_)
 .subst L;exact Qfm
 subst L;exact Qfm
def qmj(b:Bool)(h:mz):ACalls prog 230 [Bo b] h λr Y=>r=(if b then .ret (.tuple [])else .panic (qY (ab 1009)))/\Y=h:=by
 refine s8 func230 ntmps230 λE B hh Q hb nl qb=>?_;refine nf (λL=>?_) (λL=>?_)<;>subst L
 .refine M ?_;refine o7 (pX 1009 h) (M ?_);exact⟨_,.refl _,_,Z,hwk.refl _,gj _,Q,rfl,rfl⟩
 refine M ?_;exact⟨_,.refl _,_,af,hwk.refl _,gj _,Q,rfl,rfl⟩
def Ql(k:na)(h:mz):ACalls prog 271 [my k] h λr Y=>r=.panic (qY (rst k))/\Y=h:=by refine s8 func271 ntmps271 λE B hh Q hb nl qb=>?_;exact Qfl
def It(s:na)(h:mz):ACalls prog 299 [my s] h λr Y=>r=u5 (dR s)/\Y=h:=by
 refine s8 func299 ntmps299 λE B hh Q hb nl qb=>?_;refine nf (λL=>?_) (λL=>?_)
 .refine M ?_;refine o7 (pX 1006 _) (M ?_);rw[dR,gh J];exact⟨_,.refl _,_,af,af,Z,ak,rfl,rfl⟩
 refine M ?_;rw[dR,gg J];exact Qfi
def Cg(r:Int×Int)(h:mz):ACalls prog 296 [I r.1,I r.2] h λx Y=>x=u5 (yz r)/\Y=h:=by
 refine s8 func296 ntmps296 λE B hh Q hb nl qb=>?_;refine nf (λL=>?_) (λL=>?_)
 .refine M ?_;refine nc (Fx r.1) (M ?_);rw[yz,gh L];exact Qfi
 refine nf (λO=>?_) (λO=>?_)
 .refine M ?_;refine o7 (pX 1002 _) (M ?_);rw[yz,gg L,gh O];exact Qfi
 refine M ?_;refine o7 (pX 1001 _) (M ?_);rw[yz,gg L,gg O];exact Qfi
def C9(op a b:Int)(h:mz):ACalls prog 302 [I op,I a,I b] h λx Y=>x=u5 (fF op a b)/\Y=h:=by
 refine s8 func302 ntmps302 λE B hh Q hb nl qb=>?_;refine nf (λL=>?_) (λL=>?_)
 .refine M ?_;refine nc (qra a b) (M ?_);refine o7 (Cg (sQ a b) _) ?_;rw[fF, gh L];cases yz (sQ a b)<;>simp-dsimp[go_sem,B,u5]<;>exact⟨_,.refl _,h,af,af,Z,ak,rfl,rfl⟩
 refine nf (λO=>?_) (λO=>?_)
 .refine M ?_;refine nc (Wo a b) (M ?_);refine o7 (Cg (aE a b) _) ?_;rw[fF,gg L,gh O];cases yz (aE a b)<;>simp-dsimp[go_sem,B,u5]<;>exact⟨_,.refl _,h,af,af,Z,ak,rfl,rfl⟩
 refine nf (λU=>?_) (λU=>?_)
 .refine M ?_;refine nc (qqf a b) (M ?_);refine o7 (Cg (kF a b) _) ?_;rw[fF,gg L,gg O,gh U];cases yz (kF a b)<;>simp-dsimp[go_sem,B,u5]<;>exact⟨_,.refl _,h,af,af,Z,ak,rfl,rfl⟩
 refine nf (λh3=>?_) (λh3=>?_)
 .refine M ?_;refine nc (qq8 a b) (M ?_);refine o7 (Cg (mY a b) _) ?_;rw[fF,gg L,gg O,gg U,gh h3];cases yz (mY a b)<;>simp-dsimp[go_sem,B,u5]<;>exact⟨_,.refl _,h,af,af,Z,ak,rfl,rfl⟩
 refine M ?_;refine nc (qmv a b) (M ?_);refine o7 (Cg (kU a b) _) ?_;rw[fF,gg L,gg O,gg U,gg h3];cases yz (kU a b)<;>simp-dsimp[go_sem,B,u5]<;>exact⟨_,.refl _,h,af,af,Z,ak,rfl,rfl⟩
def eP(b:Bool)(h:mz):ACalls prog 230 [Bo b] h λr Y=>((b=true/\r=.ret (.tuple []))\/(b=false/\r=.panic (qY (ab 1009))))/\Y=h :=
 (qmj b h).mono (by
  rintro r Y ⟨rfl,rfl⟩;cases b
  .simp
  exact⟨.inl ⟨rfl,rfl⟩,rfl⟩)
def qkz(op:Int)(a b:AV)(h:mz):ACalls prog 303 [I op,.agg a.c,.agg b.c] h λx Y=>x=u5 (wR op a b)/\Y=h:=by
 refine s8 func303 ntmps303 λE B hh Q hb nl qb=>?_;refine M ?_
 repeat refine⟨W,?_⟩
 refine se (eP _ _) ?_;rintro r Y ⟨⟨hm,rfl⟩|⟨hm,rfl⟩,rfl⟩<;>simp at hm
 rotate_left
 .refine M ?_;rw[wR,gg W];exact Qfi
 rw[wR,gh W];refine M ?_;refine nc (Xi a b) ?_;refine nf (λL=>?_) (λL=>?_)
 .refine M ?_;refine nc (wA (decide (nP a b=0))) (M ?_);rw[gI, gh L];exact Qfi
 refine nf (λO=>?_) (λO=>?_)
 .refine M ?_;refine nc (wA (!decide (nP a b=0))) (M ?_);rw[gI,gg L,gh O];exact Qfi
 refine nf (λU=>?_) (λU=>?_)
 .refine M ?_;refine nc (wA (decide (nP a b<0))) (M ?_);rw[gI,gg L,gg O,gh U];exact Qfi
 refine nf (λh3=>?_) (λh3=>?_)
 .refine M ?_;refine nc (wA (decide (nP a b<=0))) (M ?_);rw[gI,gg L,gg O,gg U,gh h3];exact Qfi
 refine nf (λh4=>?_) (λh4=>?_)
 .refine M ?_;refine nc (wA (decide (0<nP a b))) (M ?_);rw[gI,gg L,gg O,gg U,gg h3,gh h4];exact Qfi
 refine M ?_;refine nc (wA (decide (0<=nP a b))) (M ?_);rw[gI,gg L,gg O,gg U,gg h3,gg h4];exact Qfi
def UU(op:Int)(a b:AV)(h:mz)(hS:a.s.size+b.s.size<=68719476736):ACalls prog 270 [I op,.agg a.c,.agg b.c] h λx Y=>x=u5 (zu op a b)/\Y=h:=by
 refine s8 func270 ntmps270 λE B hh Q hb nl qb=>?_;refine nf (λL=>?_) (λL=>?_)
 .simp-dsimp[go_sem,B,ki L]
  repeat refine⟨W,?_⟩
  refine se (eP _ _) ?_;rintro r Y ⟨⟨hm,rfl⟩|⟨hm,rfl⟩,rfl⟩<;>simp at hm
  .exact Qfn
  exact Qfo
 refine nf (λO=>?_) (λO=>?_)
 .simp-dsimp[go_sem,B,ki O]
  repeat refine⟨W,?_⟩
  refine se (eP _ _) ?_;rintro r Y ⟨⟨hm,rfl⟩|⟨hm,rfl⟩,rfl⟩<;>simp at hm
  .exact Qfn
  exact Qfo
 refine nf (λU=>?_) (λU=>?_)
 .simp-dsimp[go_sem,B,ki U]
  repeat refine⟨W,?_⟩
  refine se (eP _ _) ?_;rintro r Y ⟨⟨hm,rfl⟩|⟨hm,rfl⟩,rfl⟩<;>simp at hm
  .exact Qfn
  exact Qfo
 refine nf (λh3=>?_) (λh3=>?_)
 .simp-dsimp[go_sem,B,ki h3]
  repeat refine⟨W,?_⟩
  refine se (eP _ _) ?_;rintro r Y ⟨⟨hm,rfl⟩|⟨hm,rfl⟩,rfl⟩<;>simp at hm
  .exact Qfn
  exact Qfo
 refine nf (λh4=>?_) (λh4=>?_)
 .refine M ?_
  repeat refine⟨W,?_⟩
  refine se (eP _ _) ?_;rintro r Y ⟨⟨hm,rfl⟩|⟨hm,rfl⟩,rfl⟩<;>simp at hm
  .exact Qfn
  exact Qfo
 refine nf (λh5=>?_) (λh5=>?_)
 .refine M ?_
  repeat refine⟨W,?_⟩
  refine se (eP _ _) ?_;rintro r Y ⟨⟨hm,rfl⟩|⟨hm,rfl⟩,rfl⟩<;>simp at hm
  rotate_left
  .refine M ?_;rw[zu,gg J,gh h5,gg W];exact Qfi
  rw[zu,gg J,gh h5,gh W];refine M ?_
  repeat refine⟨W,?_⟩
  refine nc (wA (decide (a.n=1)&&decide (b.n=1))) (M ?_);exact Qfi
 refine nf (λh6=>?_) (λh6=>?_)
 .refine M ?_
  repeat refine⟨W,?_⟩
  refine se (eP _ _) ?_;rintro r Y ⟨⟨hm,rfl⟩|⟨hm,rfl⟩,rfl⟩<;>simp at hm
  rotate_left
  .refine M ?_;rw[zu,gg J,gg h5,gh h6,gg W];exact Qfi
  rw[zu,gg J,gg h5,gh h6,gh W];refine M ?_
  repeat refine⟨W,?_⟩
  refine nc (wA (decide (a.n=1)||decide (b.n=1))) (M ?_);exact Qfi
 refine nf (λh7=>?_) (λh7=>?_)
 .refine M ?_
  repeat refine⟨W,?_⟩
  refine se (eP _ _) ?_;rintro r Y ⟨⟨hm,rfl⟩|⟨hm,rfl⟩,rfl⟩<;>simp at hm
  rotate_left
  .refine M ?_;rw[zu,gg J,gg h5,gg h6,gh h7,gg W];exact Qfi
  rw[zu,gg J,gg h5,gg h6,gh h7,gh W];refine M ?_;refine⟨hS,?_⟩;refine o7 (It (a.s++b.s) _) ?_;cases dR (a.s++b.s)<;>simp-dsimp[go_sem,B,u5]<;>exact⟨_,.refl _,h,af,af,Z,ak,rfl,rfl⟩
 refine M ?_;refine o7 (qkz op a b _) ?_;rw[zu,gg J,gg h5,gg h6,gg h7];cases wR op a b<;>simp-dsimp[go_sem,B,u5]<;>exact⟨_,.refl _,h,af,af,Z,ak,rfl,rfl⟩
end Go.Proofs.YtolejdhnnchfpaaGreatDoor
namespace Go.Proofs.YtolejdhnnchfpaaGreatDoor
open Go Go.Abs Go.Cw Go.Shelf Go.Lib Go.Proofs.Tryz
def Dd:Ren:=⟨λ| 17=>366| 22=>305| 29=>339| 30=>340| 36=>356|x=>x,λ| 0=>0| 3=>3| 4=>4| 9=>9| 24=>74|x=>x,λx=>x⟩
def YU:Lays2.n22 prog Dd:=by constructor<;>first|exact λ_=>by kernel_rfl|kernel_rfl
def qng(s:na):APure prog 355 [my s] (Bo false):=by refine od func355 ntmps355 λE h B hh Q hb=>?_;exact Qek
def Ta(s:na):APure prog 338 [my s] (Bo false):=by refine od func338 ntmps338 λE h B hh Q hb=>?_;exact Qek
def qqv(a b:na):APure prog 337 [my a,my b] (Bo (px a b)):=by refine od func337 ntmps337 λE h B hh Q hb=>?_;refine M ?_;refine nc (qng a) (M ?_);refine BP ?_;exact Qek
def TQ(l:List na)(k:na)(hs:qg l):APure prog 304 [.slice (l.map ny),my k] (.tuple [I (ru k l),Bo (decide (l[ru k l]?=some k))]):=by
 refine ry func304 ntmps304 λE h B hh Q hb=>?_;have hp:=zO k l;refine M ?_;refine xS (α:=Nat×Nat) (λx=>x.1<=ru k l/\ru k l<=x.2/\x.2<=l.length) (λx=>⟨[(0,.slice (l.map ny)),(1,my k),(6,I l.length),(7,I x.1),(8,I x.2)],h⟩) (λx=>x.2 - x.1) (0,l.length) ⟨Z,hp,Z⟩ ng ?_;rintro⟨i,j⟩ ⟨O,U,h3⟩;simp only at O U h3;refine nf (λhc=>?_) (λhc=>?_)
 .have hm:IntKind.i64.wrap ((IntKind.u64.wrap (IntKind.i64.wrap ((i:Int)+j))).fdiv 2)=(((i+j) / 2:Nat):Int):=by
   have L:=hb.1.1;have e0:IntKind.i64.wrap ((i:Int)+j)=(i:Int)+j:=eU J J;rw[e0];have:IntKind.u64.wrap ((i:Int)+j)=(i:Int)+j:=by exact Qdm
   rw[this];have e1:((i:Int)+j).fdiv 2=(((i+j) / 2:Nat):Int):=W;rw[e1,eU J J]
  have ni:(i+j) / 2<l.length:=J;have qj:=A9 (k:=k) hs ((i+j) / 2) ni;generalize hq:(i+j) / 2=q at hm ni qj;have hw:IntKind.i64.wrap ((q:Int)+1)=((q+1:Nat):Int):=cq;simp-dsimp[go_sem,B,hm,ni,ny];refine nc (qqv l[q] k) (M ?_);refine og (λsq=>?_) (λsq=>?_)
  .refine Qaa ?_;exact⟨q+1,j,⟨by have:=qj.2 sq;omega,U,h3⟩,J,ng⟩
  refine M ?_;refine⟨i,q,⟨O,?_,J⟩,J,ng⟩;rcases jz q (ru k l)with h5|h5
  .grind
  exact h5
 have hi:i=ru k l:=J;subst hi;by_cases ni:ru k l<l.length
 .simp-dsimp[go_sem,B,ni,ny]
  repeat refine⟨W,?_⟩
  refine pz (Ta _) Z (M ?_);refine BP (M ?_);rw[ii ni];simp
 have hd:decide (ru k l<l.length)=false:=by simpa using ni
 have oT:l[ru k l]?=none:=lf J;simp-dsimp[go_sem,B,hd,oT];refine BP (M ?_);refine BP (M ?_);rw[oT];simp
def Oz(h:mz)(i:Nat)(l:List na)(hi:h[i]?=some (.uarr 9 1 (l.map ny)))(oy:l.length+1<=68719476736)(key:na)(ha:qg l) :
  ACalls prog 272 [.own i l.length,my key] h λr Y=>r=.ret (.own i (zj l key).length)/\Y=h.set i (.uarr 9 1 ((zj l key).map ny)):=by
 refine Ke func272 rfl ah (by simp[ntmps272]) ?_;intro E B hh Q;rw[ntmps272]at B;have tq:i<h.length:=(gn.1 hi).1;have hn:(l.map ny).length=l.length:=Z;have hB:=TQ l key ha;refine yv (pY ?_);simp[go_sem,B];refine yv (Us [_,_] ?_);simp[go_sem,B,Ll,qL,hi,hn];refine⟨_,hB,by simp[Cs],?_⟩;simp[go_sem,B];refine yv (yv (pY ?_));simp[go_sem,B];have nh:=zO key l;rcases hc:decide (l[ru key l]?=some key)with _|_
 .have hw:zj l key=l.take (ru key l)++key::l.drop (ru key l):=by rw[zj,gg W]
  refine BS (b:=false) (by simpa[go_sem]using hc) (λh=>by cases h) (λ_=>?_);refine Fu ?_;simp;refine yv (qU [_,_,_] _ ?_);simp[go_sem,B];intro c a w s k;refine UE YU s k (T:=74) (x:=.tmp 17) (xa:=.tmp 15) (xb:=.tmp 16) (f:=.func 305) (d1:=18) rfl rfl rfl J qhh rfl rfl (by simp[Dd]) (by simp[Dd]) (by simp[Dd]) af (key:=key) af (i:=i) (n:=l.length) af (nk:=ru key l) af Z Z rfl hi hn nh oy
   ⟨_,func305,ah,ah⟩ λc' a' w' s' k'=>?_
  refine lF _ [_,_,_,_,_] _ rfl ?_ c' a' w' s' k';simp[go_sem,B];have w6:(zj l key).length=l.length+1:=W;refine Jr ⟨⟨trivial,trivial⟩,.own i (l.length+1),_,?_,?_,hwk.refl _,?_,?_,by rw[w6],by rw[hw];simp[ln,lz,ny,Dd]⟩
  .simp[go_sem,tq]
  .simp[V.under,tq]
  .simp
  rw[lY]at Q|-;intro o ho;simp only[mr];rcases qkc ho with ho|rfl
  .grind
  rfl
 have hw:zj l key=l:=by rw[zj,gh W]
 refine BS (b:=true) (by simpa[go_sem]using hc) (λ_=>?_) (λh=>by cases h);refine yv (pY ?_);simp[go_sem,B];rw[hw,fM hi];refine Jr ⟨⟨trivial,trivial⟩,.own i l.length,h,by simp[go_sem,hi],by simp[V.under,tq],hwk.refl _,gj _,Q,rfl,rfl⟩
end Go.Proofs.YtolejdhnnchfpaaGreatDoor
namespace Go.Proofs.YtolejdhnnchfpaaGreatDoor
open Go Go.Abs Go.Cw Go.Proofs.Tryz
def QS(a b:na):(px b a=true\/b=a)↔px a b=false:=by
 constructor
 .grind[EQ,uZ]
 intro h;rcases qjv (px b a)with g|g
 .grind
 exact .inr (AD W W)
def R4(l:List na):APure prog 83 [.slice (l.map ny)] (Bo (cX none l&&decide ((l.length:Int)<=64))):=by
 refine ry func83 ntmps83 λE h B hh Q hb=>?_;refine M ?_;refine po l.length (λn=>cX (zk l n) (l.drop n)=cX none l) (λn=>⟨[(0,.slice (l.map ny)),(5,.slice (l.map ny)),(6,I l.length),(7,I n)],h⟩) fj ng ?_;intro n hn z;have hw:=oi hn hb.1;refine M ?_;refine og ?_ ?_<;>intro hc<;>try simp at hc
 .rw[ov hc,cX]at z;refine Qab ?_;refine nc (CM _) ?_;cases n with
  |zero =>
   refine M ?_;refine og ?_ ?_<;>intro hg<;>try simp at hg
   .refine M ?_;simp[<-z,hg,zk,after]
   exact Qeg
  |succ m =>
   have hm:m<l.length:=J;have uc:=uG (kb hm) hb.1;simp at hw;simp-dsimp[go_sem,B,uc,hm];refine og ?_ ?_<;>intro hg<;>try simp at hg
   .refine M ?_;rw[<-z];rcases hg with O|O
    .grind
    have U:=(QS _ _).1 O;simp[zk,hm,after,U]
   have U:px l[m] l[m+1]=true:=by
    rcases qjv (px l[m] l[m+1])with g|g
    .exact g
    have:=(QS _ _).2 g;grind
   refine Qaa ?_;simp[hg,zk,hm,after,U]at z;exact⟨hc,dr,ng⟩
 exact Qej
def EY(f:Foot):APure prog 53 [.agg f.c] (Bo (vi f.all f.reads f.writes)):=by
 refine od func53 ntmps53 λE h B hh Q hb=>?_;simp-dsimp[go_sem,B,Foot.c];refine og ?_ ?_<;>intro L<;>try simp at L
 all_goals simp-dsimp[go_sem,B,vi,L]
 refine nc (R4 f.reads) (M ?_);refine pz (R4 f.writes) Z ?_;simp-dsimp[go_sem,B,vi,L]
def qlx(s:na):APure prog 109 [my s] (Bo (tv s)):=by
 refine ry func109 ntmps109 λE h B hh Q hb=>?_;refine nf (λL=>?_) (λL=>?_)
 .refine M ?_;grind[tv]
 refine M ?_;refine po s.size (λn=>ue iN ((bl s).drop n)=ue iN (bl s)) (λn=>⟨[(0,my s),(3,I n)],h⟩) Z ng ?_;intro n hn z;have hw:=oi hn hb;refine nf (λhc=>?_) (λhc=>?_)
 .rw[lJ hc,ue]at z;refine Qab ?_;refine og (λhg=>?_) (λhg=>?_)
  .refine M ?_;grind[tv,iN]
  exact Qec
 rw[vA J,ue]at z;simp-dsimp[go_sem,B,tv,<-z,L]
def Gh(s:na):APure prog 110 [my s] (Bo (zp s)):=by
 refine ry func110 ntmps110 λE h B hh Q hb=>?_;refine M ?_;refine po s.size (λn=>ue xX ((bl s).drop n)=ue xX (bl s)) (λn=>⟨[(0,my s),(3,I n)],h⟩) Z ng ?_;intro n hn z;have hw:=oi hn hb;refine nf (λhc=>?_) (λhc=>?_)
 .rw[lJ hc,ue]at z;refine Qab ?_;refine⟨J,og (λhg=>?_) (λhg=>?_)⟩
  .refine M ?_;grind[xX,zp]
  refine Qaa ?_;have:xX (w9 s n)=true:=by grind[xX]
  exact⟨hc,by simpa[this]using z,ng⟩
 rw[vA J,ue]at z;have e1:s=em\/1<=(s.size:Int):=KY s;rcases e1 with rfl|e1
 .simp-dsimp[go_sem,B,zp]
 have e2:¬s=em:=by rintro rfl;simp at e1
 simp-dsimp[go_sem,B,zp,<-z,e1,e2]
def qol(k n:Int)(s:na):APure prog 73 [.agg [I k,I n,my s]] (Bo (dY k n s)):=by refine od func73 ntmps73 λE h B hh Q hb=>?_;refine nf (λL=>?_) (λL=>?_)<;>simp-dsimp[go_sem,B,dY,L];refine ox (λO=>?_) (λO=>?_)<;>simp-dsimp[go_sem,B,dY,L,O];refine pz (qlx s) Z ?_;by_cases U:k=2<;>simp-dsimp[go_sem,B,dY,L,O,U]
def ql3(l:List Pr):APure prog 74 [.slice (l.map Pr.c)] (Bo (rW none l)):=by
 refine ry func74 ntmps74 λE h B hh Q hb=>?_;refine M ?_;refine po l.length (λn=>rW ((zk l n).map Pr.key) (l.drop n)=rW none l) (λn=>⟨[(0,.slice (l.map Pr.c)),(3,I n)],h⟩) fj ng ?_;intro n hn z;have hw:=oi hn hb.1;refine nf (λhc=>?_) (λhc=>?_)
 .rw[ov hc,rW]at z;refine Qab ?_;refine pf 22 (Qab ?_);refine p7 (Gh _) Z ?_;cases n with
  |zero =>
   refine M ?_;refine og ?_ ?_<;>intro hg<;>try simp at hg
   .exact Qeh
   exact Qeg
  |succ m =>
   have hm:m<l.length:=J;have uc:=uG (kb hm) hb.1;simp at hw;simp-dsimp[go_sem,B,uc,hm,hc];refine⟨λhk=>⟨hk,J⟩,og (λhg=>?_) (λhg=>?_)⟩<;>rw[QG]at hg<;>simp at hg
   .exact Qeh
   exact Qei
 rw[gq J,rW]at z;exact Qem
def O4(l:List Pr):APure prog 37 [.slice (l.map Pr.c)] (Bo (y9 l)):=by
 refine ry func37 ntmps37 λE h B hh Q hb=>?_;refine M ?_;refine po l.length (λn=>wS (l.drop n)=wS l) (λn=>⟨[(0,.slice (l.map Pr.c)),(3,I n)],h⟩) Z ng ?_;intro n hn z;have hw:=oi hn hb.1;refine nf (λhc=>?_) (λhc=>?_)
 .rw[ov hc,wS,ue]at z;refine Qab ?_;refine nc (qol _ _ _) ?_;refine nf (λhg=>?_) (λhg=>?_)
  .refine M ?_;grind[y9]
  refine Qaa ?_;exact⟨hc,by simpa[hg,wS]using z,ng⟩
 rw[gq J,wS,ue]at z;refine M ?_;refine nc (ql3 l) ?_;simp-dsimp[go_sem,B,y9,<-z]
def zR(l:List Pr):APure prog 22 [.slice (l.map Pr.c)] (Bo (ph l)):=by
 rw[<-L2];refine ry func22 ntmps22 λE h B hh Q hb=>?_;refine M ?_;refine po l.length (λn=>ut (λp=>decide (p.v.k=0)) (l.drop n)=ut (λp=>decide (p.v.k=0)) l) (λn=>⟨[(0,.slice (l.map Pr.c)),(3,I n)],h⟩) Z ng ?_;intro n hn z;have hw:=oi hn hb.1;refine nf (λhc=>?_) (λhc=>?_)
 .rw[ov hc,ut]at z;refine Qab ?_;refine ox (λhg=>?_) (λhg=>?_)
  .refine M ?_;grind[C0]
  exact Qef
 rw[gq J,ut]at z;refine M ?_;refine nc (O4 l) ?_;simp-dsimp[go_sem,B,C0,<-z]
def JT(l:List Pr)(k:na):APure prog 71 [.slice (l.map Pr.c),my k] (Bo (tf l k)):=by
 refine ry func71 ntmps71 λE h B hh Q hb=>?_;refine M ?_;refine po l.length (λn=>tf (l.drop n) k=tf l k) (λn=>⟨[(0,.slice (l.map Pr.c)),(1,my k),(5,I n)],h⟩) Z ng ?_;intro n hn z;have hw:=oi hn hb.1.1;refine nf (λhc=>?_) (λhc=>?_)
 .rw[ov hc,tf,ut]at z;refine Qab ?_;refine ox (λhg=>?_) (λhg=>?_)
  .exact Qee
  refine Qaa ?_;exact⟨hc,by simpa[hg,tf]using z,ng⟩
 rw[gq J,tf,ut]at z;exact Qem
def J9(l:List Pr)(k:na):APure prog 252 [.slice (l.map Pr.c),my k] (.agg (pp l k).c):=by
 refine ry func252 ntmps252 λE h B hh Q hb=>?_;refine M ?_;refine po l.length (λn=>pp (l.drop n) k=pp l k) (λn=>⟨[(0,.slice (l.map Pr.c)),(1,my k),(4,P0 h.length),(5,I n)],h++[.cells [I 0,I 0,my em]]⟩) Z ng ?_;intro n hn z;have hw:=oi hn hb.1.1;refine nf (λhc=>?_) (λhc=>?_)
 .rw[ov hc,pp]at z;refine Qab ?_;refine ox (λhg=>?_) (λhg=>?_)
  .refine Qab ?_;grind
  exact Qef
 rw[gq J,pp]at z;exact Qem
def U9(l:List Pr)(p:Pr)(hB:l.length<68719476736):APure prog 108 [.slice (l.map Pr.c),.agg p.c] (.slice ((mR l p).map Pr.c)):=by
 refine ry func108 ntmps108 λE h B hh Q hb=>?_;refine M ?_;refine po l.length (λn=>n+zq p.key (l.drop n)=zq p.key l) (λn=>⟨[(0,.slice (l.map Pr.c)),(3,P0 h.length),(5,I n)],h++[.cells p.c]⟩) Z ng ?_;intro n hn z;have hw:=oi hn (kb hB);refine M ?_;refine pf 12 ?_;by_cases hc:n<l.length
 .rw[ov hc,zq]at z;refine Qab ?_;refine og ?_ ?_<;>intro hg<;>try simp at hg
  .exact Qfp
  rw[gg (by simp[hg])]at z;refine M ?_;grind[mR,Pr.c,ln,lz]
 rw[gq J,zq]at z;refine Qab ?_;grind[mR,Pr.c,ln,lz]
def LV(l w:List Pr)(hB:l.length+w.length<68719476736):APure prog 72 [.slice (l.map Pr.c),.slice (w.map Pr.c)]
  (if ph l&&y9 w then .tuple [.slice ((y7 l w).map Pr.c),I 0]else .tuple [.slice [],I 1]):=by
 refine xZ func72 rfl ah Z (by split<;>rfl) ?_;intro E h B hh Q hb;rw[ntmps72]at B;refine yd _ _ _ ?_;simp[go_sem]at hb;refine M ?_;refine nc (zR l) (M ?_);refine pz (O4 w) Z ?_;refine nf (λL=>?_) (λL=>?_)
 .exact Qee
 rw[L.1,L.2];refine M ?_;refine u4 (α:=List Pr) l.length (λn o=>o++nG w (l.drop n)=nG w l/\o.length<=n) (λn o=>⟨[(0,.slice (l.map Pr.c)),(1,.slice (w.map Pr.c)),(6,.own h.length o.length),(7,I n)],h++[.arr 59 4 (o.map Pr.c)]⟩) [] Z ((mF E _ 6 59 4 rfl).trans ng) ?_;intro n o hn ⟨z,nK⟩;have hw:=oi hn hb.1.1;refine nf (λhc=>?_) (λhc=>?_)
 .rw[ov hc,nG]at z;refine Qab ?_;refine nc (JT w _) ?_;refine nf (λhg=>?_) (λhg=>?_)
  .refine Qab ?_;refine⟨J,?_⟩;refine Qaa ?_;exact⟨o++[l[n]],⟨bf,au⟩,ng⟩
  refine Qaa ?_;exact⟨hc,o,⟨bf,J⟩,ng⟩
 rw[gq J,nG,jv]at z;refine M ?_;subst z;refine u4 (α:=List Pr) w.length (λn o=>oX o (w.drop n)=y7 l w/\o.length<=l.length+n) (λn o=>⟨[(1,.slice (w.map Pr.c)),(6,.slice (o.map Pr.c)),(8,I n)],h⟩) (nG w l) (by grind[y7]) ((AB E _).trans ng) ?_;intro n o hn ⟨z,nK⟩;have hw:=oi hn hb.2.1;refine nf (λhc=>?_) (λhc=>?_)
 .rw[ov hc,oX]at z;refine Qab ?_;refine ox (λhg=>?_) (λhg=>?_)
  .refine Qab ?_;refine nc (U9 o _ J) (Qaa ?_);exact⟨hc,mR o w[n],⟨bf,by rw[qk3];omega⟩,ng⟩
  refine Qaa ?_;exact⟨hc,o,⟨bf,J⟩,ng⟩
 rw[gq J,oX]at z;simp-dsimp[go_sem,B,z]
attribute [go_sem] bM iF gY rZ iL
def OJ(l l':List Pr):APure prog 21 [.slice (l.map Pr.c),.slice (l'.map Pr.c)] (Bo (ta iF l l')):=by
 refine ry func21 ntmps21 λE h B hh Q hb=>?_;refine nf (λL=>?_) (λL=>?_)
 .refine M ?_;grind[Cd]
 refine M ?_;refine po l.length (λn=>ta iF (l.drop n) (l'.drop n)=ta iF l l') (λn=>⟨[(0,.slice (l.map Pr.c)),(1,.slice (l'.map Pr.c)),(5,I n)],h⟩) Z ng ?_;intro n hn z;have hw:=oi hn hb.1.1;refine nf (λhc=>?_) (λhc=>?_)
 .have xn:n<l'.length:=J;rw[ov hc,ov xn,ta]at z;refine Qai ?_;refine pf 8 (Qai ?_);refine ox (λhg=>?_) (λhg=>?_)
  .refine M ?_;grind[iF,bM]
  refine Qaa ?_;refine⟨hc,?_,ng⟩;grind[iF,bM]
 exact Qfq
def Sb(l l':List na):APure prog 66 [.slice (l.map ny),.slice (l'.map ny)] (Bo (ta gY l l')):=by
 refine ry func66 ntmps66 λE h B hh Q hb=>?_;refine nf (λL=>?_) (λL=>?_)
 .refine M ?_;grind[Cd]
 refine M ?_;refine po l.length (λn=>ta gY (l.drop n) (l'.drop n)=ta gY l l') (λn=>⟨[(0,.slice (l.map ny)),(1,.slice (l'.map ny)),(5,I n)],h⟩) Z ng ?_;intro n hn z;have hw:=oi hn hb.1.1;refine nf (λhc=>?_) (λhc=>?_)
 .have xn:n<l'.length:=J;rw[ov hc,ov xn,ta]at z;refine Qai ?_;refine pf 8 (Qai ?_);refine ox (λhg=>?_) (λhg=>?_)
  .refine M ?_;grind[gY,bM]
  refine Qaa ?_;refine⟨hc,?_,ng⟩;grind[gY,bM]
 exact Qfq
def qsi(l l':List na):APure prog 199 [.slice (l.map ny),.slice (l'.map ny)] (Bo (ta gY l l')):=by
 refine ry func199 ntmps199 λE h B hh Q hb=>?_;refine nf (λL=>?_) (λL=>?_)
 .refine M ?_;grind[Cd]
 refine M ?_;refine po l.length (λn=>ta gY (l.drop n) (l'.drop n)=ta gY l l') (λn=>⟨[(0,.slice (l.map ny)),(1,.slice (l'.map ny)),(12,I l.length),(13,I n)],h⟩) Z ng ?_;intro n hn z;have hw:=oi hn hb.1.1;refine nf (λhc=>?_) (λhc=>?_)
 .have xn:n<l'.length:=J;rw[ov hc,ov xn,ta]at z;refine Qai ?_;refine pf 8 (Qai ?_);refine ox (λhg=>?_) (λhg=>?_)
  .refine M ?_;grind[gY,bM]
  refine Qaa ?_;refine⟨hc,?_,ng⟩;grind[gY,bM]
 exact Qfq
def YK(l l':List Pr):APure prog 200 [.slice (l.map Pr.c),.slice (l'.map Pr.c)] (Bo (ta iF l l')):=by
 refine ry func200 ntmps200 λE h B hh Q hb=>?_;refine nf (λL=>?_) (λL=>?_)
 .refine M ?_;grind[Cd]
 refine M ?_;refine po l.length (λn=>ta iF (l.drop n) (l'.drop n)=ta iF l l') (λn=>⟨[(0,.slice (l.map Pr.c)),(1,.slice (l'.map Pr.c)),(12,I l.length),(13,I n)],h⟩) Z ng ?_;intro n hn z;have hw:=oi hn hb.1.1;refine nf (λhc=>?_) (λhc=>?_)
 .have xn:n<l'.length:=J;rw[ov hc,ov xn,ta]at z;refine Qai ?_;refine pf 8 (Qai ?_);refine ox (λhg=>?_) (λhg=>?_)
  .refine M ?_;grind[iF,bM]
  refine Qaa ?_;refine⟨hc,?_,ng⟩;grind[iF,bM]
 exact Qfq
set_option maxHeartbeats 1000000 in
def Yt(a b:Eff):APure prog 34 [.agg a.c,.agg b.c] (Bo (xK a b)):=by
 refine ry func34 ntmps34 λE h B hh Q hb=>?_;refine M ?_;refine aW 7 mixed ah (M ?_);refine⟨qgk,?_⟩;refine ox (λL=>?_) (λL=>?_)
 .refine M ?_;grind[xK,Cd,bM]
 refine M ?_;refine po a.out.length (λn=>ta bM (a.out.drop n) (b.out.drop n)=ta bM a.out b.out) (λn=>⟨[(2,.ptr h.length 0),(3,.ptr (h.length+1) 0),(5,.ptr (h.length+2) 0),(6,.ptr (h.length+3) 0),(7,I n)],h++[.cells a.c,.cells b.c,.cells [I a.status,I a.code,.slice (a.out.map AV.c)],.cells [I b.status,I b.code,.slice (b.out.map AV.c)]]⟩) Z ng ?_;intro n hn z;have hw:=oi hn hb.1.1.1;refine nf (λhc=>?_) (λhc=>?_)
 .have xn:n<b.out.length:=J;rw[ov hc,ov xn,ta]at z;refine Qai ?_;refine pf 10 (Qai ?_);refine ox (λhg=>?_) (λhg=>?_)
  .refine M ?_;grind[bM,xK]
  refine Qaa ?_;refine⟨hc,?_,ng⟩;grind[bM]
 rw[gq J,gq J,ta]at z;refine M ?_;refine nc (Sb _ _) (M ?_);refine pz (Sb _ _) Z (M ?_);refine pz (OJ _ _) Z ?_;simp-dsimp[go_sem,B,xK,L,<-z]
def K8(l:List na)(k:na):APure prog 254 [.slice (l.map ny),my k] (Bo (qa l k)):=by
 refine ry func254 ntmps254 λE h B hh Q hb=>?_;refine M ?_;refine po l.length (λn=>qa (l.drop n) k=qa l k) (λn=>⟨[(0,.slice (l.map ny)),(1,my k),(5,I n)],h⟩) Z ng ?_;intro n hn z;have hw:=oi hn hb.1.1;refine nf (λhc=>?_) (λhc=>?_)
 .rw[ov hc,qa,ut]at z;refine Qab ?_;refine ox (λhg=>?_) (λhg=>?_)
  .exact Qee
  refine Qaa ?_;exact⟨hc,qhj,ng⟩
 rw[gq J,qa,ut]at z;exact Qem
def qq4(l:List na)(k:na):APure prog 135 [.slice (l.map ny),my k] (I (ul (λx=>decide (k=x)) l)):=by
 refine ry func135 ntmps135 λE h B hh Q hb=>?_;refine M ?_;refine po l.length (λn=>vy (λx=>decide (k=x)) n (l.drop n)=ul (λx=>decide (k=x)) l) (λn=>⟨[(0,.slice (l.map ny)),(1,my k),(7,I l.length),(8,I n)],h⟩) e6 ng ?_;intro n hn z;have hw:=oi hn hb.1.1;refine nf (λhc=>?_) (λhc=>?_)
 .rw[ov hc,vy]at z;refine Qab ?_;refine ox (λhg=>?_) (λhg=>?_)
  .exact Qee
  exact Qef
 exact Qel
def GK(l:List na)(k:na):APure prog 93 [.slice (l.map ny),my k] (Bo (qa l k)):=by refine od func93 ntmps93 λE h B hh Q hb=>?_;refine M ?_;refine nc (qq4 l k) ?_;simp-dsimp[go_sem,B,KZ];grind[qa]
section
variable{E:Ent}{t:List (Nat×V)}{hN o g PA:Nat}{H X1:mz}{ks:List Nat}{qs:List LQ}{P:Program}{y:Code}{hu:AExit->Env->Prop}{e:Env}
def wkS(t:List (Nat×V)):List (Nat×V)->Prop
 | []=>True
 |(i,x)::l=>(oz t i).Wk x/\wkS t l
theorem wkS.look{t:List (Nat×V)}:∀{l:List (Nat×V)},wkS t l->∀i,(oz t i).Wk (oz l i)
 | [],_,i=>.top _
 |(j,x)::l,h,i=>by
  by_cases hj:j=i
  .subst hj;simp only[oz,qjd,lu];exact h.1
  have:(j == i)=false:=dy;simp only[oz,this,lh];exact wkS.look h.2 i
theorem Wk.slots{t1:List (Nat×V)}{h:mz}(ht:wkS t t1):Wk E ⟨t,h⟩ ⟨t1,h⟩:=λc a w s o=>⟨c,⟨s.defers,s.size,λi=>ht.look i c _ (s.tmps i),s.hs⟩,o⟩
def MZ:∀{X h:mz},(∀(i:Nat) (o:AObj),h[i]?=some o->X[i]?=some o)->hwk X h
 |X,[],_=>by cases X<;>trivial
 | [],o::l,k=>by have:=k 0 o rfl;simp at this
 |x::X,o::l,k=>by have L:=k 0 o rfl;simp at L;subst L;exact⟨.refl _,MZ λi o' hi=>by have:=k (i+1) o' W;simpa using this⟩
def wU:AObj->AObj
 | .uarr t sz S=>.arr t sz S
 |o=>o
def Pg(n0:Nat):∀(l:mz) (k i:Nat),(cS n0 k l)[i]?=(l[i]?).map λo=>if n0<=k+i then wU o else o
 | [],k,i=>by simp[cS]
 |o::l,k,0=>by
  by_cases h:n0<=k
  .have U:Nat.ble n0 k=true:=Nat.ble_eq_true_of_le h;cases o<;>simp[cS,wU,h,U]
  have U:Nat.ble n0 k=false:=by
   cases hb:Nat.ble n0 k with
   |false=>rfl
   |true=>exact(h (Nat.le_of_ble_eq_true hb)).elim
  cases o<;>simp[cS,wU,h,U]
 |o::l,k,i+1=>by have:=Pg n0 l (k+1) i;rw[show k+1+i=k+(i+1)by omega]at this;cases o<;>simpa[cS]using this
theorem Np(n0:Nat):∀(l:mz) (k:Nat),(cS n0 k l).length=l.length
 | [],_=>rfl
 |o::l,k=>by cases o<;>simp[cS,Np n0 l (k+1)]
def TabH.freeze(E:Ent){q:Nat}{T:LT}(h:TabH hN H o g q ks T) :
  ∃X,Wk E ⟨t,H⟩ ⟨t,X⟩/\X.length=H.length/\X[o]?=some (.cells [.own g T.glob.length,.own q T.qs.length])/\X[g]?=some (.arr 152 2 (T.glob.map LReq.c))/\X[q]?=some (.arr 192 2 (T.qs.map LQ.c)) /\
   (∀i:Nat,i<hN->X[i]?=H[i]?)/\∀(i:Nat) (x:List V),H[i]?=some (AObj.cells x)->X[i]?=some (AObj.cells x):=by
 obtain⟨n1,n2,n3⟩:=h.gne;have d1:=qqe E hN ⟨t,H⟩;have dl:=Np hN H 0;have dg:∀i,(cS hN 0 H)[i]?=(H[i]?).map λob=>if hN<=i then wU ob else ob:=λi=>by simpa using Pg hN H 0 i
 have eq1:(cS hN 0 H)[q]?=some (.oarr 192 2 (yb ks T.qs)):=by rw[dg,h.hq];simp[wU]
 have eg1:(cS hN 0 H)[g]?=some (.arr 152 2 (T.glob.map LReq.c)):=by rw[dg,h.hg];simp[wU,h.bg]
 have eo1:(cS hN 0 H)[o]?=some (.cells [.own g T.glob.length,.own q T.qs.length]):=by rw[dg,h.ho];simp[wU]
 have ek1:∀p,p∈ks.zip T.qs->(cS hN 0 H)[p.1]?=some (.arr 152 2 (p.2.reqs.map LReq.c)):=λp hp=>by
  have hB:=h.bk p.1 (List.of_mem_zip hp).1;rcases h.hk p hp with h3|h3
  .grind[wU]
  grind[wU]
 have hnorm:(yb ks T.qs).map (qu (cS hN 0 H))=T.qs.map LQ.c:=by
  apply kp;intro n;rw[ja,ja];rcases jz n T.qs.length with hn|hn
  .have O:ks[n]?=some (ks[n]'(by rw[h.hkl];exact hn)):=ii _;have U:T.qs[n]?=some T.qs[n]:=ii _;rw[JB O U,U];have h3:=ek1 (_,T.qs[n]) (gw (i:=n) (by rw[List.getElem?_zip_eq_some];exact⟨O,U⟩));simp only[kn,qu,V.norm,h3,ka,iz];rfl
  rw[lf hn,lf (by rw[Hj h.hkl];exact hn)];rfl
 have w2:=Uo E ⟨t,cS hN 0 H⟩ eq1 (λr G=>by have:qu (cS hN 0 H) r∈T.qs.map LQ.c:=W;obtain⟨x,_,hx⟩:=ig.1 this;rw[<-hx];rfl)
 rw[hnorm]at w2;have hql:q<(cS hN 0 H).length:=(gn.1 eq1).1;have w3:=tX E ⟨t,(cS hN 0 H).set q (.uarr 192 2 (T.qs.map LQ.c))⟩ (i:=q) (ji hql);refine⟨_,(d1.trans w2).trans w3,by simp[dl],?_,?_,?_,λi hi=>?_,λi x hx=>?_⟩
 .grind
 .grind
 .grind
 .have h5:=h.bq;grind
 grind[mq,gv,wU]
theorem MP{k:na}{r:LReq}:∀(l:List LQ),(ua k r l).length<=l.length+1
 | []=>by simp[ua]
 |q::l=>by
  rw[ua];split
  .simp[MP]
  grind
def Lz{k:na}{r:LReq}{PA:Nat}:∀{l:List LQ},(∀x∈l,x.reqs.length<=PA)->∀x∈ua k r l,x.reqs.length<=PA+1
 | [],_,x,hx=>by simp[ua]at hx;subst hx;simp
 |q::l,h,x,hx=>by
  rw[ua]at hx;split at hx
  .rcases iq.1 hx with rfl|hx
   .grind
   exact Lz (λy hy=>h y c0) x hx
  grind
theorem MN:∀(k:Nat) (qs:List LQ),dB k qs=yb ((List.range qs.length).map λj=>k+2 * j) qs
 |k,[]=>by simp[dB,yb]
 |k,q::l=>by rw[dB,MN (k+2) l,jp,List.range_succ_eq_map];grind[qio,yb,List.zipWith_cons_cons,qi7]
theorem Mj(tR:TypeId):∀(qs:List LQ) (j:Nat) (h:j<qs.length),(jZ tR qs)[2 * j+1]?=some (.uarr tR 2 (qs[j].reqs.map LReq.c))
 |q::l,0,_=>rfl
 |q::l,j+1,h=>by have:=Mj tR l j W;grind[jZ]
theorem P4{g:List LReq}:∀{k:Option na} {l:List LQ},pF g k l=true->(∀p,k=some p->∀x∈r8 l,px p x=true)/\qg (r8 l)
 |k,[],_=>⟨λ_ _ x hx=>by simp at hx,List.Pairwise.nil⟩
 |k,q::l,h=>by rw[pF,gy,gy,gy,gy,gy]at h;obtain⟨i1,i2⟩:=P4 h.2;have h3:=i1 q.key rfl;refine⟨λp hp x hx=>?_,jy.2 ⟨h3,i2⟩⟩;subst hp;have h4:px p q.key=true:=h.1.1.1.1.2;grind[uK]
def TabH.setG{q:Nat}{T:LT}(h:TabH hN H o g q ks T)(hr:List LReq):TabH hN ((H.set g (.uarr 152 2 (hr.map LReq.c))).set o (.cells [.own g hr.length,.own q T.qs.length])) o g q ks ⟨hr,T.qs⟩:=by
 obtain⟨n1,n2,n3⟩:=h.gne;have ho:=(gn.1 h.ho).1;have hg:=(gn.1 h.hg).1;have key:∀{i:Nat} {x:AObj},i≠o->i≠g->H[i]?=some x->((H.set g (.uarr 152 2 (hr.map LReq.c))).set o (.cells [.own g hr.length,.own q T.qs.length]))[i]?=some x:=λ{i x} O U h3=>by rw[gv (Ne.symm O),gv (Ne.symm U)];exact h3
 refine⟨ji W,?_,key n3 (Ne.symm n2) h.hq,h.hkl,λp hp=>?_,h.nd,h.gk,h.bo,h.bg,h.bq,h.bk⟩
 .grind
 have h3:=h.kne (List.of_mem_zip hp).1;exact(h.hk p hp).imp (key h3.2.1 h3.2.2.2) (key h3.2.1 h3.2.2.2)
def Yl{h:mz}{gl:List LReq}{c1 c2 c3:AObj}(hH:h++[c1,c2,c3]++([AObj.none,.none,.uarr 152 2 (gl.map LReq.c),.none,.oarr 192 2 (dB (h.length+9) qs)]++jZ 152 qs)=H) :
  TabH (h.length+3) (H++[.cells [.own (h.length+5) gl.length,.own (h.length+7) qs.length]]) H.length (h.length+5) (h.length+7) ((List.range qs.length).map λj=>h.length+9+2 * j) ⟨gl,qs⟩:=by
 have hl:H.length=h.length+8+2 * qs.length:=qhr;have e5:H[h.length+5]?=some (.uarr 152 2 (gl.map LReq.c)):=W;have e7:H[h.length+7]?=some (.oarr 192 2 (dB (h.length+9) qs)):=by rw[<-hH];simp
 have ek:∀(j:Nat) (hj:j<qs.length),H[h.length+9+2 * j]?=some (.uarr 152 2 (qs[j].reqs.map LReq.c)):=λj hj=>by rw[<-hH,gz au,gz au];rw[<-Mj 152 qs j hj];congr 1;simp;omega
 refine⟨Z,by rw[gu J];exact e5,by rw[gu J,e7,MN],Z,λp hp=>?_,?_,?_,J,J,J,?_⟩
 .obtain⟨j,hj⟩:=iw hp;rw[List.getElem?_zip_eq_some]at hj;obtain⟨j1,j2⟩:=hj;have ni:j<qs.length:=(gn.1 j2).1;rw[ja,List.getElem?_range ni]at j1;have e1:p.1=h.length+9+2 * j:=(qiy j1).symm;have e2:p.2=qs[j]:=W;refine .inl ?_;grind
 .grind[List.pairwise_lt_range.imp]
 .grind
 grind
abbrev Ju(n:Int)(l:List LQ)(k:na):List LQ:=ua k ⟨n,true⟩ l
abbrev Nv(n:Int)(w:List na)(l:List LQ)(k:na):List LQ:=if qa w k=true then l else ua k ⟨n,false⟩ l
structure Adds(hN:Nat)(X1:mz)(o g q:Nat)(gl:List LReq)(PA:Nat)(X:mz)(ks:List Nat)(qs:List LQ):Prop where
 tab:TabH hN X o g q ks ⟨gl,qs⟩
 len:X1.length<=X.length
 fr:∀i,i<hN->X[i]?=X1[i]?
 asc:qg (r8 qs)
 ql:qs.length<=PA
 rl:∀x∈qs,x.reqs.length<=PA
def FQ{x:Code}{e1:Env}(h:kC P E x (AExit.then (λe'=>Wk E e' e1) hu) e)(U:AWp P E y hu e1):AWp P E (.seq x y) hu e :=
 yv ((yd _ _ _ h).mono λhI e' hz=>by
  cases hI with
  |normal=>exact AWp.wk hz U
  |_=>exact hz)
def Kn{x:Code}{ι:Type}(aa:ι->Prop)(K:ι->Env)(h:kC P E x (AExit.then (λe'=>∃i,aa i/\Wk E e' (K i)) hu) e)(U:∀i,aa i->AWp P E y hu (K i)):AWp P E (.seq x y) hu e :=
 yv ((yd _ _ _ h).mono λhI e' hz=>by
  cases hI with
  |normal=>obtain⟨i,hi,hw⟩:=hz;exact AWp.wk hw (U i hi)
  |_=>exact hz)
theorem zB{k:na}{r:LReq}:∀{l:List LQ} {x:na},x∈r8 (ua k r l)->x=k\/x∈r8 l
 | [],x,h=>by simp[ua]at h;exact .inl h
 |q::l,x,h=>by
  rw[ua]at h;split at h
  .simp only[jd,iq]at h|-;rcases h with h|h
   .grind
   exact(zB h).imp id .inr
  grind
def AX{k:na}{r:LReq}:∀{l:List LQ},qg (r8 l)->qg (r8 (ua k r l))
 | [],_=>by simp[ua,qg]
 |q::l,h=>by
  simp only[jd]at h;obtain⟨O,U⟩:=jy.1 h;rw[ua];split
  .rename_i h3;simp only[jd];refine jy.2 ⟨λx hx=>?_,AX U⟩;rcases zB hx with rfl|hx
   .exact h3
   grind
  rename_i h3;split
  .grind
  rename_i h4;have h5:px k q.key=true:=by
   rcases qjv (px k q.key)with g|g
   .exact g
   exact(h4 (AD h3 W)).elim
  grind[uK,jy]
theorem Adds.add{X X':mz}{q:Nat}{gl:List LReq}{k:na}{r:LReq}(h:Adds hN X1 o g q gl PA X ks qs)(O:∃jU,TabH hN X' o g q jU ⟨gl,ua k r qs⟩)(U:X.length<=X'.length)(h3:∀i,i<hN->X'[i]?=X[i]?):∃jU,Adds hN X1 o g q gl (PA+1) X' jU (ua k r qs):=by obtain⟨jU,O⟩:=O;exact⟨jU,O,jh h.len U,λi hi=>(h3 i hi).trans (h.fr i hi),AX h.asc,jh (MP qs) (by have:=h.ql;omega),Lz h.rl⟩
def Adds.up{X:mz}{q:Nat}{gl:List LReq}(h:Adds hN X1 o g q gl PA X ks qs):Adds hN X1 o g q gl (PA+1) X ks qs :=
 ⟨h.tab,h.len,h.fr,h.asc,by have:=h.ql;omega,λx hx=>by have:=h.rl x hx;omega⟩
theorem Jl{α β:Type}(f:β->α->β)(b:β){l:List α}{n:Nat}(h:n<l.length):(l.take (n+1)).foldl f b=f ((l.take n).foldl f b) l[n]:=by rw[jn h,qj9];rfl
def Uw(gl:List LReq)(qs:List LQ)(n:Int)(f:Foot)(PA:Nat)(hv:kV ⟨gl,qs⟩=true)(hf:vi f.all f.reads f.writes=true)(L:0<=n)(cV:ul (fH n) gl = -1)(fT:∀(m:Nat) (hm:m<gl.length),m+1=gl.length->gl[m].t<=n)
  (rU:gl.length<68719476736) (hq:qs.length<=PA) (G:∀x∈qs,x.reqs.length<=PA) (hM:PA+f.writes.length+f.reads.length<68719476736) :
  APure prog 57 [.agg (LT.c ⟨gl,qs⟩),I n,.agg f.c] (.tuple [.agg (LT.c ⟨gl++[⟨n,f.all⟩],uV n f qs⟩),I 0]):=by
 refine xZ func57 rfl ah Z rfl ?_;intro E h B hh Q hb;rw[ntmps57]at B;simp[go_sem,LT.c]at hb;have An:qg (r8 qs):=by unfold kV at hv;rw[gy]at hv;grind[P4]
 refine yv (pY ?_);simp[go_sem,B,LT.c,Foot.c];refine FQ (e1:=⟨[(1,I n),(3,P0 h.length),(5,P0 (h.length+1)),(6,P0 (h.length+2)),(7,I 0)],h++[.cells [.slice (gl.map LReq.c),.slice (qs.map LQ.c)],.cells [Bo f.all,.slice (f.reads.map ny),.slice (f.writes.map ny)],.cells [.nils,.nils]]⟩) ?_ ?_
 .refine M ?_;refine nc (GV ⟨gl,qs⟩) ?_;simp-dsimp[go_sem,B,hv];refine pz (EY f) Z ?_;simp-dsimp[go_sem,B,hf,L];refine ox (λhc=>?_) (λhc=>?_)
  .omega
  refine M ?_;refine nc (BH gl n) ?_;rw[cV];rcases Nat.eq_zero_or_pos gl.length with hg0|hg0
  .simp-dsimp[go_sem,B,hg0];exact ng
  obtain⟨m,hm⟩:∃m,gl.length=m+1:=⟨gl.length - 1,J⟩
  have hw:IntKind.i64.wrap (m:Int)=(m:Int):=eU J J;have zg:m<gl.length:=J;have hl:=fT m zg hm.symm;have hgm:gl[m]?=some gl[m]:=ii zg;simp-dsimp[go_sem,B,hm,hw,hgm,LReq.c];refine ox (λhc=>?_) (λhc=>?_)
  .omega
  refine M ?_;exact ng
 clear hb;obtain⟨H,hH⟩:=Qaj (h++[.cells [.slice (gl.map LReq.c),.slice (qs.map LQ.c)],.cells [Bo f.all,.slice (f.reads.map ny),.slice (f.writes.map ny)],.cells [.nils,.nils]]++([AObj.none,.none,.uarr 152 2 (gl.map LReq.c),.none,.oarr 192 2 (dB (h.length+9) qs)]++jZ 152 qs))
 have hT0:=Yl hH;refine FQ (e1:=⟨[(1,I n),(5,P0 (h.length+1)),(6,P0 (h.length+2)),(7,I 0),(8,P0 H.length)],H++[.cells [.own (h.length+5) gl.length,.own (h.length+7) qs.length]]⟩) ?_ ?_
 .refine M ?_;refine se (qqt ⟨gl,qs⟩ _) ?_;rintro r Y ⟨rfl,rfl⟩;simp only[it,jp,ju];rw[hH];refine M ?_;exact Qfr
 have hHl:H.length=h.length+8+2 * qs.length:=qhr;have fr0:∀i,i<h.length+3->(H++[AObj.cells [.own (h.length+5) gl.length,.own (h.length+7) qs.length]])[i]?=(h++[AObj.cells [.slice (gl.map LReq.c),.slice (qs.map LQ.c)],.cells [Bo f.all,.slice (f.reads.map ny),.slice (f.writes.map ny)],.cells [.nils,.nils]])[i]?:=λi hi=>by grind
 obtain⟨h',hY⟩:=Qaj (H++[AObj.cells [.own (h.length+5) gl.length,.own (h.length+7) qs.length]])
 rw[hY]at hT0 fr0|-;have hYl:h'.length=H.length+1:=W;have y1:h'[h.length+1]?=some (AObj.cells [Bo f.all,.slice (f.reads.map ny),.slice (f.writes.map ny)]):=W;have yo:=hT0.ho;have yg:=hT0.hg;have hT1:=hT0.setG (gl++[⟨n,f.all⟩]);refine FQ (e1:=⟨[(1,I n),(5,P0 (h.length+1)),(6,P0 (h.length+2)),(7,I 0),(8,P0 H.length)],(h'.set (h.length+5) (.uarr 152 2 ((gl++[(⟨n,f.all⟩:LReq)]).map LReq.c))).set H.length (.cells [.own (h.length+5) (gl++[(⟨n,f.all⟩:LReq)]).length,.own (h.length+7) qs.length])⟩) ?_ ?_
 .have yo2:∀ac,(h'.set (h.length+5) ac)[H.length]?=some (.cells [.own (h.length+5) gl.length,.own (h.length+7) qs.length]):=λac=>by rw[gv J];exact yo
  simp-dsimp[go_sem,B,yo,yg,y1,yo2,rU,LReq.c];exact⟨J,Wk.slots bj⟩
 obtain⟨X1,qJ⟩:=Qaj ((h'.set (h.length+5) (.uarr 152 2 ((gl++[(⟨n,f.all⟩:LReq)]).map LReq.c))).set H.length (.cells [.own (h.length+5) (gl++[(⟨n,f.all⟩:LReq)]).length,.own (h.length+7) qs.length]))
 simp only[qJ]at hT1|-;have fr1:∀i,i<h.length+3->X1[i]?=h'[i]?:=λi hi=>by rw[<-qJ,gv J,gv J]
 have x1:X1[h.length+1]?=some (AObj.cells [Bo f.all,.slice (f.reads.map ny),.slice (f.writes.map ny)]):=W;have hX1l:X1.length=H.length+1:=W;clear qJ hT0 yo yg;have hA0:Adds (h.length+3) X1 H.length (h.length+5) (h.length+7) (gl++[⟨n,f.all⟩]) (PA+0) X1 ((List.range qs.length).map λj=>h.length+9+2 * j) qs:=⟨hT1,gj _,λ_ _=>rfl,An,hq,G⟩
 have hwl:∀(X:mz),(∀i,i<h.length+3->X[i]?=X1[i]?)->X[h.length+1]?=some (AObj.cells [Bo f.all,.slice (f.reads.map ny),.slice (f.writes.map ny)]):=λX hX=>by rw[hX _ J];exact x1
 refine Kn (ι:=mz×List Nat) (λa=>Adds (h.length+3) X1 H.length (h.length+5) (h.length+7) (gl++[⟨n,f.all⟩]) (PA+f.writes.length) a.1 a.2 (f.writes.foldl (Ju n) qs))
  (λa=>⟨[(1,I n),(5,P0 (h.length+1)),(6,P0 (h.length+2)),(7,I 0),(8,P0 H.length)],a.1⟩) ?_ ?_
 .simp-dsimp[go_sem,B,x1];refine u4 (α:=mz×List Nat) f.writes.length (λm a=>Adds (h.length+3) X1 H.length (h.length+5) (h.length+7) (gl++[⟨n,f.all⟩]) (PA+m) a.1 a.2 ((f.writes.take m).foldl (Ju n) qs))
   (λm a=>⟨[(1,I n),(5,P0 (h.length+1)),(6,P0 (h.length+2)),(7,I 0),(8,P0 H.length),(65,.slice (f.writes.map ny)),(66,I f.writes.length),(67,I m)],a.1⟩) (X1,(List.range qs.length).map λj=>h.length+9+2 * j) W (Wk.slots bj) ?_
  rintro m ⟨X,ks⟩ hm z;dsimp only at z;have hw:=oi hm J;refine nf (λhc=>?_) (λhc=>?_)
  .have O:=z.ql;refine Qab ?_;refine se (Pe (r:=⟨n,true⟩) z.tab _ z.asc W (λx hx=>by have:=z.rl x hx;omega)) ?_;rintro r Y ⟨rfl,U,h3,h4⟩;refine Qaa ?_;obtain⟨jU,h5⟩:=z.add U h3 h4;refine⟨hc,Y,⟨jU,?_⟩,Wk.slots bj⟩;grind[Jl]
  have hme:m=f.writes.length:=J;subst hme;refine M ?_;refine⟨X,⟨ks,?_⟩,Wk.slots bj⟩;grind
 rintro⟨X2,ks2⟩ hA2;dsimp only at hA2|-;have x2:=hwl X2 hA2.fr;refine Kn (ι:=mz×List Nat) (λa=>Adds (h.length+3) X1 H.length (h.length+5) (h.length+7) (gl++[⟨n,f.all⟩]) (PA+f.writes.length+f.reads.length) a.1 a.2 (uV n f qs))
  (λa=>⟨[(5,P0 (h.length+1)),(6,P0 (h.length+2)),(7,I 0),(8,P0 H.length)],a.1⟩) ?_ ?_
 .simp-dsimp[go_sem,B,x2];refine u4 (α:=mz×List Nat) f.reads.length (λm a=>Adds (h.length+3) X1 H.length (h.length+5) (h.length+7) (gl++[⟨n,f.all⟩]) (PA+f.writes.length+m) a.1 a.2 ((f.reads.take m).foldl (Nv n f.writes) (f.writes.foldl (Ju n) qs)))
   (λm a=>⟨[(1,I n),(5,P0 (h.length+1)),(6,P0 (h.length+2)),(7,I 0),(8,P0 H.length),(77,.slice (f.reads.map ny)),(78,I f.reads.length),(79,I m)],a.1⟩) (X2,ks2) W (Wk.slots bj) ?_
  rintro m ⟨X,ks⟩ hm z;dsimp only at z;have hw:=oi hm J;have x3:=hwl X z.fr;refine nf (λhc=>?_) (λhc=>?_)
  .have O:=z.ql;simp-dsimp[go_sem,B,hc,x3];refine nc (GK f.writes _) ?_;refine nf (λhk=>?_) (λhk=>?_)
   .refine M ?_;refine se (Pe (r:=⟨n,false⟩) z.tab _ z.asc W (λx hx=>by have:=z.rl x hx;omega)) ?_;rintro r Y ⟨rfl,U,h3,h4⟩;refine Qaa ?_;obtain⟨jU,h5⟩:=z.add U h3 h4;refine⟨hc,Y,⟨jU,?_⟩,Wk.slots bj⟩;rw[Jl _ _ hc];grind
   refine Qaa ?_;refine⟨hc,X,⟨ks,?_⟩,Wk.slots bj⟩;rw[Jl _ _ hc];simp only[Nv,hk,iz];exact z.up
  have hme:m=f.reads.length:=J;subst hme;refine M ?_;refine⟨X,⟨ks,?_⟩,Wk.slots bj⟩;grind[uV]
 rintro⟨X3,ks3⟩ hA3;dsimp only at hA3|-;obtain⟨ac,z1,z2,z3,z4,z5,z6,z7⟩:=hA3.tab.freeze E (t:=[(5,P0 (h.length+1)),(6,P0 (h.length+2)),(7,I 0),(8,P0 H.length)]);have x4:ac[h.length+2]?=some (.cells [.nils,.nils]):=by rw[z6 _ J,hA3.fr _ J,fr1 _ J,fr0 _ J];simp
 refine AWp.wk z1 (yd _ _ _ ?_);simp-dsimp[go_sem,B,z3,x4];obtain⟨ae,hW⟩:=Qaj (ac.set (h.length+2) (AObj.cells [V.own (h.length+5) (gl.length+1),V.own (h.length+7) (uV n f qs).length]))
 have hz:=(gn.1 x4).1;have w2:ae[h.length+2]?=some (AObj.cells [V.own (h.length+5) (gl.length+1),V.own (h.length+7) (uV n f qs).length]):=W;have w5:ae[h.length+5]?=some (AObj.arr 152 2 ((gl++[(⟨n,f.all⟩:LReq)]).map LReq.c)):=W;have w7:ae[h.length+7]?=some (AObj.arr 192 2 ((uV n f qs).map LQ.c)):=W;have wl:ae.length=X3.length:=W;have wi:∀i,i<h.length->ae[i]?=h[i]?:=λi hi=>by rw[<-hW,gv J,z6 _ J,hA3.fr _ J,fr1 _ J,fr0 _ J,gu hi]
 rw[hW];simp[go_sem,w2,w5,w7,LT.c];exact MZ λi o hi=>by rw[wi i (gn.1 hi).1];exact hi
end
def R8{H:mz}(k:Nat)(nw:List Int)(q:List LReq)(t:Int)(hk:H[k]?=some (.uarr 3 1 (nw.map qe)))(hl:nw.length+q.length<68719476736) :
  ACalls prog 136 [.own k nw.length,.slice (q.map LReq.c),I t] H λr H'=>r=.ret (.own k (nw++eI t q).length)/\H'=H.set k (.uarr 3 1 ((nw++eI t q).map qe)):=by
 refine Bf func136 rfl ah (by simp[ntmps136]) ?_;intro E B hh Q hb nl qb;rw[ntmps136]at B;simp[go_sem]at hb;have hkl:=(gn.1 hk).1;refine yd _ _ _ (M ?_);refine nc (BH q t) ?_;have fin:∀h0,hUnder (H.set k (.uarr 3 1 (List.map qe h0))).length (H.set k (.uarr 3 1 (List.map qe h0)))=true:=λh0=>by
  rw[lY];intro ob hob;obtain⟨i,hi⟩:=iw hob;by_cases e:i=k
  .subst e;rw[ji hkl]at hi;cases hi;rfl
  grind[gv,lY]
 rcases OH t q with⟨O,U⟩|⟨m,hm,O,U⟩
 .rw[U,jv];rw[show ul (fH t) q = -1 from O];have eX:H.set k (.uarr 3 1 (nw.map qe))=H:=by
   apply kp;intro i;by_cases e:i=k
   .grind
   grind
  rw[eX];refine M ?_;refine po 0 (λ_=>True) (λn=>⟨[(0,.own k nw.length),(13,I 0),(14,I n)],H⟩) trivial (Wk.slots bj) ?_;intro n hn _;have:n=0:=J;subst this;refine M ?_;refine⟨_,.refl _,H,?_,hwk.refl _,gj _,Q,?_,rfl⟩
  .grind[V.under]
  rw[hk]
 rw[U];rw[show ul (fH t) q=(m:Int)from O];have hmx:(if 0<m then(m:Int)else 0)=(m:Int):=J;simp-dsimp[go_sem,B,hmx];obtain⟨F,hF⟩:∃F:Nat->List Int,F=λn=>nw++((q.take n).filter λx=>x.w||q[m].w).map (·.t):=⟨_,rfl⟩
 have hFm:∀n,n<=m->(F n).length<=nw.length+n:=λn hn=>by grind
 have aB:∀n (hn:n<q.length),F (n+1)=F n++if q[n].w||q[m].w then [q[n].t]else []:=λn hn=>by rw[hF];simp only[jn hn,List.filter_append,jr,jf];congr 2;rcases h:q[n].w||q[m].w with _|_<;>simp[h]
 have eX:H.set k (.uarr 3 1 (List.map qe (F 0)))=H:=by
  apply kp;intro i;by_cases e:i=k
  .grind
  grind
 have jW:(F 0).length=nw.length:=W;refine po m (λ_=>True) (λn=>⟨[(0,.own k (F n).length),(1,.slice (q.map LReq.c)),(7,I m),(13,I m),(14,I n)],H.set k (.uarr 3 1 ((F n).map qe))⟩) trivial (by rw[eX,jW];exact Wk.slots (by simp[wkS,go_sem,hmx])) ?_;intro n hn _;have hw:=oi hn J;have hset2:∀mw hN,(H.set k mw).set k hN=H.set k hN:=λmw hN=>by simp
 refine nf (λhc=>?_) (λhc=>?_)
 .have hnq:n<q.length:=J;have h9:=hFm n hn;simp-dsimp[go_sem,B,hnq,hm,LReq.c];refine og ?_ ?_<;>intro hg<;>try simp at hg
  .simp-dsimp[go_sem,B,hw,hnq,hkl,LReq.c];have wj:F (n+1)=F n++[q[n].t]:=W;refine⟨J,hc,?_⟩;rw[wj,jr,it];exact Qfr
  refine Qaa ?_;have wj:F (n+1)=F n:=W;refine⟨hc,?_⟩;rw[wj];exact Qfr
 have:n=m:=J;subst this;refine M ?_;have hFn:F n=nw++((q.take n).filter λx=>x.w||q[n].w).map (·.t):=by rw[hF]
 have fT:=fin (F n);refine⟨_,.refl _,H.set k (.uarr 3 1 (List.map qe (F n))),?_,?_,?_,fT,?_,?_⟩
 all_goals first
  |exact hwk.refl _
  |(simp[hkl,V.under,hFn])
end Go.Proofs.YtolejdhnnchfpaaGreatDoor
namespace Go.Proofs.YtolejdhnnchfpaaGreatDoor
open Go Go.Abs Go.Shelf Go.Lib Go.Proofs.Tryz
def MA:Ren:=⟨fun
 | 125=>76| 128=>120| 129=>121| 189=>38| 215=>165| 216=>117| 257=>75| 294=>111| 295=>112
 | 296=>113| 297=>114| 298=>115| 299=>116| 300=>118| 301=>119| 328=>160
 | 329=>161| 330=>162| 331=>163| 332=>164| 343=>194|x=>x,
 λ| 0=>0| 3=>3| 4=>4| 5=>5| 9=>9| 28=>34| 46=>138| 51=>183| 53=>185| 131=>180| 182=>174| 183=>175| 218=>214| 222=>218| 228=>247| 229=>248|x=>x,λx=>x⟩
def T6:Lays.n189 prog MA:=by constructor<;>first|exact λ_=>by kernel_rfl|kernel_rfl
def Sx:Ren:=⟨λ| 20=>39|x=>x,λ| 0=>0| 3=>3| 4=>4| 22=>34|x=>x,λx=>x⟩
def qr7:Lays2.n20 prog Sx:=by constructor<;>first|exact λ_=>by kernel_rfl|kernel_rfl
end Go.Proofs.YtolejdhnnchfpaaGreatDoor
namespace Go.Proofs.YtolejdhnnchfpaaGreatDoor
open Go Go.Abs Go.Cw Go.Proofs.Tryz
abbrev wV(l:List Int):List Int:=l.mergeSort λx y=>decide (x<=y)
def IC{h:mz}{i:Nat}{l:List Int}(hi:h[i]?=some (.uarr 3 1 (l.map qe))) :
  ACalls prog 38 [.own i l.length] h λr Y=>r=.ret (.tuple [])/\Y=h.set i (.uarr 3 1 ((wV l).map qe)) :=
 qpc (ρ:=MA) T6 ⟨Tryz.f38,func38,ah,ah⟩ hi
def IQ{h:mz}{i n:Nat}{l:List Int}(hn:n=l.length)(hi:h[i]?=some (.uarr 3 1 (l.map qe))) :
  ACalls prog 39 [.own i n] h λr Y=>r=.ret (.slice ((Lib.compact l).map qe))/\Y=h.set i (.arr 3 1 ((Lib.compact l++List.replicate (l.length - (Lib.compact l).length) 0).map qe)):=by
 subst hn;exact Vy (ρ:=Sx) qr7 ⟨Tryz.f39,func39,ah,ah⟩ hi
def Kc(T:LT)(t:Int):List Int:=Lib.compact (wV (mZ T t))
def Va(T:LT)(t:Int)(hl:T.glob.length+bE T.qs<68719476736):APure prog 95 [.agg T.c,I t] (.slice ((Kc T t).map qe)):=by
 refine xZ func95 rfl ah Z rfl ?_;intro E h B hh Q hb;rw[ntmps95]at B;simp[go_sem,LT.c]at hb;refine yv (pY ?_);simp[go_sem,B,LT.c];refine yv (qU [_,_,_] _ ?_);simp[go_sem,B];intro c a w s k;refine Jo s k rfl rfl J rfl af (x:=.own (h.length+1) (eI t T.glob).length) (U:=h++[.cells [.slice (T.glob.map LReq.c),.slice (T.qs.map LQ.c)],.uarr 3 1 ((eI t T.glob).map qe)]) ?_ ?_
 .have hc:=If 3 1 (h:=h++[.cells [.slice (T.glob.map LReq.c),.slice (T.qs.map LQ.c)]]) (R8 (h++[AObj.cells [.slice (T.glob.map LReq.c),.slice (T.qs.map LQ.c)]]).length [] T.glob t (H:=h++[.cells [.slice (T.glob.map LReq.c),.slice (T.qs.map LQ.c)]]++[.uarr 3 1 []]) Z au);simpa[go_sem]using hc
 intro c' a' w' s' k';refine lF _ [_,_,_,_] _ rfl ?_ c' a' w' s' k';simp[go_sem,B];apply yd;refine M ?_;obtain⟨F,hF⟩:∃F:Nat->List Int,F=λn=>eI t T.glob++(T.qs.take n).flatMap λq=>eI t q.reqs:=⟨_,rfl⟩
 have jW:eI t T.glob=F 0:=W;have aB:∀n (hn:n<T.qs.length),F n++eI t T.qs[n].reqs=F (n+1):=λn hn=>by grind[jn,jf]
 have bX:∀n,(F n).length<=T.glob.length+bE (T.qs.take n):=λn=>by rw[hF];have O:=NH t T.glob;have U:=NX t (T.qs.take n);simp only[it];omega
 have dE:F T.qs.length=mZ T t:=by grind[mZ]
 have nE:∀X h' ac ae:AObj,(h++[X,h',ac]).set (h.length+1) ae=h++[X,ae,ac]:=λX h' ac ae=>by simp
 have zy:∀X h' ae:AObj,(h++[X,h']).set (h.length+1) ae=h++[X,ae]:=λX h' ae=>by simp
 rw[jW];clear s' k' s k;refine po T.qs.length (λ_=>True) (λn=>⟨[(1,I t),(5,.own (h.length+1) (F n).length),(13,.slice (T.qs.map LQ.c)),(14,I T.qs.length),(15,I n)],h++[.cells [.slice (T.glob.map LReq.c),.slice (T.qs.map LQ.c)],.uarr 3 1 ((F n).map qe)]⟩) trivial (Wk.slots bj) ?_;intro n hn _;have hw:=oi hn hb.2.1;refine nf (λhc=>?_) (λhc=>?_)
 .simp-dsimp[go_sem,B,hc,LQ.c];have O:=bX n;have U:=YR hc;refine o7 (R8 (h.length+1) (F n) T.qs[n].reqs t Z J) ?_;rw[aB n hc];simp-dsimp[go_sem,B,hw,nE];exact⟨hc,ng⟩
 have nv:n=T.qs.length:=J;subst nv;refine M ?_;rw[dE];refine o7 (IC (l:=mZ T t) (h:=h++[.cells [.slice (T.glob.map LReq.c),.slice (T.qs.map LQ.c)],.uarr 3 1 ((mZ T t).map qe)]) (i:=h.length+1) Z) ?_;simp-dsimp[go_sem,B,zy];refine o7 (IQ (n:=(mZ T t).length) (l:=wV (mZ T t)) (h:=h++[.cells [.slice (T.glob.map LReq.c),.slice (T.qs.map LQ.c)],.uarr 3 1 ((wV (mZ T t)).map qe)]) (i:=h.length+1) Z Z) ?_;simp-dsimp[go_sem,B,zy];rfl
theorem ZC(l:List Part):(fD l).length<=2 * l.length:=by
 induction l with
 |nil=>simp[fD]
 |cons x l ih =>
  unfold fD at ih|-;rw[List.flatMap_cons,it,jp];have:(if x.dest≠0 then [x.node,x.dest]else [x.node]).length<=2:=W;omega
def Dp(p:Plc):APure prog 23 [.agg p.c] (.slice ((uk p).map qe)):=by
 obtain⟨ver,l⟩:=p;have ug:=AO ⟨ver,l⟩;have nv:uk ⟨ver,l⟩=if qw ⟨ver,l⟩=true then mG (fD l)else []:=rfl;have oy:=λh=>zN (p:=⟨ver,l⟩) h;obtain⟨v,hv⟩:=Qaj (qw ⟨ver,l⟩)
 rw[hv]at ug nv oy;rw[nv];refine od func23 ntmps23 λE h B hh Q hb=>?_;simp[go_sem,Plc.c]at hb;simp-dsimp[go_sem,B,Plc.c];refine nc ug (M ?_);cases v with
 |false=>simp-dsimp[go_sem,B]
 |true =>
 have oy:=(oy rfl).2;simp only at oy;rw[gh rfl];refine M ?_;obtain⟨F,hF⟩:∃F:Nat->List Int,F=λn=>fD (l.take n):=⟨_,rfl⟩
 have jW:F 0=[]:=qii;have dE:F l.length=fD l:=W;have aB:∀n (hn:n<l.length),F (n+1)=F n++(if l[n].dest≠0 then [l[n].node,l[n].dest]else [l[n].node]):=λn hn=>by grind[fD,jn]
 have bX:∀n,(F n).length<=32:=λn=>by grind[kc,Nat.min_le_right,ZC]
 refine po l.length (λ_=>True) (λn=>⟨[(1,.ptr h.length 0),(3,.own (h.length+1) (F n).length),(10,.slice (l.map Part.c)),(11,I l.length),(12,I n)],h++[.cells [I ver,.slice (l.map Part.c)],.uarr 3 1 ((F n).map qe)]⟩) trivial ((qov E _ 3 3 1 af).trans ct) ?_;intro n hn _;have hw:=oi hn hb.1;have aG:=bX n;refine nf (λhc=>?_) (λhc=>?_)
 .have hs:=aB n hc;refine Qab ?_;refine⟨J,og (λhd=>?_) (λhd=>?_)⟩<;>simp at hd
  .rw[gh hd]at hs;refine Qaa ?_;refine⟨J,hc,?_⟩;rw[hs];exact ng
  rw[gg J]at hs;refine Qaa ?_;refine⟨hc,?_⟩;rw[hs];exact ng
 have bL:n=l.length:=J;subst bL;refine M ?_;rw[dE];have zy:∀X h' ae:AObj,(h++[X,h']).set (h.length+1) ae=h++[X,ae]:=λX h' ae=>by simp
 refine o7 (IC (l:=fD l) (h:=h++[.cells [I ver,.slice (l.map Part.c)],.uarr 3 1 ((fD l).map qe)]) (i:=h.length+1) Z) ?_;simp-dsimp[go_sem,B,zy];refine o7 (IQ (n:=(fD l).length) (l:=wV (fD l)) (h:=h++[.cells [I ver,.slice (l.map Part.c)],.uarr 3 1 ((wV (fD l)).map qe)]) (i:=h.length+1) Z Z) ?_;simp-dsimp[go_sem,B,zy];rfl
theorem Dw{α:Type}{l:List α}{q:α->Bool}{n:Nat}(hc:n<l.length):(l.take (n+1)).filter q=(l.take n).filter q++(if q l[n]=true then [l[n]]else []):=cw
def DP{α:Type}(l:List α)(q:α->Bool)(n:Nat):((l.take n).filter q).length<=n:=W
def Le(p:Plc)(l:List Pr)(node:Int)(hv:qw p=true):APure prog 26 [.agg p.c,.slice (l.map Pr.c),I node] (.slice ((wc p l node).map Pr.c)):=by
 refine od func26 ntmps26 λE h B hh Q hb=>?_;simp[go_sem,Plc.c]at hb;simp-dsimp[go_sem,B,Plc.c];obtain⟨F,hF⟩:∃F:Nat->List Pr,F=λn=>wc p (l.take n) node:=⟨_,rfl⟩
 have jW:F 0=[]:=qii;have dE:F l.length=wc p l node:=W;have aB:∀n (hn:n<l.length),F (n+1)=F n++(if decide (sg p l[n].key=node)=true then [l[n]]else []):=λn hn=>by rw[hF];exact Dw hn
 have bX:∀n,(F n).length<=n:=λn=>by rw[hF];exact DP _ _ _
 refine po l.length (λ_=>True) (λn=>⟨[(2,I node),(3,.ptr h.length 0),(7,.own (h.length+1) (F n).length),(10,.slice (l.map Pr.c)),(11,I l.length),(12,I n)],h++[.cells [I p.ver,.slice (p.parts.map Part.c)],.arr 59 4 ((F n).map Pr.c)]⟩) trivial ((mF E _ 7 59 4 af).trans ct) ?_;intro n hn _;have hw:=oi hn hb.2.1;have aG:=bX n;refine nf (λhc=>?_) (λhc=>?_)
 .have hs:=aB n hc;refine Qab ?_;refine nc (Gb p _ hv) ?_;refine nf (λhd=>?_) (λhd=>?_)
  .exact Qfs
  exact Qft
 have bL:n=l.length:=J;subst bL;refine M ?_;rw[dE]
 done
def PO(p:Plc)(l:List na)(node:Int)(hv:qw p=true):APure prog 94 [.agg p.c,.slice (l.map ny),I node] (.slice ((lI p l node).map ny)):=by
 refine od func94 ntmps94 λE h B hh Q hb=>?_;simp[go_sem,Plc.c]at hb;simp-dsimp[go_sem,B,Plc.c];obtain⟨F,hF⟩:∃F:Nat->List na,F=λn=>lI p (l.take n) node:=⟨_,rfl⟩
 have jW:F 0=[]:=qii;have dE:F l.length=lI p l node:=W;have aB:∀n (hn:n<l.length),F (n+1)=F n++(if decide (sg p l[n]=node)=true then [l[n]]else []):=λn hn=>by rw[hF];exact Dw hn
 have bX:∀n,(F n).length<=n:=λn=>by rw[hF];exact DP _ _ _
 refine po l.length (λ_=>True) (λn=>⟨[(2,I node),(3,.ptr h.length 0),(7,.own (h.length+1) (F n).length),(10,.slice (l.map ny)),(11,I l.length),(12,I n)],h++[.cells [I p.ver,.slice (p.parts.map Part.c)],.arr 9 1 ((F n).map ny)]⟩) trivial ((mF E _ 7 9 1 af).trans ct) ?_;intro n hn _;have hw:=oi hn hb.2.1;have aG:=bX n;refine nf (λhc=>?_) (λhc=>?_)
 .have hs:=aB n hc;refine Qab ?_;refine nc (Gb p _ hv) ?_;refine nf (λhd=>?_) (λhd=>?_)
  .exact Qfs
  exact Qft
 have bL:n=l.length:=J;subst bL;refine M ?_;rw[dE]
 done
def Hx(p:Plc)(f:Foot):APure prog 84 [.agg p.c,.agg f.c] (Bo (v6 p f)):=by refine od func84 ntmps84 λE h B hh Q hb=>?_;simp-dsimp[go_sem,B,Plc.c,Foot.c];refine nc (AO p) (M ?_);refine pz (EY f) Z ?_;simp-dsimp[go_sem,B,v6,lU]
