/- Part 35 of a proof. -/
import Derived.Shelf.Small.Strs
import Derived.Test.YtbimdamecieomaaGreatDoorR34
set_option linter.all false
set_option maxRecDepth 4000
namespace Go.Proofs.YtbimdamecieomaaGreatDoor
open Go Go.Abs Go.Cw Tryz
section
variable {σ:Type} {K:σ→Nat} {M:Nat} {w:Nat} {fs fr:FuncId} {cs cr:List AV} {H:Nat→σ→gz} {fS:σ→St→Nat→σ} {fR:σ→Ex→σ} {n0:Nat}
theorem xow{H:Nat→σ→gz}{n0:Nat}(W:WH prog w fs fr cs cr H fS fR n0 K M)(e:Ex)(left:Nat)(s:σ)(hl:left≤1000) :
  ACalls prog 329 [.ptr w 0,.agg e.x] (H left s) fun r h'=>r=.ret (.tuple [])∧h'=H (exW e left) s:=by
 refine lw func329 ntmps329 rfl ac rfl fun E hN hh hu hb il kr=>?_;simp[go_sem]at hb;simp-dsimp[go_sem,hN,W.w',W.look,W.len];refine gy ?_ ?_<;>intro h0<;>simp at h0
 ·subst h0;simp-dsimp[go_sem,hN];rw[xdx,if_pos rfl];exact⟨_,.refl _,H 0 s,rfl,ae,ae,hu,rfl,rfl⟩
 have qn:IntKind.i64.wrap ((left:Int) - 1)=((left - 1:Nat):Int):=qfh;simp-dsimp[go_sem,hN,W.w',qn,W.set',W.loc0];refine pa (α:=Nat) e.args.length (fun n m=>qsj (e.args.drop n) m=exW e left∧m≤left) (fun n m=>⟨[(0,.ptr w 0),(19,.slice (e.args.map Ex.c)),(20,I e.args.length),(21,I n)],H m s++[.cells e.x]⟩) (left - 1) ⟨by rw[xdx,if_neg h0];rfl,aa⟩ (Wk.mk qj0 af ((W.ext [.cells e.x] af).und' _ _) qgr) ?_;intro n m hn ⟨hI,hm⟩;have hw:=iv hn hb.2.1;simp-dsimp[go_sem,hN];refine gy ?_ ?_<;>intro hc<;>simp at hc
 ·rw[ji hc,qsj]at hI;have ib:SizeOf.sizeOf e.args[n]<SizeOf.sizeOf e:=Ex.arg_lt (c9 hc);simp-dsimp[go_sem,hN,hc,W.loc0,W.loc1,W.set0,W.set1,W.len];refine it (xow (W.ext [.cells e.x,.cells e.args[n].x] af) e.args[n] m s aa) ?_;rintro r h' ⟨rfl,rfl⟩;simp-dsimp[go_sem,hN,hw];refine⟨hc,_,⟨hI,?_⟩,?_⟩
  ·have:=xeo e.args[n] m;omega
  ·exact(Wk.mk qj0 af ((W.ext [.cells e.x] af).und' _ _) qgr)
 ·rw[cv aa,qsj]at hI;simp-dsimp[go_sem,hN];subst hI;exact⟨_,.refl _,H (exW e left) s,rfl,ae,qku,W.und' _ _,rfl,rfl⟩
termination_by SizeOf.sizeOf e
theorem xxf{H:Nat→σ→gz}{n0:Nat}(W:WH prog w fs fr cs cr H fS fR n0 K M)(e:Ex)(left:Nat)(s:σ)(hl:left≤1000)(hK:K s+left≤M) :
  ACalls prog 315 [.ptr w 0,.agg e.x] (H left s) fun r h'=>r=.ret (.tuple [])∧h'=H (pj fR e (left,s)).1 (pj fR e (left,s)).2:=by
 refine lw func315 ntmps315 rfl ac rfl fun E hN hh hu hb il kr=>?_;simp[go_sem]at hb;simp-dsimp[go_sem,hN,W.w',W.look,W.len,W.loc0];refine ka (xlo e) ae ?_;simp-dsimp[go_sem,hN];refine gy ?_ ?_<;>intro h0<;>simp at h0
 ·simp-dsimp[go_sem,hN];rw[pj,if_pos ck];exact⟨_,.refl _,H left s,rfl,ae,ae,hu,rfl,rfl⟩
 simp-dsimp[go_sem,hN];refine kf 5 mixed ac ac ?_;simp-dsimp[go_sem,hN,W.w',W.loc0,W.ncr];refine it (W.root left s [.cells e.x] e hK h0.1) ?_;rintro r h' ⟨rfl,rfl⟩;simp-dsimp[go_sem,hN,W.loc0];refine it (xow (W.ext [.cells e.x] af) e left (fR s e) hl) ?_;rintro r h' ⟨rfl,rfl⟩;simp-dsimp[go_sem,hN];rw[pj,if_neg (by simp only[not_or];exact⟨h0.1,by simp[h0.2]⟩)];exact⟨_,.refl _,H (exW e left) (fR s e),rfl,ae,qku,W.und' _ _,rfl,rfl⟩
theorem xl5{H:Nat→σ→gz}{n0:Nat}(W:WH prog w fs fr cs cr H fS fR n0 K M)(l:List St)(d left:Nat)(s:σ)(hl:d+left≤1000)(hK:K s+left≤M) :
  ACalls prog 286 [.ptr w 0,.slice (l.map St.c),I d] (H left s) fun r h'=>r=.ret (.tuple [])∧h'=H (mh fS fR l d (left,s)).1 (mh fS fR l d (left,s)).2:=by
 refine lw func286 ntmps286 rfl ac rfl fun E hN hh hu hb il kr=>?_;simp[go_sem]at hb;simp-dsimp[go_sem,hN,W.w',W.look,W.len,W.loc0];refine pa (α:=Nat×σ) l.length (fun n x=>mh fS fR (l.drop n) d x=mh fS fR l d (left,s)∧x.1≤left∧K x.2+x.1≤M) (fun n x=>⟨[(0,.ptr w 0),(2,I d),(8,.slice (l.map St.c)),(9,I l.length),(10,I n)],H x.1 x.2⟩) (left,s) ⟨ae,ae,hK⟩ (Wk.mk qj0 af (W.und' _ _) qgr) ?_;rintro n ⟨m,s⟩ hn ⟨hI,hm,hk⟩;simp only at hm hk;have hw:=iv hn hb.1;simp-dsimp[go_sem,hN];refine gy ?_ ?_<;>intro hc<;>simp at hc
 ·rw[ji hc,mh]at hI;have ib:SizeOf.sizeOf l[n]<SizeOf.sizeOf l:=fj (c9 hc);simp-dsimp[go_sem,hN,hc,W.loc0,W.set0,W.len,W.w'];refine gy ?_ ?_<;>intro h0<;>simp at h0
  ·subst h0;simp-dsimp[go_sem,hN];rw[if_pos rfl]at hI;rw[←hI];exact⟨_,.refl _,H 0 s,rfl,ae,qku,W.und' _ _,rfl,rfl⟩
  have qn:IntKind.i64.wrap ((m:Int) - 1)=((m - 1:Nat):Int):=qfh;rw[if_neg h0]at hI;simp-dsimp[go_sem,hN,qn,W.loc0,W.w',W.set'];refine kf 6 mixed ac ac ?_;have X:=W.ext [.cells l[n].x] af;simp-dsimp[go_sem,hN,W.w',W.loc0,W.ncs];refine it (W.stmt (m - 1) s [.cells l[n].x] l[n] d aa) ?_;rintro r h' ⟨rfl,rfl⟩;have k0:=W.hS s l[n] d;simp-dsimp[go_sem,hN,W.w',W.loc0];refine it (xxf X l[n].a (m - 1) (fS s l[n] d) aa aa) ?_;rintro r h' ⟨rfl,rfl⟩;have g1:=xfb fR l[n].a (m - 1,fS s l[n] d);have k1:=xgk fR K W.hR l[n].a (m - 1,fS s l[n] d);simp only at g1 k1;generalize hx1:pj fR l[n].a (m - 1,fS s l[n] d)=x1 at g1 k1⊢;simp-dsimp[go_sem,hN,W.w',W.loc0];refine it (xxf X l[n].b x1.1 x1.2 aa aa) ?_;rintro r h' ⟨rfl,rfl⟩;have g2:=xfb fR l[n].b x1;have k2:=xgk fR K W.hR l[n].b x1;generalize hx2:pj fR l[n].b x1=x2 at g2 k2⊢;have oi:IntKind.i64.wrap ((d:Int)+1)=((d+1:Nat):Int):=qfh;have jw:=St.body_le l[n];have li:=St.els_le l[n];simp-dsimp[go_sem,hN,W.w',W.loc0,oi];refine it (xl5 X l[n].body (d+1) x2.1 x2.2 aa aa) ?_;rintro r h' ⟨rfl,rfl⟩;have g3:=qt2 fS fR l[n].body (d+1) x2;have k3:=qy0 fS fR K W.hS W.hR l[n].body (d+1) x2;generalize hx3:mh fS fR l[n].body (d+1) x2=x3 at g3 k3⊢;simp-dsimp[go_sem,hN,W.w',W.loc0,oi];refine it (xl5 X l[n].els (d+1) x3.1 x3.2 aa aa) ?_;rintro r h' ⟨rfl,rfl⟩;have g4:=qt2 fS fR l[n].els (d+1) x3;have k4:=qy0 fS fR K W.hS W.hR l[n].els (d+1) x3;simp-dsimp[go_sem,hN,hw];refine⟨hc,(mh fS fR l[n].els (d+1) x3).1,(mh fS fR l[n].els (d+1) x3).2,⟨?_,?_⟩,(Wk.mk qj0 af (W.und' _ _) qgr)⟩
  ·rw[←hI,jkl,hx1,hx2,hx3]
  ·exact⟨aa,aa⟩
 ·rw[cv aa,mh]at hI;simp-dsimp[go_sem,hN];rw[←hI];exact⟨_,.refl _,H m s,rfl,ae,qku,W.und' _ _,rfl,rfl⟩
termination_by SizeOf.sizeOf l
end
theorem xg7{σ:Type}{fs fr:FuncId}{cs cr:List AV}{H:σ→gz}{fS:σ→St→Nat→σ}{fR:σ→Ex→σ}{n0:Nat}{K:σ→Nat}{M:Nat}(B:CB prog fs fr cs cr H fS fR n0 K M)(p:Proc)(s:σ)(hK:K s+401≤M) :
  ACalls prog 250 [.agg p.c,.fn (.func fs) [] cs,.fn (.func fr) [] cr] (H s) fun r h'=>r=.ret (.val (.int .i64 (IntKind.i64.wrap (401 - ((mh fS fR p.body 1 (401,s)).1:Int)))))∧h'=H (mh fS fR p.body 1 (401,s)).2:=by
 refine lw func250 ntmps250 rfl ac rfl fun E hN hh hu hb il kr=>?_;simp[go_sem]at hb;have X:=B.walk (.cells p.c) af;have g0:∀(s:σ) (x:AObj) (l:gz),(H s++x::l)[n0]?=some x:=fun s x l=>by
  rw[cy qjp,B.len,ff];rfl
 have g1:∀(s:σ) (x y:AObj) (l:gz),(H s++x::y::l)[n0+1]?=some y:=fun s x y l=>by
  rw[cy qjp,B.len,show n0+1 - n0=1 by omega];rfl
 simp-dsimp[go_sem,hN,B.len,g0,g1];refine it (xl5 X p.body 1 401 s aa hK) ?_;rintro r h' ⟨rfl,rfl⟩;simp-dsimp[go_sem,hN,g1];exact⟨_,.refl _,H (mh fS fR p.body 1 (401,s)).2,rfl,ae,by simp[B.len],by rw[B.len];exact B.und _,rfl,rfl⟩
theorem jlu(t:St)(d:Int)(h:gz):ACalls prog 256 [.agg t.x,I d] h fun r h'=>r=.ret (.tuple [])∧h'=h:=by
 refine lw func256 ntmps256 rfl ac rfl fun E hN hh hu hb il kr=>?_;simp-dsimp[go_sem,hN];exact⟨_,.refl _,h,af,af,ae,aq,rfl,rfl⟩
theorem xo0(e:Ex)(h:gz):ACalls prog 253 [.agg e.x] h fun r h'=>r=.ret (.tuple [])∧h'=h:=by
 refine lw func253 ntmps253 rfl ac rfl fun E hN hh hu hb il kr=>?_;simp-dsimp[go_sem,hN];exact⟨_,.refl _,h,af,af,ae,aq,rfl,rfl⟩
theorem xzy(t:St)(d:Nat)(h:gz)(i:Nat)(x:Int)(hi:h[i]?=some (.cells [I x])):ACalls prog 251 [.agg t.x,I d,.ptr i 0] h fun r h'=>r=.ret (.tuple [])∧h'=h.set i (.cells [I (uw x t d)]):=by
 refine lw func251 ntmps251 rfl ac rfl fun E hN hh hu hb il kr=>?_;simp[go_sem]at hb;have ke:i<h.length:=(cq.1 hi).1;have a1:∀l,(h++l)[i]?=some (.cells [I x]):=fun l=>by rw[cu ke];exact hi
 have a2:∀l (y:AObj),(h++l).set i y=h.set i y++l:=fun l y=>e9 _ _ ke;have wg:∀y:Int,hUnder h.length (h.set i (.cells [I y]))=true:=fun y=>qb1 hu (by simp[AObj.under,nb,AV.under]);have hxx:h.set i (.cells [I x])=h:=by
  apply fy;intro j;by_cases hj:i=j
  ·subst hj;rw[ep ke,hi]
  ·rw[dm hj]
 simp-dsimp[go_sem,hN,a1];refine gy ?_ ?_<;>intro h0<;>simp at h0
 ·simp-dsimp[go_sem,hN];refine ia (jbq t d) ?_;simp-dsimp[go_sem,hN,a1,a2];rw[uw,if_pos h0];exact⟨_,.refl _,_,rfl,hwk.app0 _,ae,by simpa using wg _,rfl,rfl⟩
 ·simp-dsimp[go_sem,hN];rw[uw,if_neg h0,hxx];exact⟨_,.refl _,_,rfl,hwk.app0 _,ae,hu,rfl,rfl⟩
theorem xoh(p:Proc):APure prog 202 [.agg p.c] (I (s7 p)):=by
 refine ik func202 ntmps202 rfl ac rfl rfl fun E h hN hh hu hb=>?_;simp[go_sem]at hb;simp-dsimp[go_sem,hN];refine ia (xc5 _) ?_;simp-dsimp[go_sem,hN];refine gy ?_ ?_<;>intro h0<;>simp at h0
 ·simp-dsimp[go_sem,hN];rw[s7,if_pos h0]
 simp-dsimp[go_sem,hN];refine ia (xyw _) ?_;simp-dsimp[go_sem,hN];refine gy (fun h1=>?_) (fun h1=>?_)
 ·simp-dsimp[go_sem,hN];simp only[qls,decide_eq_false_iff_not]at h1;rw[s7,if_neg cg,if_pos h1]
 simp only[Bool.not_eq_false',decide_eq_true_eq]at h1;simp-dsimp[go_sem,hN,h1];have B:CB prog 251 253 [.ptr (h.length+1) 0] [] (fun x:Int=>h++[.cells p.c,.cells [I x]]) uw md (h.length+2) (fun _=>0) 401:={
  hS:=fun _ _ _=>by simp
  hR:=fun _ _=>by simp
  len:=fun x=>by simp
  und:=fun x=>by rw[vf hu];simp[go_sem]
  ucs:=qi2
  ucr:=rfl
  ncs:=fun h=>rfl
  ncr:=fun h=>rfl
  stmt:=fun x L t d _=>by
   have:=xzy t d ((h++[.cells p.c,.cells [I x]])++L) (h.length+1) x ae;simpa using this
  root:=fun x L e _=>by
   have:=xo0 e ((h++[.cells p.c,.cells [I x]])++L);simpa[md]using this }
 refine it (xg7 B p 0 aa) ?_;rintro r h' ⟨rfl,rfl⟩;simp-dsimp[go_sem,hN];have ig:=qt2 uw md p.body 1 (401,(0:Int));simp only at ig;rw[qe6 aa aa];refine gy ?_ ?_<;>intro h2<;>simp at h2
 ·simp-dsimp[go_sem,hN];rw[s7,if_neg cg,if_neg qgk];simp only;rw[if_pos ⟨h2.1,aa⟩]
 ·simp-dsimp[go_sem,hN];rw[s7,if_neg cg,if_neg qgk];simp only;rw[if_neg aa]
theorem jev(t:St)(d:Nat)(h:gz)(p i:Nat)(l:List g9)(hp:h[p]?=some (.cells [.own i l.length]))(hi:h[i]?=some (.arr 9 1 (l.map im)))(hl:l.length+1≤68719476736) :
  ACalls prog 254 [.agg t.x,I d,.ptr p 0] h fun r h'=>r=.ret (.tuple [])∧h'=(h.set i (.arr 9 1 ((tu l t d).map im))).set p (.cells [.own i (tu l t d).length]):=by
 refine lw func254 ntmps254 rfl ac rfl fun E hN hh hu hb il kr=>?_;simp[go_sem]at hb;have hp':p<h.length:=(cq.1 hp).1;have ke:i<h.length:=(cq.1 hi).1;have hpi:p≠i:=qip;have a1:∀l:gz,(h++l)[p]?=h[p]?:=fun l=>cu hp';have a2:∀l:gz,(h++l)[i]?=h[i]?:=fun l=>cu ke;have a3:∀(l:gz) (y:AObj),(h++l).set p y=h.set p y++l:=fun l y=>e9 _ _ hp';have a4:∀(l:gz) (y:AObj),(h++l).set i y=h.set i y++l:=fun l y=>e9 _ _ ke;have a5:∀(l:gz) (o y:AObj),(h.set i o++l).set p y=(h.set i o).set p y++l:=fun l o y=>e9 _ _ qjz;have a6:∀(l:gz) (o:AObj),(h.set i o++l)[p]?=h[p]?:=fun l o=>by rw[cu qjz,dm (Ne.symm hpi)]
 have wg:∀(r:List (List AV)) (n:Nat),hUnder h.length ((h.set i (.arr 9 1 r)).set p (.cells [.own i n]))=true:=fun r n=>qb1 (qb1 hu qh5) (by simp[AObj.under,nb,AV.under,ke]);simp-dsimp[go_sem,hN,a1,hp];refine gy ?_ ?_<;>intro h0<;>simp at h0
 ·simp-dsimp[go_sem,hN,a1,a2,a3,a4,a5,a6,hp,hi];refine⟨aa,?_⟩;have e:tu l t d=l++[t.name]:=by rw[tu,if_pos h0]
  exact⟨_,.refl _,_,rfl,hwk.app0 _,ae,by simpa using wg _ _,rfl,by rw[e];simp[im]⟩
 ·simp-dsimp[go_sem,hN];have e:tu l t d=l:=by rw[tu,if_neg aa]
  rw[e,qdc hi,qdc hp];exact⟨_,.refl _,_,rfl,hwk.app0 _,ae,hu,rfl,rfl⟩
theorem jaw(p:Proc)(jr:p.params.length≤34359738368):APure prog 204 [.agg p.c] (.slice ((yp p).map im)):=by
 refine ik func204 ntmps204 rfl ac rfl rfl fun E h hN hh hu hb=>?_;simp[go_sem]at hb;simp-dsimp[go_sem,hN];refine pa (α:=List g9) p.params.length (fun n o=>o++(p.params.drop n).map (·.name)=p.params.map (·.name)∧o.length≤n) (fun n o=>⟨[(1,.ptr h.length 0),(3,.ptr (h.length+1) 0),(7,.slice (p.params.map Param.c)),(8,I p.params.length),(9,I n)],h++[.cells p.c,.cells [.own (h.length+2) o.length],.arr 9 1 (o.map im)]⟩) [] ae ((qwi E _ (p:=h.length+1) (j:=0) (t:=9) (sz:=1) (xs:=[.nils]) ae rfl).trans ?_) ?_
 ·simp;exact ic
 intro n o hn ⟨hI,hol⟩;have hw:=iv hn hb.2.1.1;simp-dsimp[go_sem,hN];refine gy ?_ ?_<;>intro hc<;>simp at hc
 ·rw[ji hc,c8]at hI;simp-dsimp[go_sem,hN,hc,hw];exact⟨aa,o++[p.params[n].name],⟨qiv,am⟩,ic⟩
 rw[cv aa,e6,e8]at hI;simp-dsimp[go_sem,hN];have B:CB prog 254 253 [.ptr (h.length+1) 0] [] (fun l:List g9=>h++[.cells p.c,.cells [.own (h.length+2) l.length],.arr 9 1 (l.map im)]) tu md (h.length+3) List.length 68719476735:={
  hS:=xs0
  hR:=fun s _=>by simp[md]
  len:=fun x=>by simp
  und:=fun x=>by rw[vf hu];simp[go_sem]
  ucs:=qi2
  ucr:=rfl
  ncs:=fun h=>rfl
  ncr:=fun h=>rfl
  stmt:=fun l L t d hk=>by
   have:=jev t d ((h++[.cells p.c,.cells [.own (h.length+2) l.length],.arr 9 1 (l.map im)])++L) (h.length+1) (h.length+2) l ae ae aa;simpa using this
  root:=fun x L e _=>by
   have:=xo0 e ((h++[.cells p.c,.cells [.own (h.length+2) x.length],.arr 9 1 (x.map im)])++L);simpa[md]using this }
 refine it (xg7 B p o aa) ?_;rintro r h' ⟨rfl,rfl⟩;simp-dsimp[go_sem,hN];rw[yp,←hI]
theorem xwe(e:Ex):APure prog 258 [.agg e.x] (.agg e.x):=by
 refine ik func258 ntmps258 rfl ac rfl rfl fun E h hN hh hu hb=>?_;simp[go_sem]at hb;simp-dsimp[go_sem,hN];refine jl e.args.length (fun n=>True) (fun n=>⟨[(1,.ptr h.length 0),(2,.ptr (h.length+1) 0),(9,.slice (e.args.map Ex.c)),(10,I e.args.length),(11,I n)],h++[.cells [I e.op,I e.n,S e.s,.own (h.length+2) n],.cells [I 0,I 0,S ⟨#[]⟩,.nils],.arr 119 4 ((e.args.take n).map Ex.c)]⟩) trivial ((qwi E _ (p:=h.length) (j:=3) (t:=119) (sz:=4) (xs:=[I e.op,I e.n,S e.s,.nils]) ae rfl).trans ?_) ?_
 ·simp;exact ic
 intro n hn _;have hw:=iv hn hb.2.1;simp-dsimp[go_sem,hN];refine gy ?_ ?_<;>intro hc<;>simp at hc
 ·have ib:SizeOf.sizeOf e.args[n]<SizeOf.sizeOf e:=Ex.arg_lt (c9 hc);simp-dsimp[go_sem,hN,hc];refine kf 5 mixed ac ac ?_;simp-dsimp[go_sem,hN,hc];refine ku (xwe e.args[n]) ae ?_;simp-dsimp[go_sem,hN,hc,hw];have et:(e.args.map Ex.c).take (n+1)=(e.args.map Ex.c).take n++[e.args[n].x]:=by
   rw[eg qf2];simp[Ex.c_eq]
  rw[et];exact⟨aa,aa,ic⟩
 ·simp-dsimp[go_sem,hN];rw[if_pos aa,fo qf2]
termination_by SizeOf.sizeOf e
theorem qyy{P:Program}{N:Nat}{Q:AExit→Env→Prop}{l:List Oper}{n:Nat}{L:Array Bool}{e:Env}(rs:List Nat)(ii:rs≠[])(hr:Region.ready .any l.toArray L=rs)
  (h:∀i,i∈rs→match l[i]? with
  |some o=>qux P N Q (l.map (·.dst)) o e fun e'=>xa8 P N Q l n (L.setIfInBounds i true) e'
  |none=>False):xa8 P N Q l (n+1) L e:=⟨fun h0=>(ii (hr▸h0)).elim,fun i hi=>h i (hr▸hi)⟩
theorem jem(e:Ex)(h:gz)(p i:Nat)(l:List Ex)(hp:h[p]?=some (.cells [.own i l.length]))(hi:h[i]?=some (.uarr 119 4 (l.map Ex.c)))(hl:l.length+1≤68719476736) :
  ACalls prog 257 [.agg e.x,.ptr p 0] h fun r h'=>r=.ret (.tuple [])∧h'=(h.set i (.uarr 119 4 ((l++[e]).map Ex.c))).set p (.cells [.own i (l.length+1)]):=by
 refine lw func257 ntmps257 rfl ac rfl fun E hN hh hu hb il kr=>?_;simp[go_sem]at hb;simp-dsimp[go_sem,hN];have ve:p<h.length:=(cq.1 hp).1;have nq:i<h.length:=(cq.1 hi).1;have hpi:p≠i:=qip;have hip:i≠p:=fun h=>hpi h.symm;have qd:∀l:gz,(h++l)[p]?=h[p]?:=fun l=>cu ve;have hi1:∀l:gz,(h++l)[i]?=h[i]?:=fun l=>cu nq;have u0:∀(y:AObj) (l:gz),(h++l).set i y=h.set i y++l:=fun y l=>e9 _ _ nq;have wy:∀(y:AObj) (l:gz),(h++l).set p y=h.set p y++l:=fun y l=>e9 _ _ ve;have hs3:∀(o y:AObj) (l:gz),(h.set i o++l).set p y=(h.set i o).set p y++l:=fun o y l=>e9 _ _ (by simpa using ve);have hs4:∀(o y:AObj) (l:gz),(h.set i o++l).set i y=h.set i y++l:=fun o y l=>by rw[e9 _ _ qfw,gq]
 have hs5:∀(o o' y:AObj) (l:gz),((h.set i o).set p o'++l).set i y=(h.set i y).set p o'++l:=fun o o' y l=>by rw[e9 _ _ qfw,List.set_comm _ _ hpi,gq]
 have hA:∀(o:AObj) (l:gz),(h.set i o++l)[i]?=some o:=fun o l=>by rw[cu qfw];simp[nq]
 have hB:∀(o:AObj) (L:gz),(h.set i o++L)[p]?=some (.cells [.own i l.length]):=fun o L=>by rw[cu (by simpa using ve),dm hip];exact hp
 have hC:∀(o o':AObj) (L:gz),((h.set i o).set p o'++L)[i]?=some o:=fun o o' L=>by rw[cu qfw,dm hpi];simp[nq]
 have yj:∀z:List AV,(l.map Ex.c++[z])[l.length]?=some z:=fun z=>by rw[cy ae];simp
 have ss:∀y z:List AV,(l.map Ex.c++[z]).set l.length y=l.map Ex.c++[y]:=fun y z=>by rw[fq _ _ ae];simp
 have qvr:∀e1:Env,e1.h=(h.set i (AObj.uarr 119 4 (l.map Ex.c++[e.x]))).set p (AObj.cells [AV.own i (l.length+1)])++[AObj.cells e.x] →
   qxr prog [] h.length (fun r h'=>r=AEnd.ret (AV.tuple [])∧h'=(h.set i (AObj.uarr 119 4 (l.map Ex.c++[e.x]))).set p (AObj.cells [AV.own i (l.length+1)])) .normal e1:=fun e1 he=>by
  refine⟨trivial,.tuple [],_,.refl _,rfl,by rw[he];exact hwk.app0 _,ae,?_,rfl,rfl⟩;simpa using(qb1 (qb1 hu qh5) (by simp[AObj.under,nb,AV.under,nq]):hUnder h.length ((h.set i (AObj.uarr 119 4 (l.map Ex.c++[e.x]))).set p (AObj.cells [AV.own i (l.length+1)]))=true)
 show AWp _ _ _ _ _;refine ji5 5 mixed ac ?_;simp[qou,uy,go_sem,hN,qd,hi1,hp,hi,DR.next,qyn,rp];refine⟨_,(xwe e).at _,qic,?_⟩;refine qyy [5] ae ac ?_;intro i' ke;simp only[ei]at ke;subst ke;simp[go_sem,hN,qd,hi1,hp,hi,hA,hB,hC,yj,ss,u0,wy,hs3,hs4,hs5];refine⟨aa,qyy [6,8] ae ac ?_⟩;intro i' ke;simp only[cw,ei,ql5,or_false]at ke;rcases ke with rfl|rfl
 ·simp[go_sem,hN,qd,hi1,hp,hi,hA,hB,hC,yj,ss,u0,wy,hs3,hs4,hs5];refine qyy [7,8] ae ac ?_;intro i' ke;simp only[cw,ei,ql5,or_false]at ke;rcases ke with rfl|rfl
  ·simp[go_sem,hN,qd,hi1,hp,hi,hA,hB,hC,yj,ss,u0,wy,hs3,hs4,hs5];refine qyy [8] ae ac ?_;intro i' ke;simp only[ei]at ke;subst ke;simp[go_sem,hN,qd,hi1,hp,hi,hA,hB,hC,yj,ss,u0,wy,hs3,hs4,hs5];refine⟨ac,qvr _ ?_⟩;simp
  ·simp[go_sem,hN,qd,hi1,hp,hi,hA,hB,hC,yj,ss,u0,wy,hs3,hs4,hs5];refine qyy [7] ae ac ?_;intro i' ke;simp only[ei]at ke;subst ke;simp[go_sem,hN,qd,hi1,hp,hi,hA,hB,hC,yj,ss,u0,wy,hs3,hs4,hs5];refine⟨ac,qvr _ ?_⟩;simp
 ·simp[go_sem,hN,qd,hi1,hp,hi,hA,hB,hC,yj,ss,u0,wy,hs3,hs4,hs5];refine qyy [6] ae ac ?_;intro i' ke;simp only[ei]at ke;subst ke;simp[go_sem,hN,qd,hi1,hp,hi,hA,hB,hC,yj,ss,u0,wy,hs3,hs4,hs5];refine qyy [7] ae ac ?_;intro i' ke;simp only[ei]at ke;subst ke;simp[go_sem,hN,qd,hi1,hp,hi,hA,hB,hC,yj,ss,u0,wy,hs3,hs4,hs5];refine⟨ac,qvr _ ?_⟩;simp
theorem xzt(p:Proc):APure prog 206 [.agg p.c] (.slice ((rg p).map Ex.c)):=by
 refine ik func206 ntmps206 rfl ac rfl rfl fun E h hN hh hu hb=>?_;simp[go_sem]at hb;simp-dsimp[go_sem,hN];have B:CB prog 256 257 [] [.ptr (h.length+1) 0] (fun l:List Ex=>h++[.cells p.c,.cells [.own (h.length+2) l.length],.uarr 119 4 (l.map Ex.c)]) xg qpb (h.length+3) List.length 68719476735:={
  hS:=fun s _ _=>by simp[xg]
  hR:=fun s _=>by simp[qpb]
  len:=fun x=>by simp
  und:=fun x=>by rw[vf hu];simp[go_sem]
  ucs:=rfl
  ucr:=qi2
  ncs:=fun h=>rfl
  ncr:=fun h=>rfl
  stmt:=fun x L t d _=>by
   have:=jlu t d ((h++[.cells p.c,.cells [.own (h.length+2) x.length],.uarr 119 4 (x.map Ex.c)])++L);simpa[xg]using this
  root:=fun l L e hk=>by
   have:=jem e ((h++[.cells p.c,.cells [.own (h.length+2) l.length],.uarr 119 4 (l.map Ex.c)])++L) (h.length+1) (h.length+2) l ae ae aa;simpa[qpb]using this }
 have X:=xhl (h:=h++[.cells p.c,.cells [.nils]]) (fun E=>by
  have:=xgp E ⟨[],h++[.cells p.c,.cells [.nils]]⟩ (p:=h.length+1) (j:=0) (t:=119) (sz:=4) (xs:=[.nils]) ae rfl;simpa using this) (xg7 B p [] ae)
 have Y:=jht (h2:=h++[.cells p.c,.cells [.own (h.length+2) (rg p).length],.arr 119 4 ((rg p).map Ex.c)]) (fun E=>by
  have:=zt E ⟨[],h++[.cells p.c,.cells [.own (h.length+2) (rg p).length],.uarr 119 4 ((rg p).map Ex.c)]⟩ (i:=h.length+2) (t:=119) (sz:=4) (rows:=(rg p).map Ex.c) ae;simpa[rg]using this) X
 refine it Y ?_;rintro r h' ⟨rfl,rfl⟩;simp-dsimp[go_sem,hN]
theorem jej(op:Int):APure prog 332 [I op] (.tuple [I (nh op).1,I (nh op).2]):=by
 refine ik func332 ntmps332 rfl ac rfl rfl fun E h hN hh hu hb=>?_;by_cases h1:op=1
 ·subst h1;simp-dsimp[go_sem,hN,nh]
 by_cases h25:op=25
 ·subst h25;simp-dsimp[go_sem,hN,nh]
 by_cases h26:op=26
 ·subst h26;simp-dsimp[go_sem,hN,nh]
 by_cases h27:op=27
 ·subst h27;simp-dsimp[go_sem,hN,nh]
 by_cases h4:op=4
 ·subst h4;simp-dsimp[go_sem,hN,nh]
 by_cases h5:op=5
 ·subst h5;simp-dsimp[go_sem,hN,nh]
 by_cases h6:op=6
 ·subst h6;simp-dsimp[go_sem,hN,nh]
 by_cases h7:op=7
 ·subst h7;simp-dsimp[go_sem,hN,nh]
 by_cases h8:op=8
 ·subst h8;simp-dsimp[go_sem,hN,nh]
 by_cases h9:op=9
 ·subst h9;simp-dsimp[go_sem,hN,nh]
 by_cases h2:op=2
 ·subst h2;simp-dsimp[go_sem,hN,nh]
 by_cases h19:op=19
 ·subst h19;simp-dsimp[go_sem,hN,nh]
 by_cases h23:op=23
 ·subst h23;simp-dsimp[go_sem,hN,nh]
 by_cases h16:op=16
 ·subst h16;simp-dsimp[go_sem,hN,nh]
 by_cases h17:op=17
 ·subst h17;simp-dsimp[go_sem,hN,nh]
 by_cases h18:op=18
 ·subst h18;simp-dsimp[go_sem,hN,nh]
 by_cases h20:op=20
 ·subst h20;simp-dsimp[go_sem,hN,nh]
 by_cases h21:op=21
 ·subst h21;simp-dsimp[go_sem,hN,nh]
 by_cases h22:op=22
 ·subst h22;simp-dsimp[go_sem,hN,nh]
 simp-dsimp[go_sem,hN,nh,h1,h25,h26,h27,h4,h5,h6,h7,h8,h9,h2,h19,h23,h16,h17,h18,h20,h21,h22]
theorem xy3(op ty:Int):APure prog 331 [I op,I ty] (Bo (xe4 op ty)):=by
 refine ik func331 ntmps331 rfl ac rfl rfl fun E h hN hh hu hb=>?_;simp-dsimp[go_sem,hN,xe4]
 try grind
theorem jkr(op:Int):APure prog 208 [I op] (Bo (qsv op)):=by
 refine ik func208 ntmps208 rfl ac rfl rfl fun E h hN hh hu hb=>?_;simp-dsimp[go_sem,hN,qsv]
 try grind
theorem xyi(s:g9):APure prog 132 [S s] (Bo (ml s)):=by
 refine ik func132 ntmps132 rfl ac rfl rfl fun E h hN hh hu hb=>?_;simp[go_sem]at hb;simp-dsimp[go_sem,hN];refine jl s.size (fun n=>o5 okB ((bl s).drop n)=o5 okB (bl s)) (fun n=>⟨[(0,S s),(3,I n)],h⟩) ae ic ?_;intro n hn hI;have hw:=iv hn hb;simp-dsimp[go_sem,hN];refine gy ?_ ?_<;>intro hc<;>try simp at hc
 ·rw[qvm hc,o5]at hI;simp-dsimp[go_sem,hN,hc];refine gy (fun hg=>?_) (fun hg=>?_)
  ·simp-dsimp[go_sem,hN];simp[ml,←hI,okB,hg]
  ·simp-dsimp[go_sem,hN,hw];exact⟨hc,qg4,ic⟩
 ·rw[qu3 aa,o5]at hI;simp-dsimp[go_sem,hN,ml,←hI]
theorem xe0(a:Int):APure prog 262 [I a] (.tuple [I (wj a).1,I (wj a).2]):=by
 refine ik func262 ntmps262 rfl ac rfl rfl fun E h hN hh hu hb=>?_;simp-dsimp[go_sem,hN];refine gy ?_ ?_<;>intro h0<;>simp at h0<;>simp-dsimp[go_sem,hN,wj,h0]
theorem job(a b:Int):APure prog 293 [I a,I b] (.tuple [I (qry a b).1,I (qry a b).2]):=by
 refine ik func293 ntmps293 rfl ac rfl rfl fun E h hN hh hu hb=>?_;simp-dsimp[go_sem,hN]
 repeat refine⟨ax,?_⟩
 refine gy ?_ ?_<;>intro h0<;>simp at h0<;>simp-dsimp[go_sem,hN]<;>grind[qry]
theorem jh1(a b:Int):APure prog 294 [I a,I b] (.tuple [I (Cw.t0 a b).1,I (Cw.t0 a b).2]):=by
 refine ik func294 ntmps294 rfl ac rfl rfl fun E h hN hh hu hb=>?_;simp-dsimp[go_sem,hN]
 repeat refine⟨ax,?_⟩
 refine gy ?_ ?_<;>intro h0<;>simp at h0<;>simp-dsimp[go_sem,hN]<;>grind[Cw.t0]
theorem jjf(a b:Int):APure prog 295 [I a,I b] (.tuple [I (qnw a b).1,I (qnw a b).2]):=by
 refine ik func295 ntmps295 rfl ac rfl rfl fun E h hN hh hu hb=>?_;simp-dsimp[go_sem,hN]
 repeat refine⟨ax,?_⟩
 refine gy ?_ ?_<;>intro h0<;>simp at h0<;>simp-dsimp[go_sem,hN]
 ·grind[qnw]
 refine gy ?_ ?_<;>intro h1<;>simp at h1<;>simp-dsimp[go_sem,hN]
 ·refine ia (xe0 b) ?_;simp-dsimp[go_sem,hN];grind[qnw]
 refine gy ?_ ?_<;>intro h2<;>simp at h2<;>simp-dsimp[go_sem,hN]
 ·refine ia (xe0 a) ?_;simp-dsimp[go_sem,hN];grind[qnw]
 repeat refine⟨ax,?_⟩
 refine gy ?_ ?_<;>intro h3<;>simp at h3<;>simp-dsimp[go_sem,hN]<;>grind[qnw]
theorem jme(a b:Int):APure prog 296 [I a,I b] (.tuple [I (qow a b).1,I (qow a b).2]):=by
 refine ik func296 ntmps296 rfl ac rfl rfl fun E h hN hh hu hb=>?_;simp-dsimp[go_sem,hN];refine gy ?_ ?_<;>intro h0<;>simp at h0<;>simp-dsimp[go_sem,hN]
 ·grind[qow]
 refine gy ?_ ?_<;>intro h1<;>simp at h1<;>simp-dsimp[go_sem,hN]
 ·refine ia (xe0 a) ?_;simp-dsimp[go_sem,hN];grind[qow]
 repeat refine⟨ax,?_⟩
 refine gy ?_ ?_<;>intro h3<;>simp at h3<;>simp-dsimp[go_sem,hN]<;>grind[qow]
theorem xzr(a b:Int):APure prog 297 [I a,I b] (.tuple [I (qoj a b).1,I (qoj a b).2]):=by
 refine ik func297 ntmps297 rfl ac rfl rfl fun E h hN hh hu hb=>?_;simp-dsimp[go_sem,hN];refine gy ?_ ?_<;>intro h0<;>simp at h0<;>simp-dsimp[go_sem,hN]
 ·grind[qoj]
 refine gy ?_ ?_<;>intro h1<;>simp at h1<;>simp-dsimp[go_sem,hN]
 ·grind[qoj]
 repeat refine⟨ax,?_⟩
 refine gy ?_ ?_<;>intro h3<;>simp at h3<;>simp-dsimp[go_sem,hN]<;>grind[qoj]
theorem xry(a:Int):APure prog 223 [I a] (Bo false):=by
 refine ik func223 ntmps223 rfl ac rfl rfl fun E h hN hh hu hb=>?_;simp-dsimp[go_sem,hN]
theorem xu7(a:Int):APure prog 345 [I a] (Bo false):=by
 refine ik func345 ntmps345 rfl ac rfl rfl fun E h hN hh hu hb=>?_;simp-dsimp[go_sem,hN]
theorem jd1(a b:Int):APure prog 320 [I a,I b] (I (qtw a b)):=by
 refine ik func320 ntmps320 rfl ac rfl rfl fun E h hN hh hu hb=>?_;simp-dsimp[go_sem,hN];refine ia (xry a) ?_;simp-dsimp[go_sem,hN];refine ia (xry b) ?_;simp-dsimp[go_sem,hN];refine gy ?_ ?_<;>intro h0<;>simp at h0<;>simp-dsimp[go_sem,hN]
 ·grind[qtw]
 refine gy ?_ ?_<;>intro h1<;>simp at h1<;>simp-dsimp[go_sem,hN]<;>grind[qtw]
theorem xyy(a b:Int):APure prog 337 [I a,I b] (I (qtw a b)):=by
 refine ik func337 ntmps337 rfl ac rfl rfl fun E h hN hh hu hb=>?_;simp-dsimp[go_sem,hN];refine ia (xu7 a) ?_;simp-dsimp[go_sem,hN];refine ia (xu7 b) ?_;simp-dsimp[go_sem,hN];refine gy ?_ ?_<;>intro h0<;>simp at h0<;>simp-dsimp[go_sem,hN]
 ·grind[qtw]
 refine gy ?_ ?_<;>intro h1<;>simp at h1<;>simp-dsimp[go_sem,hN]<;>grind[qtw]
theorem jaz(u v:V):APure prog 321 [.agg [I u.k,I u.n,S u.s,I v.k,I v.n,S v.s]] (I (qtw u.n v.n)):=by
 refine ik func321 ntmps321 rfl ac rfl rfl fun E h hN hh hu hb=>?_;simp-dsimp[go_sem,hN];refine ia (xyy u.n v.n) ?_;simp-dsimp[go_sem,hN]
end Go.Proofs.YtbimdamecieomaaGreatDoor
namespace Go.Proofs.YtbimdamecieomaaGreatDoor
open Go Go.Abs Go.Cw Go.Shelf Tryz
def jll:Ren:=⟨fun| 106=>141| 213=>174| 265=>217|x=>x,fun| 3=>3| 9=>9|x=>x,fun x=>x⟩
theorem xv7:Lays.n106 prog jll where
 mixed:=ac
 f106:=ac
 f213:=ac
 f265:=ac
 t3:=ac
 a3:=fun _=>by kernel_rfl
 z3:=fun _=>by kernel_rfl
 v3:=fun _=>by kernel_rfl
 t9:=ac
 a9:=fun _=>by kernel_rfl
 z9:=fun _=>by kernel_rfl
 v9:=fun _=>by kernel_rfl
theorem xv6(a b:g9):APure prog 141 [S a,S b] (I (qq1 a b)) :=
 jlo (l:=[.string a,.string b]) (r:=.int .i64 (qq1 a b)) rfl ⟨_,xv7.f106,rfl,rfl⟩ fun w=>Any.strings_Compare xv7 a b w
theorem xyk(u v:V):APure prog 322 [.agg [I u.k,I u.n,S u.s,I v.k,I v.n,S v.s]] (I (qq1 u.s v.s)):=by
 refine ik func322 ntmps322 rfl ac rfl rfl fun E h hN hh hu hb=>?_;simp-dsimp[go_sem,hN];refine ia (xv6 u.s v.s) ?_;simp-dsimp[go_sem,hN]
theorem jjz(u v:V):APure prog 298 [.agg u.c,.agg v.c] (I (qp5 u v)):=by
 refine ik func298 ntmps298 rfl ac rfl rfl fun E h hN hh hu hb=>?_;simp-dsimp[go_sem,hN];refine gy ?_ ?_<;>intro h0<;>simp at h0<;>simp-dsimp[go_sem,hN]
 ·refine ia (jd1 u.k v.k) ?_;simp-dsimp[go_sem,hN];simp[qp5,h0]
 refine gy ?_ ?_<;>intro h1<;>simp at h1<;>simp-dsimp[go_sem,hN]
 ·refine ia (xyk u v) ?_;simp-dsimp[go_sem,hN];simp[qp5,h0,h1]
 ·refine ia (jaz u v) ?_;simp-dsimp[go_sem,hN];simp[qp5,h0,h1]
end Go.Proofs.YtbimdamecieomaaGreatDoor
namespace Go.Proofs.YtbimdamecieomaaGreatDoor
open Go Go.Abs Go.Cw Tryz
@[go_sem] theorem jqp:qvt prog 3=some (I 0):=ac
@[go_sem] theorem jpr:qvt prog 4=some (Bo false):=ac
@[go_sem] theorem jp0:qvt prog 71=some (.agg [I 0,I 0,S ⟨#[]⟩]):=ac
theorem xkx(vars:List (g9×Int))(e:Ex)(d:Nat)(hv:mg e d=0)(h:gz)(m:Nat)(hm:h[m]?=some (.map (mb I vars))) :
  ACalls prog 318 [.agg e.x,.mapr m] h fun r h'=>r=.ret (.tuple [I (ofE vars e).1,I (ofE vars e).2])∧h'=h:=by
 refine lw func318 ntmps318 rfl ac rfl fun E hN hh hu hb il kr=>?_;simp[go_sem]at hb;have sp:m<h.length:=(cq.1 hm).1;have a1:∀l:gz,(h++l)[m]?=h[m]?:=fun l=>cu sp;simp-dsimp[go_sem,hN];refine gy ?_ ?_<;>intro h0<;>simp at h0
 ·have ho:ofE vars e=wn (jg vars e.s):=by rw[que,if_pos h0]
  rcases hk:jg vars e.s with _|ty
  ·rw[hk]at ho;simp-dsimp[go_sem,hN,a1,hm,hk];rw[ho];exact⟨_,.refl _,h,af,af,ae,aq,rfl,rfl⟩
  ·rw[hk]at ho;simp-dsimp[go_sem,hN,a1,hm,hk]
   repeat refine⟨ax,?_⟩
   refine gy ?_ ?_<;>intro h1<;>simp at h1
   ·simp-dsimp[go_sem,hN];rw[ho,wn,if_pos aa];exact⟨_,.refl _,h,af,af,ae,aq,rfl,rfl⟩
   ·simp-dsimp[go_sem,hN];rw[ho,wn,if_neg aa];exact⟨_,.refl _,h,af,af,ae,aq,rfl,rfl⟩
 simp-dsimp[go_sem,hN];refine pa (α:=List Int) e.args.length (fun n o=>((uc vars e.args).1=(uc vars (e.args.drop n)).1∧((uc vars e.args).1=0→(uc vars e.args).2=o++(uc vars (e.args.drop n)).2))∧o.length=n) (fun n o=>⟨[(1,.mapr m),(2,.ptr h.length 0),(8,.own (h.length+1) o.length),(39,.slice (e.args.map Ex.c)),(40,I e.args.length),(41,I n)],h++[.cells e.x,.arr 3 1 (o.map iw)]⟩) [] ae ((qm4 E _ 8 3 1 rfl).trans ?_) ?_
 ·exact(Wk.mk bi af bj qk2)
 intro n o hn ⟨⟨uq,mt⟩,hol⟩;have hw:=iv hn hb.2.1;simp-dsimp[go_sem,hN];refine gy ?_ ?_<;>intro hc<;>simp at hc
 ·have ib:SizeOf.sizeOf e.args[n]<SizeOf.sizeOf e:=Ex.arg_lt (c9 hc);rw[ji hc,uc]at uq mt;simp-dsimp[go_sem,hN,hc];refine it (xkx vars e.args[n] (d+1) (xjd hv _ (c9 hc)) _ m (by rw[a1];exact hm)) ?_;rintro r h' ⟨rfl,rfl⟩;simp-dsimp[go_sem,hN];refine gy ?_ ?_<;>intro h1<;>simp at h1
  ·simp-dsimp[go_sem,hN];rw[if_pos h1]at uq;simp only at uq;have ho:ofE vars e=(0,(ofE vars e.args[n]).2):=by rw[que vars e,if_neg h0,if_pos (by rw[uq];exact h1),uq]
   rw[ho];exact⟨_,.refl _,h,af,af,ae,aq,rfl,rfl⟩
  ·rw[if_neg av]at uq mt;simp only at uq mt;simp-dsimp[go_sem,hN,hw];refine⟨aa,hc,o++[(ofE vars e.args[n]).1],⟨⟨uq,fun h2=>by rw[mt h2];simp⟩,am⟩,?_⟩;exact(Wk.mk bi af bj qk2)
 rw[cv aa,uc]at uq mt;simp only at uq mt;have hI3:=mt uq;rw[e8]at hI3;have hoe:=que vars e;rw[if_neg h0,uq,if_neg ae,hI3]at hoe;have qt:=qez hv;simp-dsimp[go_sem,hN];refine gy ?_ ?_<;>intro h1<;>simp at h1
 ·rw[if_pos h1]at hoe;have h2:o.length=2:=by
   have:me e.op=2:=by unfold me;rw[if_neg aa,if_neg aa,if_neg aa]
   omega
  obtain⟨x,y,rfl⟩:∃x y,o=[x,y]:=by
   match o,h2 with
   | [x,y],_=>exact⟨x,y,rfl⟩
  simp at hoe;simp-dsimp[go_sem,hN];refine kf 13 mixed ac ac ?_;simp-dsimp[go_sem,hN,iw];refine ka (xy3 e.op x) ae ?_;simp-dsimp[go_sem,hN]
  repeat refine⟨ax,?_⟩
  refine gy (fun h3=>?_) (fun h3=>?_)
  ·simp-dsimp[go_sem,hN];rw[hoe,if_pos qjl];exact⟨_,.refl _,h,af,af,ae,aq,rfl,rfl⟩
  ·simp-dsimp[go_sem,hN];rw[hoe,if_neg qjl];exact⟨_,.refl _,h,af,af,ae,aq,rfl,rfl⟩
 rw[if_neg aa]at hoe;simp-dsimp[go_sem,hN];refine ia (jej e.op) ?_;simp-dsimp[go_sem,hN];refine jl o.length (fun n=>(o.drop n).all (fun t=>decide (t=(nh e.op).1))=o.all (fun t=>decide (t=(nh e.op).1))) (fun n=>⟨[(13,I (nh e.op).1),(14,I (nh e.op).2),(89,.slice (o.map iw)),(90,I o.length),(91,I n)],h⟩) ae ((qzr E _).trans ?_) ?_
 ·exact(Wk.mk bi af bj (by simp[go_sem];try omega))
 intro n hn hJ;have hw:=iv hn aa;simp-dsimp[go_sem,hN];refine gy ?_ ?_<;>intro hc<;>simp at hc
 ·rw[ji hc,qll]at hJ;simp-dsimp[go_sem,hN,hc,iw];refine gy ?_ ?_<;>intro h3<;>simp at h3
  ·simp-dsimp[go_sem,hN];rw[hoe,if_neg (by rw[←hJ];simp[h3])];exact⟨_,.refl _,h,af,af,ae,aq,rfl,rfl⟩
  ·simp-dsimp[go_sem,hN,hw];refine⟨hc,by simpa[h3]using hJ,?_⟩;exact(Wk.mk bi af bj (by simp[go_sem];try omega))
 ·rw[cv aa]at hJ;simp-dsimp[go_sem,hN];rw[hoe,if_pos (by rw[←hJ];rfl)];exact⟨_,.refl _,h,af,af,ae,aq,rfl,rfl⟩
termination_by SizeOf.sizeOf e
end Go.Proofs.YtbimdamecieomaaGreatDoor
