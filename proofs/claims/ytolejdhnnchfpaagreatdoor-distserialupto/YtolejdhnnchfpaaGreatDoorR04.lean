/- Part 4 of a proof. -/
import Derived.KernelRfl
import Derived.Test.YtolejdhnnchfpaaGreatDoorR03
set_option linter.all false
set_option maxRecDepth 100000
set_option maxHeartbeats 4000000
namespace Go.Abs
section
variable {P:Program} {E:Ent}
section
variable{h:mz}{w:World}{o:Oper}{i:Nat}{e e0:Env}{R:List DR}{X:Nat->Bool}{xs:List V}
def Wx{c:Ctx}{a:Act}(hs:HSim c h w)(k:E.ok c h w){f:Operand}{args:Array Operand}{ts:Array TypeId}(ho:o.op=.call { callee:=.value f,args:=args,argTypes:=ts })
  {g:Operand->V} (pq:∀x,x∈f::args.toList->Rel c (g x) (a.eval x)) {py:FuncId} {first pk:List V} (hf:g f=.fn (.func py) first pk) {R:AEnd->mz->Prop}
  (hc:ACalls P py (qu h (first++args.toList.map g++pk)) h R) {next:Act->World->Prop} {hu:Exit->Act->World->Prop}
  (fQ:∀v Y c' w' u,R (.ret v) Y->c.le c'->HSim c' Y w'->E.ok c' Y w'->Rel c' v u->next (a.put o.dst u) w') (Cb:∀v Y,¬R (.panic v) Y):o.wp P a w next hu:=by
 have bQ:=pq f Z;rw[hf]at bQ;obtain⟨us,vs,nZ,O,U⟩:∃us vs,a.eval f=.func (.func py) us vs/\RelL c first us/\RelL c pk vs:=by
  generalize a.eval f=hI at bQ;cases bQ with
  |data h=>cases h
  |fn f ys xs us vs w6 hl Y h=>exact⟨us,vs,rfl,⟨w6,Y⟩,⟨hl,h⟩⟩
 have sF:RelL c (args.toList.map g) (args.map a.eval):=RelL.map λx hx=>pq x be;have Ee:=(RelL.app (RelL.app O sF) U).norm hs;obtain⟨s1,k1⟩:=BE hs k;unfold Oper.wp;rw[Bc ho nZ hc.1];refine(hc.2 _ w _ s1 Ee).mono ?_;rintro en w' ⟨r,Y,c',hR,hE,o9,qh⟩;have nh:c.le c':=(BA c h w).trans qh.ext;have pg:E.ok c' Y w':=k1.trans qh;cases r with
 |ret v =>
  grind[EndR]
 |panic v=>exact(Cb v Y hR).elim
def NJ{om:Array Oper}{l:List Oper}(dD:om.toList=l){c:Ctx}{a:Act}(rU:∀j zh,o.guard=some (j,zh)->j<i)
  (G:∀t,t∈AF l o->Rel c (oz e.t t) (a.tmps.getD t undef)) {hr:Bool} (h:gB ((l.take i).map (·.dst)) e o.guard=some hr):Region.wanted o (yielded om a.tmps)=hr:=by
 unfold gB at h;unfold Region.wanted;split at h
 .grind
 rename_i j zh hg;simp only[hg];have aI:=rU j zh hg;split at h
 .rename_i t ht;have hj:(om[j]?).bind (·.dst)=some t:=W
  have uq:(l[j]?).bind (·.dst)=some t:=W
  have G:=G t (by grind[AF]);have hy:∀b,a.tmps.getD t undef=.bool b->yielded om a.tmps j=some b:=λb hb=>by
   unfold yielded;rw[hj];simp only[lw];simp only[jq]at hb;cases mH:a.tmps[t]? with
   |none=>rw[mH]at hb;simp[undef]at hb
   |some v=>rw[mH]at hb;simp at hb;subst hb;rfl
  split at h
  .rename_i b hb;rw[hb]at G;rw[hy b G.val_inv]
   simp_all
  .rename_i g b hb;rw[hb]at G;simp only[js]at h;cases g with
   |true =>
    have o6:Rel c (.val (.bool b)) (a.tmps.getD t undef):=by
     cases G with
     |data h=>cases h
     |opt g x v h hn=>exact h rfl
    rw[hy b o6.val_inv,<-h];grind
   |false =>
    have Q:a.tmps.getD t undef=undef:=by
     cases G with
     |data h=>cases h
     |opt g x v h hn=>exact hn rfl
    have:yielded om a.tmps j=none:=by
     unfold yielded;rw[hj];simp only[lw];simp only[jq]at Q;cases mH:a.tmps[t]? with
     |none=>rfl
     |some v=>rw[mH]at Q;simp at Q;subst Q;rfl
    grind
  .rename_i x hnb hb;rw[hb]at G;simp only[js]at h;have Q:a.tmps.getD t undef=undef:=by
    cases G with
    |data h=>cases h
    |opt g x v h hn=>exact hn rfl
   have:yielded om a.tmps j=none:=by
    unfold yielded;rw[hj];simp only[lw];simp only[jq]at Q;cases mH:a.tmps[t]? with
    |none=>rfl
    |some v=>rw[mH]at Q;simp at Q;subst Q;rfl
   grind
  cases h
 cases h
def AU{N:Nat}{ds:List (Option Tmp)}{K:DR->Prop}(h:cA P N ds o e K):iJ N o.dst/\∃r,r.dst=o.dst/\K r/\((∃i off cs,r.k=.store i off cs)->rE o.op=true):=by
 unfold cA at h;split at h
 .grind
 grind[rE]
def hX(R:List DR)(X:Nat->Bool)(h:mz):mz:=xy (zw X 0 R) (h++ud X 0 R)
structure DInv(E:Ent)(e0:Env)(R:List DR)(X:Nat->Bool)(c:Ctx)(a:Act)(w:World):Prop where
 defers:a.defers=[]
 size:a.tmps.size=E.N
 tmps:∀t,Rel c (bT X t 0 R (oz e0.t t)) (a.tmps.getD t undef)
 hs:HSim c (hX R X e0.h) w
 ok:E.ok c (hX R X e0.h) w
 nob:∀i r xs,R[i]?=some r->r.k=.fresh xs->X i=false->c.blk (e0.h.length+mN R i)=none
 fit:∀r,r∈zw X 0 R->∀i off cs,r.k=.store i off cs->∃xs,(e0.h++ud X 0 R)[i]?=some (.cells xs)/\off+cs.length<=xs.length
theorem Ue(R:List DR)(X:Nat->Bool)(h:mz):(hX R X h).length=h.length+(ud X 0 R).length:=by simp[qnw,hX]
def Qu:wZ (oj e0 (R.take i)).h (hX R X e0.h):=by
 intro j o hoa;have uh:∀xs,o≠AObj.cells xs:=λxs h=>by subst h;cases hoa
 have bL:o≠AObj.none:=λh=>by subst h;cases hoa
 rw[Bm];unfold hX;rw[HT _ _ _ _ uh];by_cases hj:j<e0.h.length
 .grind
 rw[gz J,gz J];constructor
 .grind[xE]
 intro h;obtain⟨i',r,xs,_,_,_,h4⟩:=xE _ _ _ _ h;grind
def qqs(j:Nat)(es:List (V×V)):(oj e0 (R.take i)).h[j]?=some (.map es)↔(hX R X e0.h)[j]?=some (.map es):=by
 rw[Bm];unfold hX;rw[HT _ _ _ _ Z];by_cases hj:j<e0.h.length
 .grind
 rw[gz J,gz J];constructor
 .grind[xE]
 intro h;obtain⟨i',r,xs,_,_,_,h4⟩:=xE _ _ _ _ h;grind
def Wc:MC (oj e0 (R.take i)).h (hX R X e0.h):=by
 intro j o ho;have uh:∀xs,o≠AObj.cells xs:=λxs h=>by subst h;cases ho
 rw[Bm];grind[HT,gz,xE,hX]
def Ww{c:Ctx}(s:HSim c h w)(k:E.ok c h w){n:Nat}(hn:h[n]?=some .none)(hb:c.blk n=none)(hE:E.h.length<=n){vs:Array Value}(T:TypeId)(hc:sN c xs vs) :
  ∃c',c.le c'/\HSim c' (h.set n (.cells xs)) (w.alloc (.cells vs T))/\E.ok c' (h.set n (.cells xs)) (w.alloc (.cells vs T))/\c'.blk n=some w.heap.size/\∀i,i≠n->c'.blk i=c.blk i:=by
 have hw:∀b,b<w.heap.size->(w.alloc (.cells vs T)).heap[b]?=w.heap[b]?:=λb hb=>jO w _ b hb;have s1:HSim c h (w.alloc (.cells vs T)):=s.ext hw (.refl c) (λ_ _=>rfl) (λ_ _ _ h=>.inl h) s.dom;have k1:E.ok c h (w.alloc (.cells vs T)):=k.ext' s hw (.refl c) (λ_=>rfl) rfl rfl rfl (sV w _) (λ_ _ _ h=>.inl h);have nh:c.le (c.addBlk n w.heap.size):=Ctx.addBlk_le hb;have y6:(c.addBlk n w.heap.size).blk n=some w.heap.size:=dw;have ni:n<h.length:=(gn.1 hn).1;have rM:∀b',ou (c.addBlk n w.heap.size) n (.cells xs)=some b'->b'=w.heap.size:=λb' nl=>by grind[ou,js]
 refine⟨_,nh,⟨s1.data,λi hi=>?_,λi o hi=>?_,λi j o o' b hi hj xl sU=>?_,λi o b j v hi xl hD=>?_⟩,⟨k.edom,k.ext.trans nh,λm hm=>by simp only[Ctx.addBlk];rw[gg J];exact k.blk0 m hm,bu,k1.os,k1.tape,k1.output,k1.size,k1.frame,λi o b hi xl=>?_,k1.dold⟩,y6,λi hi=>by simp[Ctx.addBlk,hi]⟩
 .have qj:h.length<=i:=qho;have:=s.dom i qj;refine⟨?_,this.2⟩;grind[Ctx.addBlk]
 .rcases tk hi with⟨rfl,rfl⟩|⟨nv,O⟩
  .exact⟨_,vs,T,y6,li w _,hc.1,λj x v hx hv=>⟨(hc.2 j x v hx hv).1.mono nh,(hc.2 j x v hx hv).2⟩⟩
  exact(s1.obj i o O).keep nh (λ_=>rfl) λ_ _=>rfl
 .rcases tk hi with⟨rfl,rfl⟩|⟨nv,O⟩<;>rcases tk hj with⟨h5,h6⟩|⟨hne',U⟩
  .omega
  .rw[(s1.obj j o' U).blk nh]at sU;have:=rM b xl;subst this;exact(s.fresh (gj _) j o' U sU).elim
  .subst h5;subst h6;rw[(s1.obj i o O).blk nh]at xl;have:=rM b sU;subst this;exact(s.fresh (gj _) i o O xl).elim
  rw[(s1.obj i o O).blk nh]at xl;rw[(s1.obj j o' U).blk nh]at sU;exact s.apart i j o o' b O U xl sU
 .rcases tk hi with⟨rfl,rfl⟩|⟨nv,O⟩
  .have:=rM b xl;subst this;have v7:c.D w.heap.size j=some v:=hD;rw[s.noD (gj _) j]at v7;cases v7
  rw[(s1.obj i o O).blk nh]at xl;exact s.sep i o b j v O xl hD
 rcases tk hi with⟨rfl,rfl⟩|⟨nv,O⟩
 .have:=rM b xl;subst this;exact .inr k.size
 rw[(s1.obj i o O).blk nh]at xl;exact k.newobj i o b O xl
def Ud{c:Ctx}(hs:HSim c h w)(k:E.ok c h w){ev:Operand->Value}{T:TypeId}{ad x:Operand}(p8:o.op=.store T ad x){off:Nat}{y:V}(dQ:Rel c (.ptr i off) (ev ad))(ss:Rel c y (ev x))
  (hi:h[i]?=some (.cells xs)) (pg:y.cellsOk=true) (p6:y.cells.length=oh P T) (hk:nj P T≠.other) (nh:off+y.cells.length<=xs.length) :
  ∃w',(execOp ev o).run P w=.ok .skip w'/\HSim c (h.set i (.cells (Bw xs off y.cells))) w'/\E.ok c (h.set i (.cells (Bw xs off y.cells))) w':=by
 obtain⟨b,lE,hb⟩:=As dQ;obtain⟨O,U⟩:=ss.cells pg;obtain⟨b',vs,T',g1,g2,g3,g4⟩:=hs.obj i _ hi;rw[hb]at g1;cases g1;obtain⟨iT,d,hI,t1,t2,t3,t4,t5,_⟩:=rk (P:=P) (t:=T) rfl hk;have tc:∀v,v∈(ev x).cells.toList->v.oneCell'=true:=λv hv=>by grind[iw]
 have pj:=qjp P b off T' (ev x).cells.toList 0 vs w g2 W tc;simp only[jt]at pj;have hsize:(ev x).cells.size=iT.size:=J;have r7:(execOp ev o).run P w=.ok .skip (w.setRow b (vs.toList.take off++(ev x).cells.toList++vs.toList.drop (off+(ev x).cells.toList.length)).toArray):=by exact Qcg
 have iA:sN c (Bw xs off y.cells) (vs.toList.take off++(ev x).cells.toList++vs.toList.drop (off+(ev x).cells.toList.length)).toArray:=by unfold Bw;have lX:(ev x).cells.toList.length=y.cells.length:=J;refine⟨qhg,λj y' v hy hv=>?_⟩;have fB:(vs.toList.take off++(ev x).cells.toList++vs.toList.drop (off+(ev x).cells.toList.length))[j]?=some v:=W;grind
 obtain⟨s',k'⟩:=Oa hs k hi hb g2 iA.1 iA.2;grind
theorem ZE{l:List DR}{n:Nat}{o:AObj}:∀{h:mz},(∀r,r∈l->∀off cs,r.k≠.store n off cs)->xy l (h.set n o)=(xy l h).set n o:=by
 induction l with
 |nil=>intro h _;rfl
 |cons r l ih =>
  intro h qz;rw[gN,kr,<-gN,gN (r::l),kr,<-gN];have O:dL r (h.set n o)=(dL r h).set n o:=by
   unfold dL;split
   .grind[gv,List.set_comm]
   rfl
  grind
theorem UT{j:Nat}{ri rj:DR}{xi xj:List V}(hi:R[i]?=some ri)(hj:R[j]?=some rj)(hki:ri.k=.fresh xi)(hkj:rj.k=.fresh xj)(h:mN R i=mN R j):i=j:=by have O:=CJ (X:=λm=>decide (m=i)) R 0 i ri xi hi hki;have U:=CJ (X:=λm=>decide (m=i)) R 0 j rj xj hj hkj;unfold mN at h;grind
def Fv{X:Nat->Bool}{r:DR}:∀{R:List DR} {k j:Nat},R[j]?=some r->X (k+j)=true->r∈zw X k R
 | [],_,_,h,_=>by simp at h
 |b::R,k,0,h,hX=>by simp at h;subst h;simp only[jt]at hX;simp[zw,hX]
 |b::R,k,j+1,h,hX=>by have:=Fv (X:=X) (R:=R) (k:=k+1) (j:=j) ej W;grind[zw]
end
end
section
variable {P:Program} {E:Ent}
section
variable{l:List Oper}{e0:Env}{R:List DR}
structure DRegW(l:List Oper)(R:List DR):Prop where
 ok:DrawOk l
 len:R.length=l.length
 dst:∀{k:Nat} {r:DR},R[k]?=some r->∃o,l[k]?=some o/\r.dst=o.dst/\((∃i off cs,r.k=.store i off cs)->rE o.op=true)
 sep:∀(k s:Nat) (r r':DR) (i off:Nat) (cs:List V),R[k]?=some r->r.k=.quiet (some i)->R[s]?=some r'->r'.k=.store i off cs->k<s/\zc (Region.before l.toArray) k s=true
structure DReg(P:Program)(E:Ent)(l:List Oper)(e0:Env)(R:List DR):Prop where
 ok:DrawOk l
 len:R.length=l.length
 step:∀(k:Nat) (o:Oper),l[k]?=some o->cA P E.N ((l.take k).map (·.dst)) o (oj e0 (R.take k)) (λr=>R[k]?=some r)
 sep:∀(k s:Nat) (r r':DR) (i off:Nat) (cs:List V),R[k]?=some r->r.k=.quiet (some i)->R[s]?=some r'->r'.k=.store i off cs->k<s/\zc (Region.before l.toArray) k s=true
def DReg.weak(d:DReg P E l e0 R):DRegW l R where
 ok:=d.ok
 len:=d.len
 sep:=d.sep
 dst:=λ{k r} G=>by
  have ni:k<l.length:=by rw[<-d.len];exact(gn.1 G).1
  obtain⟨_,r',O,U,h3⟩:=AU (d.step k l[k] ba);grind
def GU(d:DRegW l R)(hE0:E.h.length<=e0.h.length){X:Nat->Bool}(qn:iS l X){c:Ctx}{a:Act}{w:World}(inv:DInv E e0 R X c a w){i:Nat}{o:Oper}(hi:l[i]?=some o)(xg:X i=false)
  (yx:∀e,e∈o.after->Region.binds .any e=true->X e.on=true) (nA:cA P E.N ((l.take i).map (·.dst)) o (oj e0 (R.take i)) (λr=>R[i]?=some r)) {hu:Exit->Act->World->Prop} :
  wpOp P l.toArray hu i (λa' w'=>∃c',DInv E e0 R (λj=>if j=i then true else X j) c' a' w') a w:=by
 obtain⟨hdok,r,qG,G,hrs⟩:=AU nA;have hilt:i<l.length:=(gn.1 hi).1;have Av:∀t,t∈uU o.op.operands.toList++AF l o->Rel c (oz (oj e0 (R.take i)).t t) (a.tmps.getD t undef):=by
  intro t ht;have:=inv.tmps t;rw[Ck,Hq];rw[zU (h':=X)]
  .exact this
  intro j r' o6 hd;simp only[im,kg];obtain⟨o',qi,zn,_⟩:=d.dst o6;rw[zn]at hd;rcases d.ok.temps i o t j o' hi ht qi hd with rfl|gK
  .simp[xg]
  rcases qjs j i with h|h|h
  .exact Qcj
  .grind
  rw[lx (kb h),Nat.max_eq_right (kb h)]at gK;have hXj:X j=false:=by
   cases hX:X j with
   |false=>rfl
   |true=>have:=kW qn j i o' qi (qn j o' hX qi) gK;rw[xg]at this;cases this
  grind
 have dD:∀x,x∈o.op.operands.toList->Rel c ((oj e0 (R.take i)).get x) (a.eval x):=by
  intro x hx;cases x with
  |tmp t=>exact Av t (List.mem_append_left _ (by grind[uU]))
  |const v=>exact Lm c v
  |global g=>exact .top _
  |func f=>exact .fn _ [] [] #[] #[] rfl rfl Z Z
 have tL:∀h0:List Operand,(∀x,x∈h0->x∈o.op.operands.toList)->sn (oj e0 (R.take i)) true h0->∀x,x∈h0->Rel c ((oj e0 (R.take i)).getS x) (a.eval x):=λh0 hL nz x hx =>
  Cl (dD x (hL x hx)) (Gw nz x hx)
 have quiet:∀(c':Ctx) (w':World) (u:Value),(∃rd,r.k=.quiet rd)->c.le c'->HSim c' (hX R X e0.h) w'->E.ok c' (hX R X e0.h) w'->(∀n,c.blk n=none->n<(hX R X e0.h).length->c'.blk n=none)->Rel c' r.res u ->
   DInv E e0 R (λj=>if j=i then true else X j) c' (a.put o.dst u) w':=by
  rintro c' w' u ⟨rd,hk⟩ nh o9 zi y6 Q;have hh:hX R (λj=>if j=i then true else X j) e0.h=hX R X e0.h:=by unfold hX;have O:=Gn (X:=X) R 0 i r G (λxs=>by rw[hk];simp);have U:=Kd (X:=X) (R:=R) (k:=0) (i:=i) (r:=r) G W (.inl λa b cs=>by rw[hk];simp);simp only[im]at O U;grind[dL]
  refine⟨qg1,qgi,λt=>?_,by rw[hh];exact o9,by rw[hh];exact zi,λj rj xs hj kD hXj=>?_,λrj hrj i' off cs kD=>?_⟩
  .have O:=B9 (X:=X) (t:=t) (k:=0) (x:=oz e0.t t) G (λj r' o6 hd hn=>by
    obtain⟨o',qi,zn,_⟩:=d.dst o6;exact d.ok.uniq i o j o' hi qi W W)
   simp only[im]at O;rw[O];cases dU:o.dst with
   |none =>
    rw[qG,dU,gg Z];exact(inv.tmps t).mono nh
   |some dd =>
    have ni:dd<a.tmps.size:=qgc;rw[qG,dU];by_cases hdt:dd=t
    .subst hdt;rw[gh rfl];simpa[Act.put,ni]using Q
    exact Qck
  .have aI:j≠i:=λe=>by subst e;simp at hXj
   rw[gg aI]at hXj;refine y6 _ (inv.nob j rj xs hj kD hXj) ?_;rw[Ue];have O:=CJ (X:=X) R 0 j rj xs hj kD;grind[mN]
  obtain⟨j,O,U⟩:=yJ hrj;simp only[im]at U;by_cases aI:j=i
  .grind
  rw[gg aI]at U;have cB:rj∈zw X 0 R:=Fv O W;have s7:=Gn (X:=X) R 0 i r G (λxs=>by rw[hk];simp);simp only[im]at s7;rw[s7];exact inv.fit rj cB i' off cs kD
 have hG:=nA;unfold cA at hG;split at hG
 .grind
 rename_i hr hgB;obtain⟨_,hG⟩:=hG;have Cp:Region.wanted o (yielded l.toArray a.tmps)=hr:=NJ (l:=l) Z (i:=i) (λj zh hg=>d.ok.guard i o j zh hi hg) (λt ht=>Av t (List.mem_append_right _ ht)) hgB;have wb:(l.toArray)[i]?=some o:=W;have p6:l.toArray.size=l.length:=Z;have GP:∀n,c.blk n=none->n<(hX R X e0.h).length->c.blk n=none:=λ_ h _=>h;have Aj:∀(v:V),r.res=wo o.guard hr v->(∃rd,r.k=.quiet rd)->(hr=true->∃c' w' u,(execOp a.eval o).run P w=.ok (.value u) w'/\c.le c'/\HSim c' (hX R X e0.h) w'/\E.ok c' (hX R X e0.h) w'/\(∀n,c.blk n=none->n<(hX R X e0.h).length->c'.blk n=none)/\Rel c' v u) ->
   wpOp P l.toArray hu i (λa' w'=>∃c',DInv E e0 R (λj=>if j=i then true else X j) c' a' w') a w:=by
  intro v hv hk pj;unfold wpOp;simp only[wb];cases hGv:hr with
  |true =>
   rw[gh W];obtain⟨c',w',u,O,U,h3,h4,h5,h6⟩:=pj hGv;refine .inl (cL O ⟨c',quiet c' w' u hk U h3 h4 h5 ?_⟩);rw[hv,hGv];unfold wo;split
   .exact h6
   exact .opt _ _ _ (λ_=>h6) (λh=>by cases h)
  |false =>
   rw[gg W];refine⟨c,quiet c w undef hk (.refl c) inv.hs inv.ok GP ?_⟩;rw[hv,hGv];unfold wo;split
   .grind[gB,js]
   exact .opt _ _ _ (λh=>by cases h) (λ_=>rfl)
 have hgt:o.guard=none->hr=true:=λhg=>by rw[hg]at hgB;simpa[gB]using hgB.symm
 have nostore:∀j,(∀(s:Nat) (r':DR) (off:Nat) (cs:List V),R[s]?=some r'->r'.k=.store j off cs->zc (Region.before l.toArray) i s=true)->∀r',r'∈zw X 0 R->∀off cs,r'.k≠.store j off cs:=by intro j hs r' o6 off cs hk;obtain⟨s,O,U⟩:=yJ o6;rw[im]at U;obtain⟨o',qi,_⟩:=d.dst O;have:=kW qn s i o' qi (qn s o' U qi) (hs s r' off cs O hk);grind
 have made:∀(j off:Nat) (u:Value) (xs:List V),Rel c (.ptr j off) u->(oj e0 (R.take i)).h[j]?=some (.cells xs)->(e0.h++ud X 0 R)[j]?=some (.cells xs):=by
  intro j off u xs hp hj;rw[Bm]at hj;by_cases hjl:j<e0.h.length
  .grind
  rw[gz J]at hj;obtain⟨f,rf,ys,O,U,h3,h4⟩:=xE _ _ _ _ hj;simp only[lu,AObj.cells.injEq]at h4;subst h4;have hfi:f<i:=W;rw[jo,gh hfi]at O;rw[List.take_take,lx J]at h3;have hXf:X f=true:=by
   cases hX:X f with
   |true=>rfl
   |false =>
    have h5:=inv.nob f rf xs O U hX;grind[mN,As]
  have h6:=CJ (X:=X) R 0 f rf xs O U;grind
 have yW:wZ (oj e0 (R.take i)).h (hX R X e0.h):=Qu;have fresh:∀(xs:List V) (vs:Array Value) (T:TypeId),r=⟨o.dst,.ptr (oj e0 (R.take i)).h.length 0,.fresh xs⟩->o.guard=none->sN c xs vs->(execOp a.eval o).run P w=.ok (.value (.pointer (some ⟨w.heap.size,0,none⟩))) (w.alloc (.cells vs T)) ->
   wpOp P l.toArray hu i (λa' w'=>∃c',DInv E e0 R (λj=>if j=i then true else X j) c' a' w') a w:=by
  intro xs vs T hrv hg hc pj;have hn:(oj e0 (R.take i)).h.length=e0.h.length+mN R i:=by simp[Bm,mN]
  have hk:r.k=.fresh xs:=by rw[hrv]
  have HR:(e0.h++ud X 0 R)[e0.h.length+mN R i]?=some .none:=by
   rw[gz J,Nat.add_sub_cancel_left];have:=CJ (X:=X) R 0 i r xs G hk
   rwa [im,xg]at this
  have oT:(hX R X e0.h)[e0.h.length+mN R i]?=some .none:=(HT _ _ _ .none Z).2 HR;obtain⟨c',nh,s',k',hb,vh⟩:=Ww inv.hs inv.ok oT (inv.nob i r xs G hk xg) J T hc;have hnost:∀r',r'∈zw X 0 R->∀off cs,r'.k≠.store (e0.h.length+mN R i) off cs:=λr' o6 off cs qh=>by obtain⟨ys,O,_⟩:=inv.fit r' o6 _ off cs qh;grind
  have hF:=Lw (X:=X) R 0 i r xs G hk;rw[im]at hF;have hF':ud (λj=>if j=i then true else X j) 0 R=(ud X 0 R).set (mN R i) (.cells xs):=hF;have happ:e0.h++(ud X 0 R).set (mN R i) (.cells xs)=(e0.h++ud X 0 R).set (e0.h.length+mN R i) (.cells xs):=Z;have hh:hX R (λj=>if j=i then true else X j) e0.h=(hX R X e0.h).set (e0.h.length+mN R i) (.cells xs):=by unfold hX;have U:=Kd (X:=X) (R:=R) (k:=0) (i:=i) (r:=r) G W (.inl λa b cs=>by rw[hk];simp);rw[im]at U;grind[ZE,dL]
  unfold wpOp;simp only[wb];rw[gh W];refine .inl (cL pj ⟨c',⟨qg1,qgi,λt=>?_,by rw[hh];exact s',by rw[hh];exact k',λj rj ys hj kD hXj=>?_,λrj hrj i' off cs kD=>?_⟩⟩)
  .have O:=B9 (X:=X) (t:=t) (k:=0) (x:=oz e0.t t) G (λj r' o6 hd hn=>by
    obtain⟨o',qi,zn,_⟩:=d.dst o6;exact d.ok.uniq i o j o' hi qi W W)
   simp only[im]at O;rw[O];cases dU:o.dst with
   |none =>
    rw[qG,dU,gg Z];exact(inv.tmps t).mono nh
   |some dd =>
    have ni:dd<a.tmps.size:=qgc;rw[qG,dU];by_cases hdt:dd=t
    .subst hdt;rw[gh rfl,hrv];simp only[Act.put,jq,Array.getElem?_setIfInBounds_self_of_lt ni,l6];rw[hn];exact .ptr _ _ _ hb
    exact Qck
  .have aI:j≠i:=λe=>by subst e;simp at hXj
   rw[gg aI]at hXj;rw[vh _ λe=>aI (UT hj G kD hk J)];exact inv.nob j rj ys hj kD hXj
  obtain⟨j,O,U⟩:=yJ hrj;simp only[im]at U;by_cases aI:j=i
  .grind
  rw[gg aI]at U;obtain⟨zs,h3,h4⟩:=inv.fit rj (Fv O W) i' off cs kD;grind
 split at hG
 .
  rename_i x y hI p8;obtain⟨hp,o6⟩:=hG;rw[G]at o6;cases o6;refine Aj _ rfl ⟨_,rfl⟩ λkX=>?_;rw[kX]at hp;have m:=dD;rw[p8]at m;obtain⟨b,hb,pq⟩:=Ri (m x ay) (m y ay) (m hI ay) hp;exact⟨c,w,_,by simp only[execOp,p8,hb,asBool,iu,je,iv],.refl c,inv.hs,inv.ok,GP,pq⟩
 .
  rename_i T x p8;obtain⟨hg,nz,pg,o6⟩:=hG;rw[G]at o6;have pq:=tL [x] dh nz x Z;exact fresh _ _ T W hg (pq.cells pg) qf7
 .
  rename_i T p8;obtain⟨hg,hk,o6⟩:=hG;rw[G]at o6;obtain⟨iT,dT,hI,O,U,h3,h4,h5,h6,h7,h8⟩:=rk (P:=P) (t:=T) rfl hk;rw[h6]at o6;have iH:(zeroValue T).run P w=.ok hI w:=qfy;exact fresh _ _ T W hg (GX c h8) qf5
 .
  rename_i T ad x p8;obtain⟨hg,hdn,nz,vd,pg,bS,hG⟩:=hG;split at hG
  .rename_i j off had;split at hG
   .rename_i xs hj;obtain⟨hle',o6⟩:=hG;rw[G]at o6;simp only[js]at o6;have hk:r.k=.store j off ((oj e0 (R.take i)).getS x).cells:=by rw[o6]
    have dQ:=tL [ad,x] dh nz ad Z;have ss:=tL [ad,x] dh nz x Z;rw[had]at dQ;have HR:=made j off _ xs dQ hj;obtain⟨ys,hy,hyl⟩:=qqq (l:=zw X 0 R) (λr' o6 i' off' cs qh zs hz=>by obtain⟨us,g1,g2⟩:=inv.fit r' o6 i' off' cs qh;rw[hz]at g1;cases g1;exact g2) HR
    obtain⟨w',pj,s',k'⟩:=Ud (E:=E) inv.hs inv.ok p8 dQ ss hy pg bS vd J;have hF:=Gn (X:=X) R 0 i r G (λxs=>by rw[hk];simp);rw[im]at hF;have r7:rE o.op=true:=W;have U:=Kd (X:=X) (R:=R) (k:=0) (i:=i) (r:=r) G W (.inr λm r' hm tD hXm b1 b2 b3 hkm=>by rw[im]at hXm;obtain⟨o',qi,_,hst'⟩:=d.dst hm;have:=kW qn m i o' qi (qn m o' hXm qi) (d.ok.stores i o m o' hi qi tD r7 (hst' ⟨b1,b2,b3,hkm⟩));rw[xg]at this;cases this)
    rw[im]at U;have hh:hX R (λj=>if j=i then true else X j) e0.h=(hX R X e0.h).set j (.cells (Bw ys off ((oj e0 (R.take i)).getS x).cells)):=by have hy':(hX R X e0.h)[j]?=some (.cells ys):=hy;show xy _ _=_;rw[hF,U];show dL r (hX R X e0.h)=_;grind[dL]
    unfold wpOp;simp only[wb];rw[gh W];refine .inl (D8 pj ⟨c,⟨by rw[hdn];exact inv.defers,by rw[hdn];exact inv.size,λt=>?_,by rw[hh];exact s',by rw[hh];exact k',λm rm zs hm hmk hXm=>?_,λrm hrm i' off' cs hmk=>?_⟩⟩)
    .have O:=B9 (X:=X) (t:=t) (k:=0) (x:=oz e0.t t) G (λm r' o6 hd hn=>by
      rw[qG,hdn]at hn;exact(hn rfl).elim)
     simp only[im]at O;rw[O,qG,hdn,gg Z];exact inv.tmps t
    .have hmi:m≠i:=λe=>by subst e;simp at hXm
     rw[gg hmi]at hXm;exact inv.nob m rm zs hm hmk hXm
    obtain⟨m,h3,h4⟩:=yJ hrm;simp only[im]at h4;rw[hF];by_cases hmi:m=i
    .grind
    rw[gg hmi]at h4;exact inv.fit rm (Fv h3 W) i' off' cs hmk
   grind
  grind
 .
  rename_i T n parts p8;split at hG
  .rename_i el sz hk;split at hG
   .rename_i S Al;obtain⟨hg,nz,hn,hpos,fK,vd,bS,o6⟩:=hG;rw[G]at o6;cases o6;refine Aj (.slice S) rfl ⟨_,rfl⟩ λkX=>?_;have pq:=tL (parts.toList.map (·.2)) dh nz
    rw[O8 yW]at Al;obtain⟨v,w',c',pj,nh,s',k',o6⟩:=R9 (P:=P) (E:=⟨E.N,c,hX R X e0.h,w⟩) inv.hs (Ent.ok.refl _ inv.hs) hk (parts:=parts.toList.map λp=>(p.1,(oj e0 (R.take i)).getS p.2)) (qs:=parts.map λp=>(p.1,a.eval p.2)) Z (λj p q hp hq=>by simp only[ja,iy]at hp;obtain⟨x,hx,rfl⟩:=hp;simp only[mg,iy]at hq;obtain⟨y,hy,rfl⟩:=hq;have:x=y:=W;subst this;exact⟨rfl,pq x.2 (ig.2 ⟨x,gw hx,rfl⟩)⟩) Al hn hpos fK vd bS
    exact⟨c',w',v,bs,nh,s',inv.ok.trans k',λn O U=>by rw[k'.blk0 n U];exact O,o6⟩
   split at hG
   .rename_i cs su;obtain⟨hg,nz,hpos,fK,vd,bS,o6⟩:=hG;rw[G]at o6;cases o6;refine Aj (.lit cs) rfl ⟨_,rfl⟩ λkX=>?_;have pq:=tL (parts.toList.map (·.2)) dh nz
    obtain⟨v,w',c',pj,nh,s',k',o6⟩:=Su (P:=P) (E:=⟨E.N,c,hX R X e0.h,w⟩) inv.hs (Ent.ok.refl _ inv.hs) hk (parts:=parts.toList.map λp=>(p.1,(oj e0 (R.take i)).getS p.2)) (qs:=parts.map λp=>(p.1,a.eval p.2)) Z (λj p q hp hq=>by simp only[ja,iy]at hp;obtain⟨x,hx,rfl⟩:=hp;simp only[mg,iy]at hq;obtain⟨y,hy,rfl⟩:=hq;have:x=y:=W;subst this;exact⟨rfl,pq x.2 (ig.2 ⟨x,gw hx,rfl⟩)⟩) su hpos fK vd bS
    exact⟨c',w',v,bs,nh,s',inv.ok.trans k',λn O U=>by rw[k'.blk0 n U];exact O,o6⟩
   grind
  grind
 .
  rename_i f args ts p8;split at hG
  .rename_i py first pk hf
   obtain⟨rv,hp,o6⟩:=hG;rw[G]at o6;cases o6;unfold wpOp;simp only[wb];cases hGv:hr with
   |true =>
    rw[gh W];obtain⟨nz,hp⟩:=hp hGv;have pq:=tL (f::args.toList) (by rw[p8];simp[Op.operands,Call.operands]) nz;rw[Ht yW]at hp;refine .inl (Wx (E:=⟨E.N,c,hX R X e0.h,w⟩) inv.hs (Ent.ok.refl _ inv.hs) p8 pq hf (hp _ Wc) (λv Y c' w' u hR nh o9 qh iW=>?_) (λv Y hR=>by cases hR.1));obtain⟨O,rfl⟩:=hR;cases O;refine⟨c',quiet c' w' u ⟨_,rfl⟩ nh o9 (inv.ok.trans qh) (λn O U=>by rw[qh.blk0 n U];exact O) ?_⟩;show Rel c' (wo o.guard hr rv) u;rw[hGv];unfold wo;split
    .exact iW
    exact .opt _ _ _ (λ_=>iW) (λh=>by cases h)
   |false =>
    rw[gg W];refine⟨c,quiet c w undef ⟨_,rfl⟩ (.refl c) inv.hs inv.ok GP ?_⟩;show Rel c (wo o.guard hr rv) undef;rw[hGv];unfold wo;split
    .grind
    exact .opt _ _ _ (λh=>by cases h) (λ_=>rfl)
  grind
 .
  rename_i op qd rh hb3 hb4 hb5 hb6;obtain⟨nq,o6⟩:=hG;rw[G]at o6;cases o6;refine Aj _ rfl ⟨_,rfl⟩ λkX=>?_;obtain⟨nz,hs⟩:=nq kX;have pq:=tL _ (λx hx=>hx) nz;have Bj:wx P (oj e0 (R.take i)).getS (oj e0 (R.take i)).h o.op=wx P (oj e0 (R.take i)).getS (hX R X e0.h) o.op:=TE Qu (λj hj=>by
   obtain⟨t,ad,off,p8,had⟩:∃t ad off,o.op=.load t ad/\(oj e0 (R.take i)).getS ad=.ptr j off:=by
    revert hj
    unfold A7;grind
   have zy:=hs;rw[p8]at zy;simp only[wx,zS,had]at zy;split at zy
   .rename_i xs qT;have hp:=pq ad dh;rw[had]at hp;have O:=made j off _ xs hp qT;have qz:=nostore j λs r' off cs hs hk=>(d.sep i s _ r' j off cs G W hs hk).2;rw[qT];grind[Tf,hX]
   exact zy.elim) qqs
  rw[Bj]at hs|-;obtain⟨v,O,U⟩:=Gx inv.hs pq hs;exact⟨c,w,v,O,.refl c,inv.hs,inv.ok,GP,U⟩
end
end
section
variable {P:Program} {E:Ent}
section
variable{w:World}{l:List Oper}{e0 e:Env}{R:List DR}{h0:Array Bool}{i m N:Nat}{o:Oper}{hu:Exit->Act->World->Prop}{ds:List (Option Tmp)}
theorem NE{X h':Nat->Bool}:∀{R:List DR} {k:Nat},(∀j,j<R.length->X (k+j)=h' (k+j))->ud X k R=ud h' k R
 | [],_,_=>rfl
 |r::R,k,h=>by
  have O:=NE (X:=X) (h':=h') (R:=R) (k:=k+1) λj hj=>by have:=h (j+1) W;rwa [show k+(j+1)=k+1+j from by omega]at this
  have U:=h 0 Z
  simp_all[jt,ud]
theorem OS{X h':Nat->Bool}:∀{R:List DR} {k:Nat},(∀j,j<R.length->X (k+j)=h' (k+j))->zw X k R=zw h' k R
 | [],_,_=>rfl
 |r::R,k,h=>by
  have O:=OS (X:=X) (h':=h') (R:=R) (k:=k+1) λj hj=>by have:=h (j+1) W;rwa [show k+(j+1)=k+1+j from by omega]at this
  have U:=h 0 Z
  simp_all[jt,zw]
theorem PZ:∀{R:List DR} {k:Nat},zw (λ_=>true) k R=R
 | [],_=>rfl
 |r::R,k=>by simp only[zw,lu,PZ]
theorem ID:∀{R:List DR} {k:Nat},zw (λ_=>false) k R=[]
 | [],_=>rfl
 |r::R,k=>by simp only[zw,lh,ID]
def HSim.nones{c:Ctx}{h:mz}(s:HSim c h w){l:mz}(hl:∀o,o∈l->o=.none):HSim c (h++l) w:=by
 have AL:∀i o,(h++l)[i]?=some o->h[i]?=some o\/o=AObj.none:=λi o hi=>by
  by_cases ni:i<h.length
  .rw[gu ni]at hi;exact .inl hi
  rw[gz J]at hi;exact .inr (hl o (gw hi))
 refine⟨s.data,λi hi=>s.dom i W,λi o hi=>?_,λi j o o' b hi hj xl sU=>?_,λi o b j v hi xl hD=>?_⟩
 .rcases AL i o hi with O|rfl
  .exact s.obj i o O
  trivial
 .rcases AL i o hi with O|rfl
  .rcases AL j o' hj with U|rfl
   .exact s.apart i j o o' b O U xl sU
   cases sU
  cases xl
 rcases AL i o hi with O|rfl
 .exact s.sep i o b j v O xl hD
 cases xl
def Ent.ok.nones{c:Ctx}{h:mz}(k:E.ok c h w){l:mz}(hl:∀o,o∈l->o=.none):E.ok c (h++l) w:=by
 refine⟨k.edom,k.ext,k.blk0,ck,k.os,k.tape,k.output,k.size,k.frame,λi o b hi hb=>?_,k.dold⟩;by_cases ni:i<h.length
 .rw[gu ni]at hi;exact k.newobj i o b hi hb
 rw[gz J]at hi;have:=hl o (gw hi);subst this;cases hb
def Fz{c:Ctx}{a:Act}(s:Sim E.N c e0 a w)(k:E.ok c e0.h w):DInv E e0 R (λ_=>false) c a w:=by
 have hn:∀o,o∈ud (λ_=>false) 0 R->o=.none:=λo ho=>by grind[iw,xE]
 have hh:hX R (λ_=>false) e0.h=e0.h++ud (λ_=>false) 0 R:=by unfold hX;rw[ID];rfl
 refine⟨s.defers,s.size,λt=>?_,by rw[hh];exact s.hs.nones hn,by rw[hh];exact k.nones hn,λi r xs _ _ _=>(s.hs.dom _ J).1,λr G=>?_⟩
 .rw[CV (λj r _ h=>by cases h)];exact s.tmps t
 grind[ID]
def Fk(d:DReg P E l e0 R){X:Nat->Bool}(nz:∀j,j<l.length->X j=true){c:Ctx}{a:Act}(inv:DInv E e0 R X c a w) :
  Sim E.N c ⟨(oj e0 R).t,xy R (oj e0 R).h⟩ a w/\E.ok c (xy R (oj e0 R).h) w:=by
 have O:∀j,j<R.length->X (0+j)=(λ_=>true) (0+j):=λj hj=>by rw[im];exact nz j (by rw[<-d.len];exact hj)
 have hh:hX R X e0.h=xy R (oj e0 R).h:=by unfold hX;rw[OS (h':=λ_=>true) O,PZ,NE (h':=λ_=>true) O,Bm]
 refine⟨⟨inv.defers,inv.size,λt=>?_,by rw[<-hh];exact inv.hs⟩,by rw[<-hh];exact inv.ok⟩;have:=inv.tmps t;grind[zU,Ck]
def B4(h:i∈Region.ready .any l.toArray h0):∃o,l[i]?=some o/\h0.getD i true=false/\∀e,e∈o.after->Region.binds .any e=true->h0.getD e.on false=true:=by simp only[Region.ready,kl,qil,gy,mh]at h;grind[qj2]
def qvq(hd:DrawOk l)(hL:h0.size=l.length)(h:Region.ready .any l.toArray h0=[]):∀i,i<l.length->h0.getD i false=true:=by
 intro i
 induction i using Nat.strongRecOn with
 |_ i ih =>
  intro hi;cases hv:h0.getD i false with
  |true=>rfl
  |false =>
   have hg:l[i]?=some l[i]:=fu;have hm:i∈Region.ready .any l.toArray h0:=by
    simp only[Region.ready,kl,qil,gy,mh];refine⟨qho,?_,?_⟩
    .grind
    have pa:(l.toArray)[i]?=some l[i]:=fu;rw[pa];simp only[kn,l6,qj2];intro e he;cases hb:Region.binds .any e with
    |false=>rfl
    |true =>
     have ni:=hd.after i l[i] hg e he hb;grind
   grind
def tH(m:Nat)(l:List Oper):Bool :=
 let b:=Region.before l.toArray
 (l.zipIdx.all λp=>p.1.after.all λe=>!Region.binds .any e||e.on<p.2) &&
 ((List.range l.length).all λi=>decide (i<m)||(List.range i).all λj=>zc b j i)
structure TailOk(m:Nat)(l:List Oper):Prop where
 after:∀(j:Nat) (o:Oper),l[j]?=some o->∀e,e∈o.after->Region.binds .any e=true->e.on<j
 ord:∀i j,m<=i->i<l.length->j<i->zc (Region.before l.toArray) j i=true
def D7(h:tH m l=true):TailOk m l:=by
 simp only[tH,gy,jk]at h;obtain⟨O,U⟩:=h;refine⟨λj o hj e he hb=>?_,λi j hi ni hj=>?_⟩
 .have:=O (o,j) (xH hj);grind[qj2]
 have:=U i W;grind
def En(hd:∀(j:Nat) (o:Oper),l[j]?=some o->∀e,e∈o.after->Region.binds .any e=true->e.on<j)(hL:h0.size=l.length)(hi:i<l.length)(hv:h0.getD i false=false)
  (hmin:∀j,j<i->h0.getD j false=true):i∈Region.ready .any l.toArray h0:=by
 have hg:l[i]?=some l[i]:=fu;simp only[Region.ready,kl,qil,gy,mh];grind
def Aw{p:Nat->Bool}{n:Nat}(h:¬ ∀j,j<n->p j=true):∃i,i<n/\p i=false/\∀j,j<i->p j=true:=by
 induction n with
 |zero=>exact(h λj hj=>by omega).elim
 |succ n ih =>
  by_cases O:∀j,j<n->p j=true
  .grind
  grind
theorem uQ(ni:i<h0.size):(λj=>if j=i then true else h0.getD j false)=λj=>(h0.setIfInBounds i true).getD j false:=by
 funext j;by_cases hj:j=i
 .simp_all
 rw[gg hj];simp[jq,qim (Ne.symm hj)]
theorem DY(ni:i<h0.size)(hLi:h0.getD i false=false):(h0.setIfInBounds i true).toList.count false+1=h0.toList.count false:=by have hLi':h0[i]=false:=cy;have eX:(h0.setIfInBounds i true).toList=h0.toList.set i true:=Z;grind
theorem E5(ni:i<h0.size)(hLi:h0.getD i false=false):0<h0.toList.count false:=by grind[DY]
def FJ(ni:i<h0.size)(ho:l[i]?=some o)(h3:∀e,e∈o.after->Region.binds .any e=true->h0.getD e.on false=true)(qn:iS l λj=>h0.getD j false):iS l λj=>(h0.setIfInBounds i true).getD j false:=λj o' hj qi e he hb=>by
 rw[<-uQ ni]at hj|-;by_cases aI:j=i
 .grind
 have uq:h0.getD j false=true:=by simpa[gg aI]using hj
 have:h0.getD e.on false=true:=qn j o' uq qi e he hb;grind
def Ca(t:TailOk m l):∀(qm k:Nat) (h0:Array Bool),m<=k->k<=l.length->h0.size=l.length->(∀j,j<l.length->(h0.getD j false=true↔j<k))->l.length - k<=qm ->
  ∀(a:Act) (w:World),wpList P l.toArray hu (l.drop k) a w->wpAny P .any l.toArray hu qm h0 a w:=by
 intro qm;have hnil:∀(k:Nat) (h0:Array Bool),k<l.length->h0.size=l.length->(∀j,j<l.length->(h0.getD j false=true↔j<k))->Region.ready .any l.toArray h0≠[]:=λk h0 hk hL hj he=>by have:=En t.after hL hk W (λj kD=>(hj j J).2 kD);rw[he]at this;cases this
 have hfull:∀(h0:Array Bool),h0.size=l.length->(∀j,j<l.length->(h0.getD j false=true↔j<l.length))->Region.ready .any l.toArray h0=[]:=λh0 hL hj=>by
  cases G:Region.ready .any l.toArray h0 with
  |nil=>rfl
  |cons i rest =>
   obtain⟨o,O,U,_⟩:=B4 (l:=l) (h0:=h0) (i:=i) W;grind
 induction qm with
 |zero =>
  intro k h0 hm hk hL hj hf a w h;have hkn:k=l.length:=J;subst hkn;refine⟨hfull h0 hL hj,?_⟩;simpa[wpList]using h
 |succ qm ih =>
  intro k h0 hm hk hL hj hf a w h;refine⟨λG=>?_,λi hi=>?_⟩
  .rcases jz k l.length with O|O
   .grind
   have hkn:k=l.length:=J;subst hkn;simpa[wpList]using h
  obtain⟨o,O,U,h3⟩:=B4 hi;have ni:i<l.length:=(gn.1 O).1;have hLi:h0.getD i false=false:=W;have hki:k<=i:=W;have hik:i=k:=by
   rcases jz k i with h4|h4
   .have qn:iS l λj=>h0.getD j false:=λj o' hjt qi e he hb=>by
     have hjl:=(gn.1 qi).1;have h5:=(hj j hjl).1 hjt;have h6:=t.after j o' qi e he hb;grind
    have:=kW qn i k o O h3 (t.ord i k J ni h4);grind
   omega
  subst hik;have hdrop:l.drop i=o::l.drop (i+1):=by grind[qiv]
  rw[hdrop]at h;have wb:(l.toArray)[i]?=some o:=W;have rY:wpOp P l.toArray hu i (wpList P l.toArray hu (l.drop (i+1))) a w:=by unfold wpOp;simp only[wb];exact h
  refine wpOp_mono (λa' w' Y=>ih (i+1) _ J J W (λj hjl=>?_) J a' w' Y) rY;have hf:=congrFun (uQ (h0:=h0) (i:=i) J) j;rw[<-hf];grind
def FL(hi:i<m)(hg:∀o j zh,l[i]?=some o->o.guard=some (j,zh)->j<m){K:Act->World->Prop}{a:Act}(h:wpOp P (l.take m).toArray hu i K a w):wpOp P l.toArray hu i K a w:=by
 unfold wpOp at *;have he:(l.take m).toArray[i]?=l.toArray[i]?:=fu;rw[he]at h;cases ho:l.toArray[i]? with
 |none=>rw[ho]at h;exact h
 |some o =>
  rw[ho]at h;simp only at h|-;have hw:Region.wanted o (yielded (l.take m).toArray a.tmps)=Region.wanted o (yielded l.toArray a.tmps):=by
   unfold Region.wanted;split
   .rfl
   rename_i j zh hgd;have hj:=hg o j zh W hgd;have:yielded (l.take m).toArray a.tmps j=yielded l.toArray a.tmps j:=by unfold yielded;simp[hj]
   rw[this]
  grind
def PT(hm:m<=l.length)(t:TailOk m l)(d:DReg P E (l.take m) e0 R)(hE0:E.h.length<=e0.h.length)
  (hQ:∀c a w,Sim E.N c ⟨(oj e0 R).t,xy R (oj e0 R).h⟩ a w->E.ok c (xy R (oj e0 R).h) w->wpList P l.toArray hu (l.drop m) a w) :
  ∀(qm:Nat) (h0:Array Bool),h0.size=l.length->(∀j,m<=j->h0.getD j false=false)->h0.toList.count false<=qm->iS l (λj=>h0.getD j false)->∀(c:Ctx) (a:Act) (w:World),DInv E e0 R (λj=>h0.getD j false) c a w->wpAny P .any l.toArray hu qm h0 a w:=by
 intro qm;have oy:(l.take m).length=m:=au;have uF:∀(h0:Array Bool),(∀j,m<=j->h0.getD j false=false)->(∀j,j<m->h0.getD j false=true)->∀j,j<l.length->(h0.getD j false=true↔j<m):=λh0 u0 nz j _=>by grind
 have uX:∀(k:Nat) (h0:Array Bool),h0.size=l.length->(∀j,k<=j->h0.getD j false=false)->k<=l.length->l.length - k<=h0.toList.count false:=λk h0 hL hk hkl=>by
  have O:(h0.toList.drop k).count false=l.length - k:=by
   have U:(h0.toList.drop k).count false=(h0.toList.drop k).length:=List.count_eq_length.2 λb hb=>by
    obtain⟨j,hj⟩:=iw hb;rw[kj]at hj;have:=hk (k+j) J
    simp_all
   grind
  grind[qj3]
 induction qm with
 |zero =>
  intro h0 hL u0 hc qn c a w inv;by_cases nz:∀j,j<m->h0.getD j false=true
  .obtain⟨s,k⟩:=Fk d (λj hj=>nz j J) inv;have:=uX m h0 hL u0 hm;exact Ca t 0 m h0 (gj _) hm hL (uF h0 u0 nz) J a w (hQ c a w s k)
  exact Qcl
 |succ qm ih =>
  intro h0 hL u0 hc qn c a w inv;by_cases nz:∀j,j<m->h0.getD j false=true
  .obtain⟨s,k⟩:=Fk d (λj hj=>nz j J) inv;have:=uX m h0 hL u0 hm;exact Ca t (qm+1) m h0 (gj _) hm hL (uF h0 u0 nz) J a w (hQ c a w s k)
  obtain⟨i0,g1,g2,g3⟩:=Aw nz;refine⟨λG=>?_,λi hi=>?_⟩
  .exact Qcm
  obtain⟨o,O,U,h3⟩:=B4 hi;have ni:i<h0.size:=W;have hLi:h0.getD i false=false:=W;have tD:i<m:=by
   rcases jz i m with h4|h4
   .exact h4
   exact Qcn
  have s7:(l.take m)[i]?=some o:=W;have Bh:iS (l.take m) λj=>h0.getD j false:=λj o' hj qi e he hb=>by exact Qco
  refine FL tD (λo' j zh qi hg=>?_) (wpOp_mono ?_ (GU (hu:=hu) d.weak hE0 Bh inv s7 hLi h3 (d.step i o s7)))
  .rw[O]at qi;cases qi;have:=d.ok.guard i o j zh s7 hg;omega
  rintro a' w' ⟨c',inv'⟩;rw[uQ ni]at inv';refine ih _ W (λj hj=>?_) ?_ (FJ ni O h3 qn) c' a' w' inv'
  .exact Qcp
  grind[DY]
theorem K5{P:Program}{K K':DR->Prop}(h:cA P N ds o e K)(hk:∀r,K r->K' r):cA P N ds o e K':=by
 obtain⟨r,O,U⟩:=IT h;obtain⟨dst,op,ty,nk,after,guard⟩:=o;unfold cA at h|-;split at h
 .omega
 rename_i hr hG;simp only[hG];obtain⟨hd,h⟩:=h;refine⟨hd,?_⟩;cases op with
 |pick x y hI=>exact⟨h.1,hk _ h.2⟩
 |box t x=>exact⟨h.1,h.2.1,h.2.2.1,hk _ h.2.2.2⟩
 |alloc T=>exact⟨h.1,h.2.1,hk _ h.2.2⟩
 |store T a x =>
  grind
 |buildSlice T n parts =>
  simp only at h|-;split at h
  .grind
  omega
 |call cl =>
  obtain⟨callee,args,ats⟩:=cl;cases callee with
  |value f =>
   grind
  |_=>exact⟨h.1,hk _ h.2⟩
 |_=>exact⟨h.1,hk _ h.2⟩
def ww(b:Array Nat)(R:List DR):Prop :=
 (R.zipIdx.all λp=>match p.1.k with
  | .quiet (some i)=>R.zipIdx.all λq=>match q.1.k with
   | .store j _ _=>j != i||(decide (p.2<q.2)&&zc b p.2 q.2)
   |_=>true
  |_=>true)=true
def Ss{id:Nat}(m:Nat){hu:AExit->Env->Prop}(hm:P.follows .mixedOrders=true)(hB:(decide (m<=l.length)&&uS (l.take m)&&tH m l)=true)
  (h:mO P E.N [] (l.take m) e [] λR e1=>ww (Region.before (l.take m).toArray) R/\vZ P E l.toArray (l.drop m) hu ⟨e1.t,xy R e1.h⟩):AWp P E (.region id l.toArray true) hu e:=λc a w s k=>by
 obtain⟨R,oy,nA,sB,hQ⟩:=Bv h;simp only[ke]at sB hQ;simp only[gy,jm]at hB;obtain⟨⟨zg,hB⟩,hT⟩:=hB;have d:DReg P E (l.take m) e R:=⟨Ct hB,oy,λk o ho=>by simpa using nA k o ho,λk s r r' i off cs G hk hs hks=>by simp only[ww,jk]at sB;have:=sB (r,k) W;simp only[hk,jk]at this;have:=this (r',s) W;simpa[hks]using this⟩
 refine wp_region_any hm ?_;have o9:HSim c e.h { w with drawn:=w.drawn+1 }:=s.hs.ext (λ_ _=>rfl) (.refl c) (λ_ _=>rfl) (λ_ _ _ h=>.inl h) s.hs.dom;have qh:E.ok c e.h { w with drawn:=w.drawn+1 }:=k.ext' s.hs (λ_ _=>rfl) (.refl c) (λ_=>rfl) rfl rfl rfl (gj _) (λ_ _ _ h=>.inl h);have cK:(λ_=>false)=λj=>(Array.replicate l.toArray.size false).getD j false:=by exact Qcq
 refine PT zg (D7 hT) d k.len (λc' a' w' s' k'=>?_) _ _ Z (λj _=>(congrFun cK j).symm) ?_ ?_ c a _ ?_
 .exact hQ c' a' w' s' k'
 .simp
 .exact Qcr
 exact Qcs
def QR{P:Program}{nw:List DR}{K K':List DR->Env->Prop}(h:mO P N ds l e nw K)(hk:∀R e,K R e->K' R e):mO P N ds l e nw K':=by
 induction l generalizing ds e nw with
 |nil=>exact hk _ _ h
 |cons o l ih =>
  grind[mO,K5]
end
end
section
variable {P:Program} {E:Ent}
theorem Ia{X:Nat->Bool}:∀{R:List DR} {k:Nat},(∀r,r∈R->∃rd,r.k=.quiet rd)->ud X k R=[]
 | [],_,_=>rfl
 |r::R,k,h=>by obtain⟨rd,hk⟩:=h r Z;simp only[ud,hk];exact Ia λr' G=>h r' fb
def N7:∀{R:List DR} {h:mz},(∀r,r∈R->∃rd,r.k=.quiet rd)->xy R h=h
 | [],_,_=>rfl
 |r::R,h,hq=>by obtain⟨rd,hk⟩:=hq r Z;simp only[xy,hk];exact N7 λr' G=>hq r' fb
theorem DH{R:List DR}{X:Nat->Bool}{h:mz}(hq:∀r,r∈R->∃rd,r.k=.quiet rd):hX R X h=h:=by unfold hX;rw[Ia hq,jv];refine N7 λr G=>?_;obtain⟨j,hj,_⟩:=yJ G;exact hq r (gw hj)
def qqp{l:List Oper}{R:List DR}(d:DRegW l R){X:Nat->Bool}(qn:iS l X){c:Ctx}{a:Act}{e0:Env}(htm:∀t,Rel c (bT X t 0 R (oz e0.t t)) (a.tmps.getD t undef)){i:Nat}{o:Oper}(hi:l[i]?=some o)(xg:X i=false)
  (yx:∀e,e∈o.after->Region.binds .any e=true->X e.on=true):∀t,t∈uU o.op.operands.toList++AF l o->Rel c (oz (oj e0 (R.take i)).t t) (a.tmps.getD t undef):=by
 intro t ht;have:=htm t;rw[Ck,Hq];rw[zU (h':=X)]
 .exact this
 intro j r' o6 hd;simp only[im,kg];obtain⟨o',qi,zn,_⟩:=d.dst o6;rw[zn]at hd;rcases d.ok.temps i o t j o' hi ht qi hd with rfl|gK
 .simp[xg]
 rcases qjs j i with h|h|h
 .exact Qcj
 .grind
 rw[lx (kb h),Nat.max_eq_right (kb h)]at gK;have hXj:X j=false:=by
  cases hX:X j with
  |false=>rfl
  |true=>have:=kW qn j i o' qi (qn j o' hX qi) gK;rw[xg]at this;cases this
 rw[hXj,decide_eq_false J]
def mS(e:Env)(o:Oper):Env:=⟨(uU o.op.operands.toList).map λt=>(t,oz e.t t),e.h⟩
theorem Ig(g:Nat->V):∀(l:List Nat) (i:Nat),oz (l.map λt=>(t,g t)) i=if i∈l then g i else .top
 | [],i=>by simp[oz]
 |t::l,i=>by
  simp only[jd,oz,iq];by_cases h:t=i
  .grind
  have:(t == i)=false:=ej;rw[this,lh,Ig g l i];by_cases hi:i∈l
  .simp[hi]
  grind
structure DRegC(P:Program)(E:Ent)(l:List Oper)(e0:Env)(R:List DR)(jc:Nat)(U:mz):Prop where
 w:DRegW l R
 lt:jc<l.length
 quiet:∀r,r∈R->∃rd,r.k=.quiet rd
 before:∀(k:Nat) (o:Oper),l[k]?=some o->k≠jc->zc (Region.before l.toArray) jc k=false->cA P E.N ((l.take k).map (·.dst)) o (oj ⟨e0.t,e0.h⟩ (R.take k)) (λr=>R[k]?=some r)
 after:∀(k:Nat) (o:Oper),l[k]?=some o->k≠jc->zc (Region.before l.toArray) k jc=false->cA P E.N ((l.take k).map (·.dst)) o (oj ⟨e0.t,U⟩ (R.take k)) (λr=>R[k]?=some r)
 eff:∀o,l[jc]?=some o->∃r:V,o.guard=none/\iJ E.N o.dst/\R[jc]?=some ⟨o.dst,r,.quiet none⟩/\xw P (mS (oj ⟨e0.t,e0.h⟩ (R.take jc)) o) o.op (λr1 O=>r1=r/\O=U) λ_ _=>False
end
structure Tag{α:Type}(a:α):Type where
def FO(P:Program)(py:FuncId)(args:List V)(e:Env)(R:Env->AEnd->mz->Prop)(_:Tag R):Prop:=ACalls P py args e.h (R e)
def Df(P:Program)(py:FuncId)(hr:Bool)(qf:Prop)(args:List V)(e:Env)(K:Bool->Env->V->Prop)(KE:Env->AEnd->mz->Prop)(_:Tag K)(_:Tag KE):Prop:=RA P py hr qf args e.h (K hr e) (KE e)
def wD(c:Bool)(e:Env)(mw hN:Env->Prop)(_:Tag mw)(_:Tag hN):Prop:=(c=true->mw e)/\(c=false->hN e)
def Tr(P:Program)(E:Ent)(c:Code)(hu:AExit->Env->Prop)(e:Env)(_:Tag (c,hu)):Prop:=AWp P E c hu e
def stepG(P:Program)(N:Nat)(hu:AExit->Env->Prop)(ds:List (Option Tmp))(o:Oper)(e:Env)(K:Env->Prop):Prop :=
 match gB ds e o.guard with
 |none=>False
 |some hr =>
  iJ N o.dst /\
  match o.op with
  | .pick x y hI=>CQ hr (e.get x) (e.get y) (e.get hI)/\K (e.put o.dst (wo o.guard hr (kQ (e.get x) (e.get y) (e.get hI))))
  | .call { callee:=.value f,args,.. }=>match o.guard with
   |none=>sn e true (f::args.toList)/\match e.getS f with
    | .fn (.func py) first pk=>FO P py (qu e.h (first++args.toList.map e.getS++pk)) e (λe r Y=>match r with
     | .ret v=>K (({ e with h:=Y }:Env).put o.dst v)
     | .panic v=>hu (.panic v) { e with h:=Y }) ⟨⟩
    |_=>False
   |some _=>match e.getS f with
    | .fn (.func py) first pk=>Df P py hr (sn e true (f::args.toList)) (qu e.h (first++args.toList.map e.getS++pk)) e (λhr e r=>K (e.put o.dst (.opt hr r))) (λe r Y=>match r with
        | .ret v=>K (({ e with h:=Y }:Env).put o.dst (.opt true v))
        | .panic v=>hu (.panic v) { e with h:=Y }) ⟨⟩ ⟨⟩
    |_=>False
  |op =>
   match cO op,o.guard with
   |false,g=>(hr=true->sn e true op.operands.toList/\(wx P e.getS e.h op).side)/\K (e.put o.dst (wo g hr (wx P e.getS e.h op).val))
   |true,none=>xw P e op (λv Y=>K (({ e with h:=Y }:Env).put o.dst v)) (λv Y=>hu (.panic v) { e with h:=Y })
   |true,some _=>False
def SI{P:Program}{N:Nat}{hu:AExit->Env->Prop}{ds:List (Option Tmp)}{o:Oper}{e:Env}{K:Env->Prop}(h:stepG P N hu ds o e K):zx P N hu ds o e K:=by
 obtain⟨dst,op,ty,nk,after,guard⟩:=o;unfold stepG at h;unfold zx;split at h
 .grind
 rename_i hr hG;simp only[hG];obtain⟨hd,h⟩:=h;refine⟨hd,?_⟩;cases op with
 |pick x y hI=>exact h
 |call cl =>
  obtain⟨callee,args,ats⟩:=cl;cases callee with
  |value f =>
   cases guard with
   |none=>exact h
   |some g =>
    simp only[cO]at h|-;cases hf:e.getS f with
    |fn fn first pk =>
     simp only[hf]at h|-;cases fn with
     |func py=>exact h
     |_=>exact h.elim
    |_=>simp[hf]at h
  |invoke r m=>cases guard<;>exact h
  |builtin b=>cases b<;>cases guard<;>first|exact h|exact h.elim
 |next x b=>cases b<;>cases guard<;>first|exact h|exact h.elim
 |_=>cases guard<;>first|exact h|exact h.elim
def iB(P:Program)(N:Nat)(hu:AExit->Env->Prop):List (Option Tmp)->List Oper->Env->Prop
 |_,[],e=>hu .normal e
 |ds,o::l,e=>stepG P N hu ds o e (iB P N hu (ds++[o.dst]) l)
section
variable {P:Program} {E:Ent}
section
variable{e:Env}{py:FuncId}{R KE:Env->AEnd->mz->Prop}{r:V}{hr:Bool}{qf p:Prop}{K:Bool->Env->V->Prop}{mw hN:Env->Prop}
def uE{hu:AExit->Env->Prop}{om:Array Oper}:∀(l:List Oper) (done:List Oper) (e:Env),om.toList=done++l->iB P E.N hu (done.map (·.dst)) l e->vZ P E om l hu e
 | [],done,e,dD,h=>L6 h
 |o::l,done,e,dD,h=>by have ih:=λe'=>uE (hu:=hu) (om:=om) l (done++[o]) e' W;simp only[jr,jd,kf]at ih;intro c a w s k;simp only[iB]at h;exact D3 (SI h) (λhr hG=>CL dD s hG) s k λe' c' a' w' hK s' k'=>ih e' hK c' a' w' s' k'
def Mu{id:Nat}{l:List Oper}{hu:AExit->Env->Prop}(h:iB P E.N hu [] l e):AWp P E (.region id l.toArray false) hu e :=
 GG (uE l [] e Z W)
def kC(P:Program)(E:Ent):Code->(AExit->Env->Prop)->Env->Prop
 | .skip,hu,e=>hu .normal e
 | .region _ om false,hu,e=>iB P E.N hu [] om.toList e
 | .seq a b,hu,e=>kC P E a (AExit.then (kC P E b hu) hu) e
 | .cond x a b,hu,e=>match e.get x with
  | .val (.bool c)=>wD c e (kC P E a hu) (kC P E b hu) ⟨⟩ ⟨⟩
  |_=>False
 | .block id b,hu,e=>kC P E b (AExit.inBlock id hu) e
 | .exit id,hu,e=>hu (.exit id) e
 | .ret,hu,e=>hu .ret e
 |c,hu,e=>Tr P E c hu e ⟨⟩
def yd:∀(c:Code) (hu:AExit->Env->Prop) (e:Env),kC P E c hu e->AWp P E c hu e
 | .skip,hu,e,h=>Fu h
 | .region id om false,hu,e,h=>by have:=Mu (id:=id) (l:=om.toList) h;simpa using this
 | .region id om true,hu,e,h=>h
 | .seq a b,hu,e,h=>yv ((yd a _ e h).mono λx e' hx=>by
   cases x with
   |normal=>exact yd b hu e' hx
   |_=>exact hx)
 | .cond x a b,hu,e,h=>by
  simp only[kC]at h;split at h
  .rename_i c hx;exact BS hx (λhc=>yd a hu e (h.1 hc)) (λhc=>yd b hu e (h.2 hc))
  grind
 | .block id b,hu,e,h=>qld (yd b _ e h)
 | .loop b,hu,e,h=>h
 | .rangeFunc ..,hu,e,h=>h
 | .exit id,hu,e,h=>qrm h
 | .scope b,hu,e,h=>h
 | .label _,hu,e,h=>h
 | .goto _,hu,e,h=>h
 | .ret,hu,e,h=>Jr h
 | .refuse _,hu,e,h=>h
def se{args:List V}{t:Tag R}{R':AEnd->mz->Prop}(h:ACalls P py args e.h R')(k:∀r Y,R' r Y->R e r Y):FO P py args e R t:=h.mono k
def o7{args:List V}{t:Tag R}{x:AEnd}{y:mz}(h:ACalls P py args e.h λr Y=>r=x/\Y=y)(k:R e x y):FO P py args e R t:=h.mono λ_ _ hI=>by obtain⟨rfl,rfl⟩:=hI;exact k
def nc{args:List V}{t:Tag R}(h:APure P py args r)(k:R e (.ret r) e.h):FO P py args e R t:=VR h k
def pz{args:List V}{t1:Tag K}{t2:Tag KE}(G:APure P py args r)(hp:hr=true->qf)(hK:K hr e r):Df P py hr qf args e K KE t1 t2 :=
 .inl ⟨r,λhG=>⟨hp hG,G⟩,hK⟩
def Be{args:List V}{t1:Tag K}{t2:Tag KE}(r:V)(G:hr=true->APure P py args r)(hp:hr=true->qf)(hK:K hr e r):Df P py hr qf args e K KE t1 t2 :=
 .inl ⟨r,λhG=>⟨hp hG,G hG⟩,hK⟩
def Q0{args:List V}{t1:Tag K}{t2:Tag KE}(G:hr=true->ACalls P py args e.h λx Y=>x=.ret r/\Y=e.h)(hp:hr=true->qf)(hK:K hr e r)(hE:K true e r->KE e (.ret r) e.h):Df P py hr qf args e K KE t1 t2:=by
 cases hr with
 |false=>exact .inl ⟨r,λh=>di,hK⟩
 |true=>exact .inr ⟨rfl,hp rfl,(G rfl).mono W⟩
def BP{args:List V}{t1:Tag K}{t2:Tag KE}(hK:K false e .top):Df P py false qf args e K KE t1 t2:=.inl ⟨.top,λh=>di,hK⟩
def og{c:Bool}{t1:Tag mw}{t2:Tag hN}(O:c=true->mw e)(U:c=false->hN e):wD c e mw hN t1 t2:=⟨O,U⟩
def ox{c:Bool}{t1:Tag mw}{t2:Tag hN}{q:Prop}(O:p->mw e)(U:q->hN e)(e1:c=true->p:=by intro hI;simp at hI;exact hI)(e2:c=false->q:=by intro hI;simp at hI;exact hI):wD c e mw hN t1 t2:=⟨λhI=>O (e1 hI),λhI=>U (e2 hI)⟩
def nf{a:Prop}{c:Bool}{t1:Tag mw}{t2:Tag hN}{q:Prop}(O:p->mw e)(U:q->hN e)(g:wD c e mw hN t1 t2->a:=by intro hI;simp-dsimp[go_sem,B];exact hI)(e1:c=true->p:=by intro hI;simp at hI;exact hI)(e2:c=false->q:=by intro hI;simp at hI;exact hI):a:=g ⟨λhI=>O (e1 hI),λhI=>U (e2 hI)⟩
@[simp] theorem qs7{t1:Tag mw}{t2:Tag hN}:wD true e mw hN t1 t2=mw e:=by simp[wD]
@[simp] theorem qs9{t1:Tag mw}{t2:Tag hN}:wD false e mw hN t1 t2=hN e:=by simp[wD]
end
end
attribute [go_sem] kC iB stepG AExit.then AExit.inBlock
section
variable {P:Program} {E:Ent}
section
variable{m:Nat}{l:List Oper}
structure HeadOk(m:Nat)(l:List Oper):Prop where
 after:∀(j:Nat) (o:Oper),l[j]?=some o->∀e,e∈o.after->Region.binds .any e=true->e.on<j
 ord:∀i j,m<=i->i<l.length->j<m->zc (Region.before l.toArray) j i=true
def IM(m:Nat)(l:List Oper):Bool :=
 let b:=Region.before l.toArray
 (l.zipIdx.all λp=>p.1.after.all λe=>!Region.binds .any e||e.on<p.2) &&
 ((List.range l.length).all λi=>decide (i<m)||(List.range m).all λj=>zc b j i)
def VL(h:IM m l=true):HeadOk m l:=by
 simp only[IM,gy,jk]at h;obtain⟨O,U⟩:=h;refine⟨λj o hj e he hb=>?_,λi j hi ni hj=>?_⟩
 .have:=O (o,j) (xH hj);simp only[qj2]at this;have:=this e he;simpa[hb]using this
 have:=U i W;simp only[qis,jm,jk]at this;rcases this with h|h
 .omega
 grind
def qqb(hm:m<=l.length)(t:HeadOk m l){e0:Env}{R:List DR}(d:DReg P E (l.take m) e0 R)(hE0:E.h.length<=e0.h.length){hu:Exit->Act->World->Prop}
  (hQ:∀qm h0,h0.size=l.length->(∀j,j<l.length->(h0.getD j false=true↔j<m))->l.length - m<=qm->∀c a w,Sim E.N c ⟨(oj e0 R).t,xy R (oj e0 R).h⟩ a w->E.ok c (xy R (oj e0 R).h) w->wpAny P .any l.toArray hu qm h0 a w) :
  ∀(qm:Nat) (h0:Array Bool),h0.size=l.length->(∀j,m<=j->h0.getD j false=false)->h0.toList.count false<=qm->iS l (λj=>h0.getD j false)->∀(c:Ctx) (a:Act) (w:World),DInv E e0 R (λj=>h0.getD j false) c a w->wpAny P .any l.toArray hu qm h0 a w:=by
 intro qm;have oy:(l.take m).length=m:=au;have uF:∀(h0:Array Bool),(∀j,m<=j->h0.getD j false=false)->(∀j,j<m->h0.getD j false=true)->∀j,j<l.length->(h0.getD j false=true↔j<m):=λh0 u0 nz j _=>by grind
 have uX:∀(k:Nat) (h0:Array Bool),h0.size=l.length->(∀j,k<=j->h0.getD j false=false)->k<=l.length->l.length - k<=h0.toList.count false:=λk h0 hL hk hkl=>by
  have O:(h0.toList.drop k).count false=l.length - k:=by
   have U:(h0.toList.drop k).count false=(h0.toList.drop k).length:=List.count_eq_length.2 λb hb=>by obtain⟨j,hj⟩:=iw hb;rw[kj]at hj;have:=hk (k+j) J;simp only[jq]at this;rw[<-kq,hj]at this;simpa using this.symm
   rw[U];simp[hL]
  have h3:(h0.toList.drop k).Sublist h0.toList:=qj3 _ _;have:=h3.count_le false;omega
 induction qm with
 |zero =>
  intro h0 hL u0 hc qn c a w inv;by_cases nz:∀j,j<m->h0.getD j false=true
  .obtain⟨s,k⟩:=Fk d (λj hj=>nz j J) inv;have:=uX m h0 hL u0 hm;exact hQ 0 h0 hL (uF h0 u0 nz) J c a w s k
  obtain⟨i,O,U,_⟩:=Aw nz;have:=E5 (h0:=h0) (i:=i) J U;omega
 |succ qm ih =>
  intro h0 hL u0 hc qn c a w inv;by_cases nz:∀j,j<m->h0.getD j false=true
  .obtain⟨s,k⟩:=Fk d (λj hj=>nz j J) inv;have:=uX m h0 hL u0 hm;exact hQ (qm+1) h0 hL (uF h0 u0 nz) J c a w s k
  obtain⟨i0,g1,g2,g3⟩:=Aw nz;refine⟨λG=>?_,λi hi=>?_⟩
  .have:=En t.after hL (i:=i0) J g2 g3;rw[G]at this;cases this
  obtain⟨o,O,U,h3⟩:=B4 hi;have ni:i<h0.size:=W;have hLi:h0.getD i false=false:=W;have tD:i<m:=by
   rcases jz i m with h4|h4
   .exact h4
   have:=kW qn i i0 o O h3 (t.ord i i0 h4 J J);rw[show h0.getD i0 false=false from g2]at this;cases this
  have s7:(l.take m)[i]?=some o:=W;have Bh:iS (l.take m) λj=>h0.getD j false:=λj o' hj qi e he hb=>by exact Qco
  refine FL tD (λo' j zh qi hg=>?_) (wpOp_mono ?_ (GU (hu:=hu) d.weak hE0 Bh inv s7 hLi h3 (d.step i o s7)))
  .rw[O]at qi;cases qi;have:=d.ok.guard i o j zh s7 hg;omega
  rintro a' w' ⟨c',inv'⟩;rw[uQ ni]at inv';refine ih _ W (λj hj=>?_) ?_ (FJ ni O h3 qn) c' a' w' inv'
  .have hf:=congrFun (uQ ni) j;rw[<-hf,gg J];exact u0 j hj
  grind[DY]
def DU(P:Program)(N:Nat)(hu:AExit->Env->Prop)(l:List Oper):Nat->Array Bool->Env->Prop
 | 0,h0,e=>Region.ready .any l.toArray h0=[]/\hu .normal e
 |n+1,h0,e=>(Region.ready .any l.toArray h0=[]->hu .normal e)/\∀i,i∈Region.ready .any l.toArray h0->match l[i]? with
  |some o=>zx P N hu (l.map (·.dst)) o e λe'=>DU P N hu l n (h0.setIfInBounds i true) e'
  |none=>False
theorem LU{hu:AExit->Env->Prop}{l:List Oper}:∀(n qm:Nat) (h0:Array Bool) (e:Env),n<=qm->DU P E.N hu l n h0 e->∀c a w,Sim E.N c e a w->E.ok c e.h w->wpAny P .any l.toArray (kI E hu) qm h0 a w
 | 0,qm,h0,e,_,h,c,a,w,s,k=>by
  obtain⟨O,U⟩:=h;have hq:kI E hu .normal a w:=⟨.normal,e,c,U,trivial,s,k⟩
  cases qm with
  |zero=>exact⟨O,hq⟩
  |succ f=>exact⟨λ_=>hq,λi hi=>by rw[O]at hi;cases hi⟩
 |n+1,0,h0,e,hn,_,_,_,_,_,_=>by omega
 |n+1,qm+1,h0,e,hn,h,c,a,w,s,k=>by
  obtain⟨O,U⟩:=h;refine⟨λG=>⟨.normal,e,c,O G,trivial,s,k⟩,λi hi=>?_⟩;have h3:=U i hi;split at h3
  .rename_i o ho;have wb:(l.toArray)[i]?=some o:=W;unfold wpOp;simp only[wb];exact D3 h3 (λhr hG=>CL (done:=l) (rest:=[]) Z s hG) s k λe' c' a' w' hK s' k'=>LU n qm _ e' J hK c' a' w' s' k'
  grind
def Hu(m n:Nat):Array Bool:=(List.replicate m true++List.replicate (n - m) false).toArray
theorem Yf{n:Nat}(hm:m<=n){h0:Array Bool}(hL:h0.size=n)(h:∀j,j<n->(h0.getD j false=true↔j<m)):h0=Hu m n:=by
 apply Array.ext
 .grind[Hu]
 intro i O U;have:=h i J;simp only[Array.getD,O,dite_true]at this;simp only[Hu,List.getElem_toArray,List.getElem_append,List.length_replicate,List.getElem_replicate];by_cases tD:i<m
 .simp_all
 simp_all
def qrr{id:Nat}(m:Nat){hu:AExit->Env->Prop}{e:Env}(hm:P.follows .mixedOrders=true)(hB:(decide (m<=l.length)&&uS (l.take m)&&IM m l)=true)
  (h:mO P E.N [] (l.take m) e [] λR e1=>ww (Region.before (l.take m).toArray) R/\DU P E.N hu l (l.length - m) (Hu m l.length) ⟨e1.t,xy R e1.h⟩):AWp P E (.region id l.toArray true) hu e:=λc a w s k=>by
 simp only[gy,jm]at hB;obtain⟨⟨zg,hdB⟩,hT⟩:=hB;have hd:=Ct hdB;obtain⟨R,hRl,r7,sB,hQ⟩:=Bv h;simp only[ke]at r7 sB;have d:DReg P E (l.take m) e R:=by refine⟨hd,hRl,r7,λk s r r' i off cs G hk o9 qh=>?_⟩;unfold ww at sB;rw[jk]at sB;have O:=sB (r,k) W;simp only[hk,jk]at O;have U:=O (r',s) W;simp only[qh,bne_self_eq_false,qir,gy,jm]at U;exact U
 refine wp_region_any hm ?_;have o9:HSim c e.h { w with drawn:=w.drawn+1 }:=s.hs.ext (λ_ _=>rfl) (.refl c) (λ_ _=>rfl) (λ_ _ _ h=>.inl h) s.hs.dom;have qh:E.ok c e.h { w with drawn:=w.drawn+1 }:=k.ext' s.hs (λ_ _=>rfl) (.refl c) (λ_=>rfl) rfl rfl rfl (gj _) (λ_ _ _ h=>.inl h);have cK:(λ_=>false)=λj=>(Array.replicate l.toArray.size false).getD j false:=by exact Qcq
 refine qqb zg (VL hT) d k.len (λqm h0 hL hj hf c' a' w' s' k'=>?_) _ _ Z (λj _=>(congrFun cK j).symm) ?_ ?_ c a _ ?_
 .grind[Yf,LU]
 .simp
 .exact Qcr
 exact Qcs
end
end
def Jh(P:Program)(py:FuncId)(hr:Bool)(qf:Prop)(args:List V)(e:Env)(nw:List DR)(K:Bool->Env->List DR->V->Prop)(_:Tag K):Prop:=∃r,(hr=true->qf/\D9 P py args r e.h)/\K hr e nw r
def Ba(P:Program)(N:Nat)(ds:List (Option Tmp))(o:Oper)(e:Env)(nw:List DR)(K:Env->List DR->DR->Prop):Prop :=
 match gB ds e o.guard with
 |none=>False
 |some hr =>
  iJ N o.dst /\
  match o.op with
  | .call { callee:=.value f,args,.. }=>match e.getS f with
   | .fn (.func py) first pk=>Jh P py hr (sn e true (f::args.toList)) (qu e.h (first++args.toList.map e.getS++pk)) e nw (λhr e nw r=>K e nw ⟨o.dst,wo o.guard hr r,.quiet none⟩) ⟨⟩
   |_=>False
  | .pick x y hI=>CQ hr (e.get x) (e.get y) (e.get hI)/\K e nw ⟨o.dst,wo o.guard hr (kQ (e.get x) (e.get y) (e.get hI)),.quiet none⟩
  | .box _ x=>o.guard=none/\sn e true [x]/\(e.getS x).cellsOk=true/\K e nw ⟨o.dst,.ptr e.h.length 0,.fresh (e.getS x).cells⟩
  | .alloc T=>o.guard=none/\nj P T≠.other/\K e nw ⟨o.dst,.ptr e.h.length 0,.fresh (o8 P T)⟩
  | .store T a x=>o.guard=none/\o.dst=none/\sn e true [a,x]/\nj P T≠.other/\(e.getS x).cellsOk=true/\(e.getS x).cells.length=oh P T /\
   match e.getS a with
   | .ptr i off=>match e.h[i]? with
    |some (.cells xs)=>off+(e.getS x).cells.length<=xs.length/\K e nw ⟨none,.top,.store i off (e.getS x).cells⟩
    |_=>False
   |_=>False
  | .buildSlice T n parts =>
   match nj P T with
   | .slice el sz=>match sL e.h sz 0 (parts.toList.map λp=>(p.1,e.getS p.2))with
    |some S=>hr=true/\sn e true (parts.toList.map (·.2))/\S.length=n/\0<sz/\n * sz<=16777216/\nj P el≠.other/\oh P el=sz/\K e nw ⟨o.dst,wo o.guard hr (.slice S),.quiet none⟩
    |none=>match Co sz n (parts.toList.map λp=>(p.1,e.getS p.2))with
     |some cs=>hr=true/\sn e true (parts.toList.map (·.2))/\0<sz/\sz<=16777216/\nj P el≠.other/\oh P el=sz/\K e nw ⟨o.dst,wo o.guard hr (.lit cs),.quiet none⟩
     |none=>False
   |_=>False
  |op=>(hr=true->sn e true op.operands.toList/\(wx P e.getS e.h op).side)/\K e nw ⟨o.dst,wo o.guard hr (wx P e.getS e.h op).val,.quiet (A7 e op)⟩
def KV{P:Program}{N:Nat}{ds:List (Option Tmp)}{o:Oper}{e:Env}{nw:List DR}{K:Env->List DR->DR->Prop}(h:Ba P N ds o e nw K):cA P N ds o e (K e nw):=by
 obtain⟨dst,op,ty,nk,after,guard⟩:=o;unfold Ba at h;unfold cA;split at h
 .grind
 rename_i hr hG;simp only[hG];obtain⟨hd,h⟩:=h;refine⟨hd,?_⟩;cases op with
 |call cl =>
  obtain⟨callee,args,ats⟩:=cl;cases callee with
  |value f=>exact h
  |_=>exact h
 |_=>exact h
def xR(P:Program)(N:Nat):List (Option Tmp)->List Oper->Env->List DR->(List DR->Env->Prop)->Prop
 |_,[],e,nw,K=>K nw e
 |ds,o::l,e,nw,K=>Ba P N ds o e nw λe nw r=>xR P N (ds++[o.dst]) l (r.next e) (nw++[r]) K
def CD{P:Program}{N:Nat}:∀{l:List Oper} {ds:List (Option Tmp)} {e:Env} {nw:List DR} {K:List DR->Env->Prop},xR P N ds l e nw K->mO P N ds l e nw K
 | [],_,_,_,_,h=>h
 |_::_,_,_,_,_,h=>K5 (KV h) λ_ G=>CD G
def Pa{P:Program}{N:Nat}:∀{l:List Oper} {ds:List (Option Tmp)} {e:Env} {nw:List DR} {K:List DR->Env->Prop} {R:List DR},R.length=l.length ->
  (∀(k:Nat) (o:Oper),l[k]?=some o->cA P N (ds++(l.take k).map (·.dst)) o (oj e (R.take k)) (λr=>R[k]?=some r))->K (nw++R) (oj e R)->mO P N ds l e nw K
 | [],ds,e,nw,K,R,hl,hs,hK=>by grind[mO,oj,qj0]
 |o::l,ds,e,nw,K,[],hl,hs,hK=>by simp at hl
 |o::l,ds,e,nw,K,r::R,hl,hs,hK=>by simp only[mO];have L:=hs 0 o rfl;simp only[qi6,kf,jv,oj,List.getElem?_cons_zero,js]at L;refine K5 L λr' G=>?_;subst G;refine Pa (R:=R) W (λk o' ho=>?_) (by grind[oj,jf]);have:=hs (k+1) o' W;simpa[oj,jf]using this
section
variable {P:Program} {E:Ent}
section
variable{id:Nat}{l:List Oper}{hu:AExit->Env->Prop}{e:Env}{py:FuncId}{hr:Bool}{qf:Prop}{nw:List DR}{K:Bool->Env->List DR->V->Prop}
def aW(m:Nat)(hm:P.follows .mixedOrders=true)(hB:(decide (m<=l.length)&&uS (l.take m)&&tH m l)=true)
  (h:xR P E.N [] (l.take m) e [] λR e1=>ww (Region.before (l.take m).toArray) R/\iB P E.N hu ((l.take m).map (·.dst)) (l.drop m) ⟨e1.t,xy R e1.h⟩):AWp P E (.region id l.toArray true) hu e :=
 Ss m hm hB (QR (CD h) λ_ _ hk=>⟨hk.1,uE (l.drop m) (l.take m) _ Z hk.2⟩)
def qru(m:Nat)(hm:P.follows .mixedOrders=true)(hB:(decide (m<=l.length)&&uS (l.take m)&&tH m l)=true)(hq:((l.take m).all λo=>!rE o.op)=true)
  (h:xR P E.N [] (l.take m) e [] λR e1=>iB P E.N hu ((l.take m).map (·.dst)) (l.drop m) ⟨e1.t,xy R e1.h⟩):AWp P E (.region id l.toArray true) hu e:=by
 refine Ss m hm hB ?_;obtain⟨R,oy,nA,hQ⟩:=Bv (CD h);have qz:∀r,r∈R->∀i off cs,r.k≠.store i off cs:=λr G i off cs hk=>by obtain⟨j,hj⟩:=iw G;have ni:j<(l.take m).length:=W;obtain⟨_,r',O,U,h3⟩:=AU (nA j (l.take m)[j] (ii ni));rw[hj]at U;cases U;have:=h3 ⟨i,off,cs,hk⟩;have k:=jk.1 hq (l.take m)[j] (ij _);rw[this]at k;cases k
 refine Pa (R:=R) oy nA ⟨?_,uE (l.drop m) (l.take m) _ Z J⟩;unfold ww;rw[jk];intro p hp;split
 .grind
 rfl
def p7{args:List V}{t:Tag K}{r:V}(G:APure P py args r)(hp:hr=true->qf)(hK:K hr e nw r):Jh P py hr qf args e nw K t:=⟨r,λhG=>⟨hp hG,G.at _⟩,hK⟩
def TM{args:List V}{t:Tag K}{r:V}(G:hr=true->D9 P py args r e.h)(hp:hr=true->qf)(hK:K hr e nw r):Jh P py hr qf args e nw K t:=⟨r,λhG=>⟨hp hG,G hG⟩,hK⟩
end
end
attribute [go_sem] xR Ba DR.next A7 xy
def GD{E:Ent}{c:Ctx}{h:mz}{w:World}(s:HSim c h w)(k:E.ok c h w){p:Nat}{xs nD:List V}(hp:h[p]?=some (.cells xs))(hl:nD.length=xs.length)
  (G:∀(j:Nat) (x x':V) (v:Value),xs[j]?=some x->nD[j]?=some x'->Rel c x v->Rel c x' v):HSim c (h.set p (.cells nD)) w/\E.ok c (h.set p (.cells nD)) w:=by
 have vn:∀j o b',(h.set p (.cells nD))[j]?=some o->ou c j o=some b'->∃o0,h[j]?=some o0/\ou c j o0=some b':=λj o b' hj nl=>by
  rcases tk hj with⟨rfl,rfl⟩|⟨nv,O⟩
  .exact⟨_,hp,nl⟩
  grind
 refine⟨⟨s.data,λj hj=>s.dom j W,λj o hj=>?_,λj j' o o' b hj uq hb nl=>?_,λj o b m v hj hb hD=>?_⟩,⟨k.edom,k.ext,k.blk0,bu,k.os,k.tape,k.output,k.size,k.frame,λj o b hj hb=>?_,k.dold⟩⟩
 .rcases tk hj with⟨rfl,rfl⟩|⟨nv,O⟩
  .obtain⟨b,vs,T,g1,g2,g3,g4⟩:=s.obj j _ hp;refine⟨b,vs,T,g1,g2,by rw[g3,hl],λi x v hx hv=>?_⟩;have ni:i<xs.length:=W;have h5:=g4 i xs[i] v ba hv;exact⟨G i _ x v ba hx h5.1,h5.2⟩
  exact s.obj j o O
 .obtain⟨o1,g1,g2⟩:=vn j o b hj hb;obtain⟨o2,g3,g4⟩:=vn j' o' b uq nl;exact s.apart j j' o1 o2 b g1 g3 g2 g4
 .rcases tk hj with⟨rfl,rfl⟩|⟨nv,O⟩
  .have:=s.sep j (.cells xs) b m v hp hb hD;exact this
  exact s.sep j o b m v O hb hD
 obtain⟨o1,g1,g2⟩:=vn j o b hj hb;exact k.newobj j o1 b g1 g2
theorem BQ{c:Ctx}{v:Value}(h:Rel c .nils v):v=.slice none 0 0:=by
 cases h with
 |data h=>cases h
 |nils=>rfl
def ZD(E:Ent)(e:Env){p j t sz:Nat}{xs:List V}(hp:e.h[p]?=some (.cells xs))(hj:xs[j]?=some .nils) :
  Wk E e ⟨e.t,(e.h++[AObj.uarr t sz []]).set p (.cells (xs.set j (.own e.h.length 0)))⟩:=λc a w s k=>by
 obtain⟨nh,s1,k1⟩:=ES s.hs k t sz;have ni:p<e.h.length:=(gn.1 hp).1;obtain⟨s2,k2⟩:=GD s1 k1 (p:=p) (xs:=xs) (nD:=xs.set j (.own e.h.length 0)) W Z (λi x x' v hx um G=>by
  rcases tk um with⟨rfl,rfl⟩|⟨nv,O⟩
  .exact Qct
  rw[O]at hx;cases hx;exact G)
 exact Qcu
section
mutual
def V.bd:V->Prop
 | .slice S=>S.length<=68719476736/\CO S
 | .agg xs| .tuple xs=>eL xs
 | .iface _ v=>v.bd
 | .val (.string s)=>s.size<=68719476736
 |_=>True
def eL:List V->Prop
 | []=>True
 |x::xs=>x.bd/\eL xs
def CO:List (List V)->Prop
 | []=>True
 |x::xs=>eL x/\CO xs
end
theorem AP:∀{xs:List V},eL xs↔∀x,x∈xs->x.bd
 | []=>by simp[eL]
 |x::xs=>by simp[eL,AP (xs:=xs)]
theorem A5:∀{xs:List (List V)},CO xs↔∀x,x∈xs->eL x
 | []=>by simp[CO]
 |x::xs=>by simp[CO,A5 (xs:=xs)]
theorem DRel.bd{D:Nat->Nat->Option Value}{x:V}{v:Value}(h:DRel D x v):x.bd:=by
 induction h with
 |val v h hs =>
  cases v with
  |string s=>simpa[V.bd,iU]using hs
  |_=>trivial
 |nil=>exact⟨il _,trivial⟩
 |empty a=>exact⟨il _,trivial⟩
 |slice S b off cap sz g p6 hB hc O U ih =>
  refine⟨hB,?_⟩;rw[A5];intro r G;rw[AP];intro x hx;obtain⟨i,hi⟩:=iw G;obtain⟨j,hj⟩:=iw hx;exact ih i j r x hi hj
theorem Rel.bd{c:Ctx}{x:V}{v:Value}(h:Rel c x v):x.bd:=by
 induction h with
 |data h=>exact h.bd
 |agg xs vs hl ho h ih|tuple xs vs hl h ih =>
  show eL xs;rw[AP];exact Qak
 |iface t x v h ih=>exact ih
 |val v hs =>
  cases v with
  |string s=>simpa[V.bd,iU]using hs
  |_=>trivial
 |_=>trivial
def AObj.bd:AObj->Prop
 | .cells xs=>eL xs
 | .map es=>∀p,p∈es->p.1.bd/\p.2.bd
 | .arr _ _ S| .uarr _ _ S=>S.length<=68719476736/\CO S
 |_=>True
theorem HSim.bd{c:Ctx}{h:mz}{w:World}(s:HSim c h w):∀o,o∈h->o.bd:=by
 intro o ho;obtain⟨i,hi⟩:=iw ho;have k:=s.obj i o hi;cases o with
 |none=>trivial
 |iter=>trivial
 |raw=>trivial
 |oarr=>trivial
 |cells xs =>
  obtain⟨b,vs,T,O,U,h3,h4⟩:=k;show eL xs;rw[AP];intro x hx;obtain⟨j,hj⟩:=iw hx;have ni:j<vs.size:=W;exact(h4 j x vs[j] hj ba).1.bd
 |map es =>
  obtain⟨b,qt,wz,O,U,h3,h4,h5⟩:=k;intro p hp;obtain⟨j,hj⟩:=iw hp;have ni:j<qt.size:=W;have:=h4 j p.1 p.2 qt[j] hj ba;exact⟨this.1.bd,this.2.bd⟩
 |arr e sz S =>
  obtain⟨v,vs,O,U,h3,h4,h5,h6,h7,h8⟩:=k;exact Qcv
 |uarr e sz S =>
  obtain⟨v,vs,O,U,h3,h4,h5,h6,h7⟩:=k;exact Qcv
section
variable {P:Program} {E:Ent} {hu:AExit->Env->Prop} {e:Env}
section
variable{f:FuncId}{R:AEnd->mz->Prop}{code:Code}
def KG{args:List V}{h:mz}(H:eL args->(∀o,o∈h->o.bd)->q9 h.length args=true->ACalls P f args h R)(hf:yZ P f):ACalls P f args h R :=
 ⟨hf,λc w vs hs ha=>(H (by
  rw[AP];intro x hx;obtain⟨j,hj⟩:=iw hx;have ni:j<vs.size:=by rw[ha.1];exact(gn.1 hj).1
  exact(ha.2 j x vs[j] hj ba).bd) hs.bd (by
  rw[mI];intro x hx;obtain⟨j,hj⟩:=iw hx;have ni:j<vs.size:=by rw[ha.1];exact(gn.1 hj).1
  exact(ha.2 j x vs[j] hj ba).under hs.dom)).2 c w vs hs ha⟩
def Bf{fn:Func}{args:List V}{h:mz}(hf:P.funcs[f]?=some fn)(hb:fn.body=some code)(aM:(fn.name == "runtime.NumGoroutine")=false)(B:args.length<=fn.ntmps)
  (body:∀E:Ent,E.N=fn.ntmps->E.h=h->hUnder h.length h=true->eL args->(∀o,o∈h->o.bd)->q9 h.length args=true->AWp P E code (Af P fn.results.toList h.length R) ⟨jI 0 args,h⟩):ACalls P f args h R :=
 KG (λqd rh hb3=>Ke hf hb aM B λE O U h3=>body E O U h3 qd rh hb3) ⟨fn,hf,fv,aM⟩
def xZ{fn:Func}{args:List V}{r:V}(hf:P.funcs[f]?=some fn)(hb:fn.body=some code)(aM:(fn.name == "runtime.NumGoroutine")=false)(B:args.length<=fn.ntmps)(G:r.under 0=true)
  (body:∀(E:Ent) (h:mz),E.N=fn.ntmps->E.h=h->hUnder h.length h=true->eL args->AWp P E code (C3 P fn.results.toList r h) ⟨jI 0 args,h⟩):APure P f args r:=λh =>
 KG (λqd _ _=>Tu hf hb aM B G (λE O U h3 h4=>body E O U h3 h4 qd) h) ⟨fn,hf,fv,aM⟩
end
end
theorem z8{h:mz}(Q:hUnder h.length h=true)(l:mz)(k:Nat):hUnder (h.length+k) (h++l)=hUnder (h.length+k) l:=by rw[xh,aQ J Q,jb]
theorem CG{a b:mz}:∀{h:mz},hwk (h++a) (h++b)↔hwk a b
 | []=>Iff.rfl
 |o::h=>by simp only[mb,hwk,CG (h:=h)];exact⟨λx=>x.2,λx=>⟨.refl o,x⟩⟩
attribute [go_sem] hUnder AObj.under hwk ObjWk CG
def mF(E:Ent)(e:Env)(i t sz:Nat)(hi:oz e.t i=.nils):Wk E e ⟨(i,.own e.h.length 0)::e.t,e.h++[.arr t sz []]⟩:=by
 have O:Wk E e ⟨(i,.own e.h.length 0)::e.t,e.h++[.uarr t sz []]⟩:=λc a w s k=>by
  obtain⟨nh,s1,k1⟩:=ES s.hs k t sz;refine⟨_,⟨s.defers,s.size,λj=>?_,s1⟩,k1⟩;simp only[oz];by_cases hj:i=j
  .exact Qcw
  exact Qcx
 refine O.trans ?_;have:=tX E ⟨(i,.own e.h.length 0)::e.t,e.h++[.uarr t sz []]⟩ (i:=e.h.length) (t:=t) (sz:=sz) (S:=[]) Z;simpa using this
def Ds(h:mz)(t:List (Nat×V)):List (Nat×V):=t.map λp=>(p.1,p.2.norm h)
theorem Si(h:mz)(i:Nat):∀t:List (Nat×V),oz (Ds h t) i=(oz t i).norm h
 | []=>rfl
 |(j,x)::t=>by
  simp only[Ds,jd,oz];cases j == i with
  |true=>rfl
  |false=>exact Si h i t
def AB(E:Ent)(e:Env):Wk E e ⟨Ds e.h e.t,e.h⟩:=λc a w s k =>
 ⟨c,⟨s.defers,s.size,λi=>by show Rel c (oz (Ds e.h e.t) i) _;rw[Si];exact rQ s.hs (s.tmps i),s.hs⟩,k⟩
attribute [go_sem] Ds
@[simp] theorem qvx{α:Type}(f:α->List V)(l:List α):(V.slice (l.map f)).bd↔l.length<=68719476736/\∀x,x∈l->eL (f x):=by simp[V.bd,A5]
end
section
variable {P:Program}
section
variable{f:FuncId}{code:Code}{N:Nat}{R:AEnd->mz->Prop}
def od{fn:Func}{args:List V}{r:V}(hf:P.funcs[f]?=some fn)(hn:fn.ntmps=N)
  (body:∀(E:Ent) (h:mz),E.N=N->E.h=h->hUnder h.length h=true->eL args->kC P E code (C3 P fn.results.toList r h) ⟨jI 0 args,h⟩) (hb:fn.body=some code:=by exact rfl) (aM:(fn.name == "runtime.NumGoroutine")=false:=by kernel_rfl) (hl:decide (args.length<=N)=true:=by exact rfl) (G:r.under 0=true:=by exact rfl):APure P f args r:=by
 subst hn;exact xZ hf hb aM (l9 hl) G λE h O U h3 h4=>yd _ _ _ (body E h O U h3 h4)
def s8{fn:Func}{args:List V}{h:mz}(hf:P.funcs[f]?=some fn)(hn:fn.ntmps=N)
  (body:∀E:Ent,E.N=N->E.h=h->hUnder h.length h=true->eL args->(∀o,o∈h->o.bd)->q9 h.length args=true->kC P E code (Af P fn.results.toList h.length R) ⟨jI 0 args,h⟩) (hb:fn.body=some code:=by exact rfl) (aM:(fn.name == "runtime.NumGoroutine")=false:=by kernel_rfl) (hl:decide (args.length<=N)=true:=by exact rfl):ACalls P f args h R:=by
 subst hn;exact Bf hf hb aM (l9 hl) λE O U h3 h4 h5 h6=>yd _ _ _ (body E O U h3 h4 h5 h6)
def ry{q:Prop}{fn:Func}{args:List V}{r:V}(hf:P.funcs[f]?=some fn)(hn:fn.ntmps=N)
  (body:∀(E:Ent) (h:mz),E.N=N->E.h=h->hUnder h.length h=true->q->kC P E code (C3 P fn.results.toList r h) ⟨jI 0 args,h⟩) (hb:fn.body=some code:=by exact rfl) (aM:(fn.name == "runtime.NumGoroutine")=false:=by kernel_rfl) (hl:decide (args.length<=N)=true:=by exact rfl) (G:r.under 0=true:=by exact rfl) (eb:eL args->q:=by intro hI;simp[go_sem]at hI;exact hI):APure P f args r:=by
 subst hn;exact xZ hf hb aM (l9 hl) G λE h O U h3 h4=>yd _ _ _ (body E h O U h3 (eb h4))
def cD{q:Prop}{fn:Func}{args:List V}{h:mz}(hf:P.funcs[f]?=some fn)(hn:fn.ntmps=N)
  (body:∀E:Ent,E.N=N->E.h=h->hUnder h.length h=true->q->(∀o,o∈h->o.bd)->q9 h.length args=true->kC P E code (Af P fn.results.toList h.length R) ⟨jI 0 args,h⟩) (hb:fn.body=some code:=by exact rfl) (aM:(fn.name == "runtime.NumGoroutine")=false:=by kernel_rfl) (hl:decide (args.length<=N)=true:=by exact rfl) (eb:eL args->q:=by intro hI;simp[go_sem]at hI;exact hI):ACalls P f args h R:=by
 subst hn;exact Bf hf hb aM (l9 hl) λE O U h3 h4 h5 h6=>yd _ _ _ (body E O U h3 (eb h4) h5 h6)
def ng{E:Ent}{e e1:Env}(d:wkT e1.h.length e.t e1.t:=by simp[go_sem])(a:E.h.length<=e1.h.length:=by simp[hh])(b:hwk e.h e1.h:=by simp[go_sem])(c:hUnder e1.h.length e1.h=true:=by simp[Q,z8 Q,go_sem]):Wk E e e1:=Wk.mk a b c d
end
end
section
variable {P:Program} {E:Ent}
section
variable{l:List Oper}{e0 e:Env}{R:List DR}{X:Nat->Bool}{w:World}{i jc id:Nat}{o:Oper}{U:mz}{Qa hu:AExit->Env->Prop}{py:FuncId}{KA KP:V->mz->Prop}
def ZK(d:DRegW l R)(hq:∀r,r∈R->∃rd,r.k=.quiet rd)(qn:iS l X){c:Ctx}{a:Act}(inv:DInv E e0 R X c a w)(hi:l[i]?=some o)(xg:X i=false)
  (yx:∀e,e∈o.after->Region.binds .any e=true->X e.on=true) (hg:gB ((l.take i).map (·.dst)) (oj e0 (R.take i)) o.guard=some true) (hd:iJ E.N o.dst) {r:V} (G:R[i]?=some ⟨o.dst,wo o.guard true r,.quiet none⟩) {Y:mz} {ok:Prop} {Qa:AExit->Env->Prop}
  (hc:xw P (mS (oj e0 (R.take i)) o) o.op (λr1 O=>ok/\r1=r/\O=Y) λv O=>Qa (.panic v) ⟨[],O⟩) :
  wpOp P l.toArray (kI E Qa) i (λa' w'=>ok/\∃c',DInv E ⟨e0.t,Y⟩ R (λj=>if j=i then true else X j) c' a' w') a w:=by
 have hslots:=qqp d qn inv.tmps hi xg yx;have hs:HSim c e0.h w:=by have:=inv.hs;rwa [DH hq]at this
 have pg:E.ok c e0.h w:=by have:=inv.ok;rwa [DH hq]at this
 have hhe:(oj e0 (R.take i)).h=e0.h:=by grind[Bm,Ia]
 have wb:(l.toArray)[i]?=some o:=W;have hsim:Sim E.N c (mS (oj e0 (R.take i)) o) a w:=⟨inv.defers,inv.size,λt=>by
  simp only[mS,Ig];split
  .grind
  exact .top _,by simp only[mS,hhe];exact hs⟩
 have Cp:Region.wanted o (yielded l.toArray a.tmps)=true:=NJ (l:=l) Z (i:=i) (λj zh hg=>d.ok.guard i o j zh hi hg) (λt ht=>hslots t (List.mem_append_right _ ht)) hg;unfold wpOp;simp only[wb];rw[gh Cp];refine .inl (OK (E:=⟨E.N,c,e0.h,w⟩) hsim (by grind[mS,Ent.ok.refl]) hc (λv O c' w' u hR nh o9 qh iW=>?_) (λv O c' w' u hR nh o9 qh iW=>?_))
 .obtain⟨hok1,rfl,rfl⟩:=hR;have iW:Rel c' (wo o.guard true v) u:=by
   unfold wo;split
   .exact iW
   exact .opt _ _ _ (λ_=>iW) (λh=>by cases h)
  refine⟨hok1,c',qg1,qgi,λt=>?_,by rw[DH hq];exact o9,by rw[DH hq];exact pg.trans qh,λj rj xs hj kD _=>?_,λrj hrj i' off cs kD=>?_⟩
  .have O:=B9 (X:=X) (t:=t) (k:=0) (x:=oz e0.t t) G (λj r' o6 hd hn=>by
    obtain⟨o',qi,zn,_⟩:=d.dst o6;exact d.ok.uniq i o j o' hi qi hn W)
   simp only[im]at O;show Rel c' (bT _ t 0 R (oz e0.t t)) _;rw[O];cases dU:o.dst with
   |none =>
    rw[gg Z];exact(inv.tmps t).mono nh
   |some dd =>
    have ni:dd<a.tmps.size:=by rw[inv.size];rw[dU]at hd;exact hd
    by_cases hdt:dd=t
    .subst hdt;rw[gh rfl];simpa[Act.put,ni]using iW
    exact Qck
  .obtain⟨rd,hk⟩:=hq rj (gw hj);grind
  obtain⟨j,O,_⟩:=yJ hrj;obtain⟨rd,hk⟩:=hq rj (gw O);grind
 exact⟨.panic v,⟨[],O⟩,c',hR,iW,⟨inv.defers,inv.size,λ_=>.top _,o9⟩,pg.trans qh⟩
structure DRegK(P:Program)(E:Ent)(l:List Oper)(e0:Env)(R:List DR)(jc:Nat)(U:mz)(ok:Prop)(Qa:AExit->Env->Prop):Prop where
 w:DRegW l R
 lt:jc<l.length
 quiet:∀r,r∈R->∃rd,r.k=.quiet rd
 before:∀(k:Nat) (o:Oper),l[k]?=some o->k≠jc->zc (Region.before l.toArray) jc k=false->cA P E.N ((l.take k).map (·.dst)) o (oj ⟨e0.t,e0.h⟩ (R.take k)) (λr=>R[k]?=some r)
 after:ok->∀(k:Nat) (o:Oper),l[k]?=some o->k≠jc->zc (Region.before l.toArray) k jc=false->cA P E.N ((l.take k).map (·.dst)) o (oj ⟨e0.t,U⟩ (R.take k)) (λr=>R[k]?=some r)
 eff:∀o,l[jc]?=some o->∃r:V,gB ((l.take jc).map (·.dst)) (oj ⟨e0.t,e0.h⟩ (R.take jc)) o.guard=some true/\iJ E.N o.dst/\R[jc]?=some ⟨o.dst,wo o.guard true r,.quiet none⟩/\xw P (mS (oj ⟨e0.t,e0.h⟩ (R.take jc)) o) o.op (λr1 O=>ok/\r1=r/\O=U) λv O=>Qa (.panic v) ⟨[],O⟩
def RF{ok:Prop}(d:DRegK P E l e0 R jc U ok Qa)(hj:X jc=true)(nz:∀j,j<l.length->X j=true){c:Ctx}{a:Act}(inv:DInv E ⟨e0.t,bif X jc then U else e0.h⟩ R X c a w) :
  Sim E.N c ⟨(oj e0 R).t,U⟩ a w/\E.ok c U w:=by
 have O:∀j r,R[j]?=some r->X (0+j)=true:=λj r G=>by rw[im];exact nz j (by rw[<-d.w.len];exact(gn.1 G).1)
 have hs:=inv.hs;have hk:=inv.ok;rw[DH d.quiet,hj]at hs hk;refine⟨⟨inv.defers,inv.size,λt=>?_,hs⟩,hk⟩;have:=inv.tmps t;grind[zU,Ck]
def ZS{ok:Prop}(d:DRegK P E l e0 R jc U ok Qa)(qJ:X jc=true->ok)(qn:iS l X){c:Ctx}{a:Act}(inv:DInv E ⟨e0.t,bif X jc then U else e0.h⟩ R X c a w)(hi:l[i]?=some o)(xg:X i=false)
  (yx:∀e,e∈o.after->Region.binds .any e=true->X e.on=true) :
  wpOp P l.toArray (kI E Qa) i (λa' w'=>((if jc=i then true else X jc)=true->ok)/\∃c',DInv E ⟨e0.t,bif (if jc=i then true else X jc)then U else e0.h⟩ R (λj=>if j=i then true else X j) c' a' w') a w:=by
 by_cases hij:i=jc
 .subst hij;obtain⟨r,g2,g3,g6,g7⟩:=d.eff o hi;rw[xg]at inv;rw[gh rfl];refine wpOp_mono ?_ (ZK (e0:=⟨e0.t,e0.h⟩) d.w d.quiet qn inv hi xg yx g2 g3 g6 g7);grind
 rw[gg (Ne.symm hij)];cases hX:X jc with
 |true =>
  rw[hX]at inv;have qz:zc (Region.before l.toArray) i jc=false:=by
   cases hb:zc (Region.before l.toArray) i jc with
   |false=>rfl
   |true =>
    have rz:l[jc]?=some (l[jc]'(d.lt)):=Z;have:=kW qn jc i _ rz (qn jc _ hX rz) hb;grind
  have oy:E.h.length<=U.length:=qhv;refine wpOp_mono ?_ (GU (hu:=kI E Qa) (e0:=⟨e0.t,U⟩) d.w oy qn inv hi xg yx (d.after (qJ hX) i o hi hij qz));grind
 |false =>
  rw[hX]at inv;have qz:zc (Region.before l.toArray) jc i=false:=by grind[hX,kW]
  have oy:E.h.length<=e0.h.length:=qhv;refine wpOp_mono ?_ (GU (hu:=kI E Qa) (e0:=⟨e0.t,e0.h⟩) d.w oy qn inv hi xg yx (d.before i o hi hij qz));grind
def Up{m:Nat}(hm:m<=l.length)(t:TailOk m l){ok:Prop}(d:DRegK P E (l.take m) e0 R jc U ok Qa)
  (hQ:ok->∀c a w,Sim E.N c ⟨(oj e0 R).t,U⟩ a w->E.ok c U w->wpList P l.toArray (kI E Qa) (l.drop m) a w) :
  ∀(qm:Nat) (h0:Array Bool),h0.size=l.length->(∀j,m<=j->h0.getD j false=false)->h0.toList.count false<=qm->iS l (λj=>h0.getD j false)->∀(c:Ctx) (a:Act) (w:World),(h0.getD jc false=true->ok)->DInv E ⟨e0.t,bif h0.getD jc false then U else e0.h⟩ R (λj=>h0.getD j false) c a w->wpAny P .any l.toArray (kI E Qa) qm h0 a w:=by
 intro qm;have oy:(l.take m).length=m:=au;have uF:∀(h0:Array Bool),(∀j,m<=j->h0.getD j false=false)->(∀j,j<m->h0.getD j false=true)->∀j,j<l.length->(h0.getD j false=true↔j<m):=λh0 u0 nz j _=>by grind
 have uX:∀(k:Nat) (h0:Array Bool),h0.size=l.length->(∀j,k<=j->h0.getD j false=false)->k<=l.length->l.length - k<=h0.toList.count false:=λk h0 hL hk hkl=>by
  have O:(h0.toList.drop k).count false=l.length - k:=by
   have U:(h0.toList.drop k).count false=(h0.toList.drop k).length:=List.count_eq_length.2 λb hb=>by
    obtain⟨j,hj⟩:=iw hb;rw[kj]at hj;have:=hk (k+j) J
    simp_all
   grind
  grind[qj3]
 induction qm with
 |zero =>
  intro h0 hL u0 hc qn c a w pg inv;by_cases nz:∀j,j<m->h0.getD j false=true
  .have hj1:=nz jc (by have:=d.lt;omega);obtain⟨s,k⟩:=RF d J (λj hj=>nz j J) inv;have:=uX m h0 hL u0 hm;exact Ca t 0 m h0 (gj _) hm hL (uF h0 u0 nz) J a w (hQ (pg hj1) c a w s k)
  exact Qcl
 |succ qm ih =>
  intro h0 hL u0 hc qn c a w pg inv;by_cases nz:∀j,j<m->h0.getD j false=true
  .have hj1:=nz jc (by have:=d.lt;omega);obtain⟨s,k⟩:=RF d J (λj hj=>nz j J) inv;have:=uX m h0 hL u0 hm;exact Ca t (qm+1) m h0 (gj _) hm hL (uF h0 u0 nz) J a w (hQ (pg hj1) c a w s k)
  obtain⟨i0,g1,g2,g3⟩:=Aw nz;refine⟨λG=>?_,λi hi=>?_⟩
  .exact Qcm
  obtain⟨o,O,U,h3⟩:=B4 hi;have ni:i<h0.size:=W;have hLi:h0.getD i false=false:=W;have tD:i<m:=by
   rcases jz i m with h4|h4
   .exact h4
   exact Qcn
  have s7:(l.take m)[i]?=some o:=W;have Bh:iS (l.take m) λj=>h0.getD j false:=λj o' hj qi e he hb=>by exact Qco
  refine FL tD (λo' j zh qi hg=>?_) (wpOp_mono ?_ (ZS d (X:=λj=>h0.getD j false) pg Bh inv s7 hLi h3))
  .rw[O]at qi;cases qi;have:=d.w.ok.guard i o j zh s7 hg;omega
  rintro a' w' ⟨zi,c',inv'⟩;have hjf:(if jc=i then true else h0.getD jc false)=(h0.setIfInBounds i true).getD jc false:=congrFun (uQ ni) jc;rw[uQ ni,hjf]at inv';rw[hjf]at zi;refine ih _ W (λj hj=>?_) ?_ (FJ ni O h3 qn) c' a' w' zi inv'
  .exact Qcp
  grind[DY]
def Mb(m jc:Nat){ok:Prop}(hm:P.follows .mixedOrders=true)(zg:m<=l.length)(hT:tH m l=true)(d:DRegK P E (l.take m) e R jc U ok hu)
  (hQ:ok->iB P E.N hu ((l.take m).map (·.dst)) (l.drop m) ⟨(oj e R).t,U⟩):AWp P E (.region id l.toArray true) hu e:=λc a w s k=>by
 refine wp_region_any hm ?_;have o9:HSim c e.h { w with drawn:=w.drawn+1 }:=s.hs.ext (λ_ _=>rfl) (.refl c) (λ_ _=>rfl) (λ_ _ _ h=>.inl h) s.hs.dom;have qh:E.ok c e.h { w with drawn:=w.drawn+1 }:=k.ext' s.hs (λ_ _=>rfl) (.refl c) (λ_=>rfl) rfl rfl rfl (gj _) (λ_ _ _ h=>.inl h);have cK:(λ_=>false)=λj=>(Array.replicate l.toArray.size false).getD j false:=by exact Qcq
 have L:=congrFun cK jc;refine Up zg (D7 hT) d (λpg c' a' w' s' k'=>?_) _ _ Z (λj _=>(congrFun cK j).symm) ?_ ?_ c a _ ?_ ?_
 .exact uE (l.drop m) (l.take m) _ Z (hQ pg) c' a' w' s' k'
 .simp
 .exact Qcr
 .grind
 rw[<-L,<-cK];exact Fz (e0:=⟨e.t,e.h⟩) ⟨s.defers,s.size,s.tmps,o9⟩ qh
def DR.isQ(r:DR):Bool:=match r.k with
 | .quiet _=>true
 |_=>false
def HH:R.all DR.isQ=true↔∀r,r∈R->∃rd,r.k=.quiet rd:=by grind[jk,DR.isQ]
theorem Iu{r:DR}(h:∃rd,r.k=.quiet rd)(e:Env)(Y:mz):r.next ⟨e.t,Y⟩=⟨(r.next e).t,Y⟩/\(r.next e).h=e.h:=by
 obtain⟨rd,hk⟩:=h;unfold DR.next
 simp only[hk];cases r.dst<;>exact⟨rfl,rfl⟩
theorem yE:∀{R:List DR},(∀r,r∈R->∃rd,r.k=.quiet rd)->∀(e:Env) (Y:mz),oj ⟨e.t,Y⟩ R=⟨(oj e R).t,Y⟩/\(oj e R).h=e.h
 | [],_,_,_=>⟨rfl,rfl⟩
 |r::R,h,e,Y=>by have O:=Iu (h r Z) e Y;have U:=yE (R:=R) (λr' G=>h r' (List.mem_cons_of_mem _ G)) (r.next e) Y;simp only[oj];grind
def J6(P:Program)(py:FuncId)(args:List V)(e:Env)(KA:V->mz->Prop)(KP:V->mz->Prop)(_:Tag KA)(_:Tag KP):Prop :=
 ∃(ok:Prop) (r:V) (U:mz),ACalls P py args e.h (λx Y=>match x with
  | .ret v=>ok/\v=r/\Y=U
  | .panic v=>KP v Y)/\(ok->KA r U)
def B3{P:Program}{args:List V}{t1:Tag KA}{t2:Tag KP}{r:V}(h:ACalls P py args e.h λx Y=>x=.ret r/\Y=U)(k:KA r U):J6 P py args e KA KP t1 t2 :=
 ⟨True,r,U,h.mono Z,λ_=>k⟩
def UF{P:Program}{args:List V}{t1:Tag KA}{t2:Tag KP}{v:V}(h:ACalls P py args e.h λx Y=>x=.panic v/\Y=U)(k:KP v U):J6 P py args e KA KP t1 t2 :=
 ⟨False,.top,U,h.mono W,λh=>h.elim⟩
def HZ(f:mz->Prop)(_:Tag f)(h:mz):Prop:=f h
def AN(P:Program)(N:Nat)(u:List Nat)(KC:List (Option Tmp)->List Oper->Env->List DR->(mz->Prop)->Prop):Nat->Nat->List (Option Tmp)->List Oper->Env->List DR->(mz->Prop)->Prop
 | 0,_,ds,l,e,nw,pd=>KC ds l e nw pd
 |_+1,_,_,[],_,_,_=>False
 |n+1,k,ds,o::l,e,nw,pd=>Ba P N ds o e nw λe nw r=>AN P N u KC n (k+1) (ds++[o.dst]) l (r.next e) (nw++[r])
   (if k∈u then HZ (λU=>pd U/\Ba P N ds o ⟨e.t,U⟩ nw λ_ _ r'=>r'=r) ⟨⟩else pd)
def Jy(P:Program)(N:Nat)(hu:AExit->Env->Prop)(tl:List Oper)(ds:List (Option Tmp))(l:List Oper)(e:Env)(nw:List DR)(pd:mz->Prop):Prop :=
 match l with
 | []=>False
 |o::l =>
  match o.op with
  | .call { callee:=.value f,args,.. } =>
   gB ds e o.guard=some true/\iJ N o.dst/\nw.all DR.isQ=true/\sn e true (f::args.toList)/\match e.getS f with
   | .fn (.func py) first pk=>J6 P py (qu e.h (first++args.toList.map e.getS++pk)) e
     (λr U=>pd U/\xR P N (ds++[o.dst]) l ((⟨o.dst,wo o.guard true r,.quiet none⟩:DR).next ⟨e.t,U⟩) (nw++[⟨o.dst,wo o.guard true r,.quiet none⟩]) λR e1=>R.all DR.isQ=true/\iB P N hu (ds++o.dst::l.map (·.dst)) tl ⟨e1.t,U⟩)
     (λv U=>hu (.panic v) ⟨[],U⟩) ⟨⟩ ⟨⟩
   |_=>False
  |_=>False
def Gv(m jc:Nat)(u:List Nat)(l:List Oper):Bool :=
 let b:=Region.before (l.take m).toArray
 decide (m<=l.length)&&decide (jc<m)&&uS (l.take m)&&tH m l &&
 ((List.range m).all λk=>k == jc||(decide (k<jc)&&(zc b k jc||u.contains k))||(decide (jc<k)&&zc b jc k))
def Im{P:Program}{N:Nat}{u:List Nat}{KC:List (Option Tmp)->List Oper->Env->List DR->(mz->Prop)->Prop}:∀{n k:Nat} {ds:List (Option Tmp)} {l:List Oper} {e:Env} {nw:List DR} {pd:mz->Prop},AN P N u KC n k ds l e nw pd ->
  ∃(R:List DR) (pd':mz->Prop),R.length=n/\n<=l.length/\(∀(j:Nat) (o:Oper),j<n->l[j]?=some o->cA P N (ds++(l.take j).map (·.dst)) o (oj e (R.take j)) (λr=>R[j]?=some r)) /\
   KC (ds++(l.take n).map (·.dst)) (l.drop n) (oj e R) (nw++R) pd' /\
   ∀U,pd' U->pd U/\∀(j:Nat) (o:Oper),j<n->k+j∈u->l[j]?=some o->cA P N (ds++(l.take j).map (·.dst)) o ⟨(oj e (R.take j)).t,U⟩ (λr=>R[j]?=some r)
 | 0,k,ds,l,e,nw,pd,h=>⟨[],pd,rfl,il _,λj o hj=>by omega,by simpa[oj,AN]using h,λU hp=>⟨hp,λj o hj=>by omega⟩⟩
 |n+1,k,ds,[],e,nw,pd,h=>h.elim
 |n+1,k,ds,o::l,e,nw,pd,h=>by
  obtain⟨r,O,U⟩:=IT (KV (K:=λe nw r=>AN P N u KC n (k+1) (ds++[o.dst]) l (r.next e) (nw++[r]) (if k∈u then HZ (λU=>pd U/\Ba P N ds o ⟨e.t,U⟩ nw λ_ _ r'=>r'=r) ⟨⟩else pd)) h);obtain⟨R,pd',hl,hn,hs,hK,hp⟩:=Im U;refine⟨r::R,pd',fl,by simpa using hn,λj o' hj ho=>?_,by simpa[oj]using hK,λU hq=>?_⟩
  .cases j with
   |zero =>
    grind[oj]
   |succ j =>
    simp_all[oj,jf]
  obtain⟨h3,h4⟩:=hp U hq;refine⟨?_,λj o' hj Q ho=>?_⟩
  .split at h3
   .exact h3.1
   exact h3
  cases j with
  |zero =>
   simp at ho;subst ho;rw[jt]at Q;rw[gh Q]at h3;have:=KV h3.2;grind[oj]
  |succ j =>
   have:=h4 j o' J W W
   simp_all[oj,jf]
theorem Kk{x:Operand}(h:x∈o.op.operands.toList):(mS e o).get x=e.get x:=by
 cases x with
 |tmp t =>
  simp only[Env.get,mS,Ig];grind[uU]
 |_=>rfl
def I5{e:Env}{o:Oper}:∀{l:List Operand},(∀x,x∈l->x∈o.op.operands.toList)->sn e true l->sn (mS e o) true l
 | [],_,_=>trivial
 |x::l,h,k=>⟨by rw[Kk (h x Z)];exact k.1,I5 (λy hy=>h y c0) k.2⟩
def AT(m jc:Nat)(u:List Nat)(hm:P.follows .mixedOrders=true)(hB:Gv m jc u l=true)
  (h:AN P E.N u (Jy P E.N hu (l.drop m)) jc 0 [] (l.take m) e [] λ_=>True):AWp P E (.region id l.toArray true) hu e:=by
 simp only[Gv,gy,jm]at hB;obtain⟨⟨⟨⟨zg,hjm⟩,hdB⟩,hT⟩,hO⟩:=hB;have pg:=Ct hdB;obtain⟨R1,pd,qM,hn,aA,hK,hp⟩:=Im h;simp only[ke]at aA hK hp;have oy:(l.take m).length=m:=au;have hd:(l.take m).drop jc=(l.take m)[jc]'J::(l.take m).drop (jc+1):=qiv J;generalize hoc:(l.take m)[jc]'J=oc at hd;have hoc':(l.take m)[jc]?=some oc:=W;rw[hd]at hK;simp only[Jy]at hK;split at hK
 rotate_left
 .grind
 rename_i f args ats p8;obtain⟨hg,dU,hQ1,nz,hK⟩:=hK;have hq1:=HH.1 hQ1;split at hK
 rotate_left
 .grind
 rename_i py first pk hf
 obtain⟨ok,r,U,hc,hKA⟩:=hK;have gK:∀k,k<m->k≠jc->(k<jc/\(zc (Region.before (l.take m).toArray) k jc=true\/k∈u))\/(jc<k/\zc (Region.before (l.take m).toArray) jc k=true):=λk hk nv=>by grind
 have dD:oc.op.operands.toList=f::args.toList:=by rw[p8];simp[Op.operands,Call.operands]
 have hR2:∃R2:List DR,R2.length=((l.take m).drop (jc+1)).length/\(∀r',r'∈R2->∃rd,r'.k=.quiet rd)/\(∀(j:Nat) (r':DR),R2[j]?=some r'->∃o,((l.take m).drop (jc+1))[j]?=some o/\r'.dst=o.dst) /\
   (ok->pd U/\(∀(j:Nat) (o:Oper),((l.take m).drop (jc+1))[j]?=some o->cA P E.N (((l.take m).take jc).map (·.dst)++[oc.dst]++(((l.take m).drop (jc+1)).take j).map (·.dst)) o (oj ((⟨oc.dst,wo oc.guard true r,.quiet none⟩:DR).next ⟨(oj e R1).t,U⟩) (R2.take j)) (λr'=>R2[j]?=some r')) /\
    iB P E.N hu ((l.take m).map (·.dst)) (l.drop m) ⟨(oj ((⟨oc.dst,wo oc.guard true r,.quiet none⟩:DR).next ⟨(oj e R1).t,U⟩) R2).t,U⟩):=by
  by_cases hk:ok
  .obtain⟨h3,h4⟩:=hKA hk;obtain⟨R2,g1,g2,g3⟩:=Bv (CD h4);obtain⟨g4,g5⟩:=g3;rw[List.all_append,List.all_append,gy,gy]at g4;refine⟨R2,g1,HH.1 g4.2,λj r' hj=>?_,λ_=>⟨h3,g2,?_⟩⟩
   .have ni:j<((l.take m).drop (jc+1)).length:=by rw[<-g1];exact(gn.1 hj).1
    obtain⟨_,r'',k1,k2,_⟩:=AU (g2 j _ (ii ni));grind
   grind[me]
  refine⟨((l.take m).drop (jc+1)).map λo=>⟨o.dst,.top,.quiet none⟩,Z,λr' G=>?_,λj r' hj=>?_,λh=>(hk h).elim⟩
  .grind
  grind
 obtain⟨R2,lX,hq2,pG,AR⟩:=hR2;generalize hrc:(⟨oc.dst,wo oc.guard true r,.quiet none⟩:DR)=rc at AR;have Bz:∀k,k<jc->(R1++rc::R2)[k]?=R1[k]?:=λk hk=>gu J;have hgetc:(R1++rc::R2)[jc]?=some rc:=W;have Ci:∀k,jc<k->(R1++rc::R2)[k]?=R2[k - (jc+1)]?:=λk hk=>by rw[gz J,qM,show k - jc=(k - (jc+1))+1 by omega,qjk]
 have zL:∀k,k<=jc->(R1++rc::R2).take k=R1.take k:=λk hk=>by rw[qkd J]
 have I2:∀k,jc<k->(R1++rc::R2).take k=R1++rc::R2.take (k - (jc+1)):=λk hk=>by rw[List.take_append,ll J,qM,show k - jc=(k - (jc+1))+1 by omega,qix]
 have hqR:∀r',r'∈R1++rc::R2->∃rd,r'.k=.quiet rd:=λr' G=>by
  rcases jj.1 G with G|G
  .simp_all
  rcases iq.1 G with rfl|G
  .grind
  simp_all
 have hdrop:∀k,jc<k->((l.take m).drop (jc+1))[k - (jc+1)]?=(l.take m)[k]?:=λk hk=>by rw[kj,show jc+1+(k - (jc+1))=k by omega]
 have dW:DRegW (l.take m) (R1++rc::R2):=by
  refine⟨pg,by simp[qM,lX];omega,λ{k r'} G=>?_,λk s r' r'' i off cs _ _ hs hk=>?_⟩
  .have ni:k<m:=by have:=(gn.1 G).1;simp[qM,lX]at this;omega
   obtain⟨rd,hk⟩:=hqR r' (gw G);have qz:(∃i off cs,r'.k=.store i off cs)->∀o:Oper,rE o.op=true:=W;rcases qjs k jc with O|O|O
   .exact Qcy
   .grind
   rw[Ci k O]at G;obtain⟨o,k1,k2⟩:=pG _ _ G;grind
  obtain⟨rd,O⟩:=hqR r'' (gw hs);grind
 have d:DRegK P E (l.take m) e (R1++rc::R2) jc U ok hu:=by
  refine⟨dW,J,hqR,λk o ho nv qz=>?_,λhk k o ho nv qz=>?_,λo ho=>?_⟩
  .have ni:k<m:=by have:=(gn.1 ho).1;omega
   rcases gK k ni nv with⟨O,_⟩|⟨_,O⟩
   .rw[zL k J,Bz k O]
    simp_all
   grind
  .have ni:k<m:=by have:=(gn.1 ho).1;omega
   obtain⟨g1,g2,_⟩:=AR hk;rcases gK k ni nv with⟨O,h3|h3⟩|⟨O,_⟩
   .grind
   .exact Qcz
   have:=g2 (k - (jc+1)) o W;have e1:((l.take m).take jc).map (·.dst)++[oc.dst]++(((l.take m).drop (jc+1)).take (k - (jc+1))).map (·.dst)=((l.take m).take k).map (·.dst):=by rw[show(l.take m).take k=(l.take m).take (jc+(1+(k - (jc+1))))by congr 1;omega,List.take_add,hd,jr,Nat.add_comm 1,qix];simp
   rw[e1]at this;rw[I2 k O,Ci k O];have e2:oj ⟨e.t,U⟩ (R1++rc::R2.take (k - (jc+1)))=oj (rc.next ⟨(oj e R1).t,U⟩) (R2.take (k - (jc+1))):=by
    have:∀(mw hN:List DR) (x:Env),oj x (mw++hN)=oj (oj x mw) hN:=by
     intro mw
     induction mw with
     |nil=>intro hN x;rfl
     |cons a mw ih=>intro hN x;exact ih hN _
    rw[this,(yE (R:=R1) (λr' G=>hq1 r' J) e U).1];rfl
   grind
  rw[hoc']at ho;cases ho;refine⟨r,by rw[zL jc (gj _),ll (l:=R1) J];exact hg,dU,by rw[hgetc,<-hrc],?_⟩;rw[zL jc (gj _),ll J];show xw P (mS (oj e R1) oc) oc.op _ _;have hh:=(yE (R:=R1) (λr' G=>hq1 r' J) e e.h).2;have u0:∀x,x∈f::args.toList->(mS (oj e R1) oc).getS x=(oj e R1).getS x:=λx hx=>by grind[Kk,Env.getS]
  have hmap:args.toList.map (mS (oj e R1) oc).getS=args.toList.map (oj e R1).getS:=qi7 λx hx=>u0 x be;have GA:=I5 (o:=oc) (λx hx=>by rw[dD];exact hx) nz;rw[p8];refine⟨GA,?_⟩;rw[u0 f Z,hf,hmap];exact hc
 refine Mb m jc hm zg hT d λhk=>?_;obtain⟨_,_,g3⟩:=AR hk;have:∀(mw hN:List DR) (x:Env),oj x (mw++hN)=oj (oj x mw) hN:=by
  intro mw
  induction mw with
  |nil=>intro hN x;rfl
  |cons a mw ih=>intro hN x;exact ih hN _
 have e3:(oj e (R1++rc::R2)).t=(oj (rc.next ⟨(oj e R1).t,U⟩) R2).t:=by
  rw[this];show(oj (rc.next (oj e R1)) R2).t=_
  simp_all[yE,Iu]
 grind
end
end
attribute [go_sem] AN Jy HZ DR.isQ
