/- Part 18 of a proof. -/
import Derived.RangeFuncSeq
import Derived.Lib.SliceRun
import Derived.Shelf.Sort.Plain
import Derived.Shelf.Slices.CompactI
import Derived.Shelf.Slices.In.SortNone
import Derived.Test.YtbimdamecieomaaGreatDoorR14
import Derived.Test.YtbimdamecieomaaGreatDoorR17
set_option linter.all false
namespace Go.Abs
section
variable {P:Program} {E:Ent}
def AYield(P:Program)(l:Nat)(args:List AV)(h:gz)(R:AEnd→gz→Prop):Prop :=
 ∀(m:Nat) (c:Ctx) (w:World) (vs:Array Value),HSim c h w→RelL c args vs →
  YieldAt (WF none) m P l vs w fun e w'=>∃r h' c',R r h'∧EndR c' r e∧HSim c' h' w'∧(⟨0,c,h,w⟩:Ent).ok c' h' w'
theorem ji1{o:Oper}{ev:Operand→Value}{w:World}{f:Operand}{args:Array Operand}{ts:Array TypeId}(ho:o.op=.call { callee:=.value f,args:=args,argTypes:=ts }){l:Nat}
  (hf:ev f=.func (.yield l) #[] #[]):(execOp ev o).run P w=(Instr.yield l (args.map ev)).run P w:=by
 simp[execOp,ho,resolve,hf,Deferred.ofValue,invoke,dh,dy,dj]
theorem jda{c:Ctx}{e:Env}{a:Act}{w:World}(s:Sim E.N c e a w)(k:E.ok c e.h w){ds:List Deferred}{o:Oper}{f:Operand}{args:Array Operand}{ts:Array TypeId}(ho:o.op=.call { callee:=.value f,args:=args,argTypes:=ts })
  (ix:l6 e true (f::args.toList)) {l:Nat} (hf:e.getS f=.fn (.yield l) [] []) {R:AEnd→gz→Prop} (hy:AYield P l (kc e.h (args.toList.map e.getS)) e.h R) {n:Nat} {nx:Act→World→Prop} {Q:Exit→Act→World→Prop}
  (vt:∀v h' c' w' u,R (.ret v) h'→c.le c'→HSim c' h' w'→E.ok c' h' w'→Rel c' v u→nx ((mr ds a).put o.dst u) w') (qwp:∀v h',R (.panic v) h'→False):o.wpIn (WF none) n P (mr ds a) w nx Q:=by
 have jz:=qx s ix;have xd:=jz f ae;rw[hf]at xd;have hev:a.eval f=.func (.yield l) #[] #[]:=by
  generalize a.eval f=z at xd;cases xd with
  |data h=>cases h
  |fn f ys xs us vs pf hl h' h =>
   simp only[ee,Array.size_eq_zero_iff]at hl pf;rw[hl,pf]
 have qrh:RelL c (args.toList.map e.getS) (args.map a.eval):=RelL.map fun x hx=>jz x bt;have xbg:=qrh.norm s.hs;obtain⟨s1,k1⟩:=qx1 s.hs k;refine⟨fun _ _=>trivial,?_⟩;show o.uponIn (WF none) n P (mr ds a) nx Q ((o.semAt none (mr ds a).eval).run P w);have hev':(mr ds a).eval=a.eval:=rfl;rw[Oper.semAt_none,hev',ji1 ho hev];obtain⟨fn,tmps,mf,body,h1,h2⟩:=hy (n - 1) _ w _ s1 xbg;rw[h1];refine⟨fun h=>(by cases h),h2.mono ?_⟩;rintro en w' ⟨r,h',c',hR,hE,jd,kb⟩;have ig:c.le c':=(qxd c e.h w).trans kb.ext;have jm:E.ok c' h' w':=k1.trans kb;cases r with
 |ret x=>cases en<;>simp only[EndR]at hE;exact vt x h' c' w' _ hR ig jd jm hE
 |panic x=>exact(qwp _ _ hR).elim
def xka(P:Program)(N:Nat)(Q:AExit→Env→Prop)(ds:List (Option Tmp))(o:Oper)(e:Env)(K:Env→Prop):Prop :=
 match o.op with
 | .call { callee:=.value f,args,.. }=>match e.getS f with
  | .fn (.yield l) [] []=>o.guard=none∧yw N o.dst∧l6 e true (f::args.toList)∧AYield P l (kc e.h (args.toList.map e.getS)) e.h fun r h'=>match r with
   | .ret v=>K (({ e with h:=h' }:Env).put o.dst v)
   | .panic _=>False
  |_=>stepG P N Q ds o e K
 |_=>stepG P N Q ds o e K
def qv1(P:Program)(N:Nat)(Q:AExit→Env→Prop):List (Option Tmp)→List Oper→Env→Prop
 |_,[],e=>Q .normal e
 |ds,o::l,e=>xka P N Q ds o e (qv1 P N Q (ds++[o.dst]) l)
variable {Q:AExit→List Deferred→Env→Prop} {ds:List Deferred} {e:Env}
theorem xre(a:Act)(t:Option Tmp)(v:Value):(mr ds a).put t v=mr ds (a.put t v):=by cases t<;>rfl
theorem xwt{n:Nat}{ops:Array Oper}:∀(l:List Oper) (done:List Oper) (e:Env),ops.toList=done++l→(l.all fun o=>!qvj o.op)=true→qv1 P E.N (fun x e=>Q x ds e) (done.map (·.dst)) l e →
  ∀c a w,Sim E.N c e a w→E.ok c e.h w→wpListIn (WF none) n P ops (xa3 E Q) l (mr ds a) w
 | [],done,e,_,_,h,c,a,w,s,k=>⟨.normal,ds,e,c,a,rfl,h,trivial,s,k⟩
 |o::l,done,e,te,hd,h,c,a,w,s,k=>by
  simp only[qll,c0,qls]at hd;have ih:=fun e'=>xwt (n:=n) (ops:=ops) l (done++[o]) e' qjr hd.2;simp only[dz,c8,e6]at ih;simp only[qv1]at h;have plain:stepG P E.N (fun x e=>Q x ds e) (done.map (·.dst)) o e (qv1 P E.N (fun x e=>Q x ds e) (done.map (·.dst)++[o.dst]) l)→wpListIn (WF none) n P ops (xa3 E Q) (o::l) (mr ds a) w:=fun h=>by
   have h1:=xgc (xw2 h) (fun G hG=>qx8 te s hG) s k (nx:=fun a' w'=>∃e' c',qv1 P E.N (fun x e=>Q x ds e) (done.map (·.dst)++[o.dst]) l e'∧Sim E.N c' e' a' w'∧E.ok c' e'.h w') fun e' c' a' w' hK s' k'=>⟨e',c',hK,s',k'⟩
   unfold wpListIn;have e1:(mr ds a).tmps=a.tmps:=rfl;rw[e1];split at h1
   ·rename_i hw;rw[if_pos hw];have no:¬LetsOut (qna E (fun x e=>Q x ds e)):=fun ⟨a,w,x',e,c,_,hx,_⟩=>by cases x'<;>exact hx
    rcases h1 with h1|⟨_,h1⟩
    ·refine Oper.wpIn_mono (fun a' w' hh=>?_) (xjf hd.1 (xro (d:=ds) h1 (next':=fun a' w'=>∃a0,a'=mr ds a0∧∃e' c',qv1 P E.N (fun x e=>Q x ds e) (done.map (·.dst)++[o.dst]) l e'∧Sim E.N c' e' a0 w'∧E.ok c' e'.h w') (fun a' w' hh=>⟨a',rfl,hh⟩) (fun _ _ _ hh=>xfw hh)))
     obtain⟨a0,rfl,e',c',hK,s',k'⟩:=hh;exact ih e' hK c' a0 w' s' k'
    ·exact(no h1).elim
   ·rename_i hw;rw[if_neg hw,xre];obtain⟨e',c',hK,s',k'⟩:=h1;exact⟨fun _ _=>trivial,ih e' hK c' _ w s' k'⟩
  obtain⟨dst,op,ty,pos,after,guard⟩:=o;cases op with
  |call cl =>
   obtain⟨callee,args,ats⟩:=cl;cases callee with
   |value f =>
    unfold xka at h;simp only at h;split at h
    ·rename_i lp hf;obtain⟨rfl,qq7,ix,hy⟩:=h;unfold wpListIn;rw[if_pos (by simp[Region.wanted])];refine jda s k rfl ix hf hy (fun v h' c' w' u hR ig jd kb hru=>?_) fun v h' hR=>hR;rw[xre];exact ih _ hR c' _ w' (s.put ig jd (qxy qq7) hru) (by cases dst<;>exact kb)
    ·exact plain h
   |_=>exact plain h
  |_=>exact plain h
theorem jcs{id:Nat}{l:List Oper}(hd:(l.all fun o=>!qvj o.op)=true)(h:qv1 P E.N (fun x e=>Q x ds e) [] l e):sk P E none (.region id l.toArray false) Q ds e:=fun n c a w s k =>
 wpIn_region_list (by simpa using xwt (n:=n) (ops:=l.toArray) l [] e ae hd bh c a w s k)
def vy(st:LoopState)(pe:Option Code)(fn:FuncId)(ps:Array Tmp)(mf body:Code)(D:Nat)(tm:Array Value):Obj:=.loop { state:=st,pending:=pe,fn,tmps:=tm,params:=ps,assign:=mf,body,defers:=D }
def sh(D:Nat):AObj:=.raw D (fun _=>.deferred (some [])) []
def qqm(D:Nat):Deferred:={ target:=.collected D,args:=#[] }
def slots(N:Nat)(e:Env):List AV:=(List.range N).map (kj e.t)
theorem jgm{N:Nat}{c:Ctx}{a:Act}{w:World}(s:Sim N c e a w):a.tmps.size=(slots N e).length∧∀(j:Nat) (x:AV) (v:Value),(slots N e)[j]?=some x→a.tmps[j]?=some v→Rel c x v :=
 ⟨by simp[slots,s.size],fun j x v hx hv=>by
  simp only[slots,dq,List.getElem?_range']at hx;rw[dn]at hx;obtain⟨j',h1,rfl⟩:=hx;have:j'=j:=by
   have:=cq.1 h1;simpa using this.2.symm
  subst this;have:=s.tmps j'
  rwa [ed,hv]at this⟩
set_option maxHeartbeats 400000 in
theorem jij{g:Operand}{ps:Array Tmp}{mf body:Code}{gf:FuncId}{caps:List AV}(hg:e.get g=.fn (.func gf) [] caps)
  (h:∀(fn:FuncId) (D l:Nat),ACalls P gf (kc (e.h++[sh D,.raw l (vy .ready none fn ps mf body D) (slots E.N e)]) ([.fn (.yield l) [] []]++caps)) (e.h++[sh D,.raw l (vy .ready none fn ps mf body D) (slots E.N e)]) fun r h' =>
   (∃v,r=.ret v)∧∃st pe,st≠.busy∧h'[e.h.length+1]?=some (.raw l (vy st pe fn ps mf body D) (slots E.N e)) ∧
    match pe with
    |none=>Q .normal (qqm D::ds) ⟨e.t,h'.set (e.h.length+1) (.raw l (vy .exhausted none fn ps mf body D) (slots E.N e))⟩
    |some c=>sk P E none c Q (qqm D::ds) ⟨e.t,h'.set (e.h.length+1) (.raw l (vy .exhausted pe fn ps mf body D) (slots E.N e))⟩) :
  sk P E none (.rangeFunc g ps mf body) Q ds e:=fun n c a w s k=>by
 refine wpIn_rangeFunc fun fn _=>?_;have hgr:=s.eval g;rw[hg]at hgr;obtain⟨vs,hev,qv0⟩:∃vs,a.eval g=.func (.func gf) #[] vs∧RelL c caps vs:=by
  generalize a.eval g=z at hgr;cases hgr with
  |data h=>cases h
  |fn f ys xs us vs pf hl h' h =>
   simp only[ee,Array.size_eq_zero_iff]at pf;subst pf;exact⟨vs,rfl,⟨hl,h⟩⟩
 -- the two blocks
 obtain⟨c1,l1,s1,k1⟩:=xwg s.hs k (fun _=>.deferred (some [])) (xs:=[]) (vs:=#[]) ⟨rfl,fun j x v hx=>by simp at hx⟩;have sr:=jgm s;obtain⟨c2,l2,s2,k2⟩:=xwg s1 k1 (vy .ready none fn ps mf body w.heap.size) (xs:=slots E.N e) (vs:=a.tmps) ⟨sr.1,fun j x v hx hv=>(sr.2 j x v hx hv).mono l1⟩;have hH:e.h++[AObj.raw w.heap.size (fun _=>.deferred (some [])) []]++[AObj.raw (w.alloc (Obj.deferred (some []))).heap.size (vy .ready none fn ps mf body w.heap.size) (slots E.N e)]=e.h++[sh w.heap.size,.raw (w.heap.size+1) (vy .ready none fn ps mf body w.heap.size) (slots E.N e)]:=by
  simp[sh,World.size_alloc]
 rw[hH]at s2 k2;have ig:=l1.trans l2;have hc:=h fn w.heap.size (w.heap.size+1);have jz:RelL c2 ([.fn (.yield (w.heap.size+1)) [] []]++caps) (#[.func (.yield (w.heap.size+1)) #[] #[]]++vs):=RelL.app ⟨rfl,fun j x v hx hv=>by
  match j with
  | 0=>simp at hx hv;subst hx;subst hv;exact .fn _ [] [] #[] #[] rfl rfl ae ae
  |j+1=>simp at hx⟩ ⟨qv0.1,fun j x v hx hv=>(qv0.2 j x v hx hv).mono ig⟩
 have qpw:=hc.2 _ _ _ s2 (jz.norm s2);have hen:=run_enterLoop_outer (P:=P) (w:=w) fn (mr ds a).tmps ps mf body;obtain⟨W2,hW2⟩:∃W2,W2=(w.alloc (.deferred (some []))).alloc (vy .ready none fn ps mf body w.heap.size a.tmps):=⟨_,rfl⟩
 have hen':(Instr.enterLoop fn (mr ds a).tmps ps mf body (WF none).round).run P w=.ok (w.heap.size+1,[qqm w.heap.size]) W2:=by
  rw[hW2];exact hen
 rw[←hW2]at qpw;clear hen s2 k1 s1;have hev1:(mr ds a).eval=a.eval:=rfl;have hres:(resolve (mr ds a).eval (rangeCall g (w.heap.size+1)) 0).run P W2=.ok { target:=.fn (.func gf) vs,args:=#[.func (.yield (w.heap.size+1)) #[] #[]] } W2:=by
  simp only[rangeCall,resolve,hev1,hev,Deferred.ofValue,dy];simp[Act.eval]
 obtain⟨fnn,e1,e2,e3⟩:=hc.1;have hb:fnn.body.isNone=false:=by
  cases hbd:fnn.body with
  |none=>rw[hbd]at e2;simp at e2
  |some b=>rfl
 have hinv:(invoke (.fn (.func gf) vs) #[.func (.yield (w.heap.size+1)) #[] #[]]).run P W2=.ok (.enter gf (#[.func (.yield (w.heap.size+1)) #[] #[]]++vs)) W2:=by
  simp only[invoke,callFunc,dh,dy,dj,run_program,e1,e3,hb,fw,if_false]
 rw[←hW2]at k2;refine⟨_,_,_,_,_,_,_,_,hen',hres,fun _ _=>trivial,hinv,fun h=>(by cases h),?_⟩;refine xl9.2 ?_;refine qpw.mono ?_;rintro en w3 ⟨r,h',c',⟨⟨v,rfl⟩,st,pe,mj,hrec,hQ⟩,hE,jd,kb⟩;cases en<;>simp only[EndR]at hE;obtain⟨hb,tm,htm,jq,nk⟩:=jd.obj _ _ hrec;have hend:=run_endLoop (P:=P) htm mj;have jm:E.ok c' h' w3:=k2.trans kb;have hle':c.le c':=ig.trans kb.ext;obtain⟨s4,k4⟩:=xa0 (f':=vy .exhausted pe fn ps mf body w.heap.size) jd jm hrec htm ⟨jq,nk⟩;have act:({ mr ds a with defers:=[qqm w.heap.size]++(mr ds a).defers }:Act)=mr (qqm w.heap.size::ds) a:=by
  simp[mr,s.defers]
 refine⟨pe,_,hend,?_⟩;rw[act];cases pe with
 |none=>exact⟨.normal,_,⟨e.t,_⟩,c',a,rfl,hQ,trivial,⟨s.defers,s.size,fun i=>(s.tmps i).mono hle',s4⟩,k4⟩
 |some cd=>exact hQ n c' a _ ⟨s.defers,s.size,fun i=>(s.tmps i).mono hle',s4⟩ k4
end
section
variable {P:Program} {E:Ent}
theorem jh9(m:Nat){l:List Oper}{Q:AExit→Env→Prop}{e:Env}(hB:(decide (m≤l.length)&&quy (l.take m)&&qus m l)=true)
  (h:qou P E.N [] (l.take m) e [] fun R e1=>pm (Region.before (l.take m).toArray) R∧qrb P E l.toArray (l.drop m) Q ⟨e1.t,rp R e1.h⟩) {c:Ctx} {a:Act} {w:World} (s:Sim E.N c e a w) (k:E.ok c e.h w) :
  wpAny P .any l.toArray (qna E Q) l.toArray.size (Array.replicate l.toArray.size false) a { w with drawn:=w.drawn+1 }:=by
 obtain⟨R,jr,quz,qr4,hQ⟩:=qxf h;simp only[ej]at qr4 hQ;simp only[c0,decide_eq_true_eq]at hB;obtain⟨⟨sp,hB⟩,hT⟩:=hB;have d:DReg P E (l.take m) e R:=⟨xbi hB,jr,fun k o ho=>by simpa using quz k o ho,fun k s r r' i off cs hr hk hs hks=>by
  simp only[pm,dw]at qr4;have:=qr4 (r,k) qhd;simp only[hk,dw]at this;have:=this (r',s) qkb;simpa[hks]using this⟩
 have jd:HSim c e.h { w with drawn:=w.drawn+1 }:=s.hs.ext (fun _ _=>rfl) (.refl c) (fun _ _=>rfl) (fun _ _ _ h=>.inl h) s.hs.dom;have kb:E.ok c e.h { w with drawn:=w.drawn+1 }:=k.ext' s.hs (fun _ _=>rfl) (.refl c) (fun _=>rfl) rfl rfl rfl (ct _) (fun _ _ _ h=>.inl h);have hff:(fun _=>false)=fun j=>(Array.replicate l.toArray.size false).getD j false:=by
  funext j;simp[ed,Array.getElem?_replicate];split<;>rfl
 refine xo7 sp (xjs hT) d k.len (fun c' a' w' s' k'=>?_) _ _ ae (fun j _=>(congrFun hff j).symm) ?_ ?_ c a _ ?_
 ·exact hQ c' a' w' s' k'
 ·simp
 ·intro j o hj;rw[←hff]at hj;cases hj
 ·rw[←hff];exact xe9 ⟨s.defers,s.size,s.tmps,jd⟩ kb
variable {ro:Option Nat} {Q:AExit→List Deferred→Env→Prop} {ds:List Deferred} {e:Env}
theorem jkx{id:Nat}(m:Nat){l:List Oper}(hm:P.follows .mixedOrders=true)(hB:(decide (m≤l.length)&&quy (l.take m)&&qus m l)=true)(hd:(l.all fun o=>!qvj o.op)=true)
  (h:qwe P E.N [] (l.take m) e [] fun R e1=>pm (Region.before (l.take m).toArray) R∧qnz P E.N (fun x e=>Q x [] e) ((l.take m).map (·.dst)) (l.drop m) ⟨e1.t,rp R e1.h⟩):sk P E ro (.region id l.toArray true) Q [] e:=fun n c a w s k=>by
 have h1:=jh9 (P:=P) (E:=E) m hB (xv1 (xad h) fun _ _ hk=>⟨hk.1,qds (l.drop m) (l.take m) _ ae hk.2⟩) s k;have e0:mr [] a=a:=by simp[mr]
 rw[e0];refine wpIn_mono (wpIn_region_any hm (xgi (by rintro⟨a,w,x',e,c,_,hx,_⟩;cases x'<;>exact hx) (fun i o ho=>?_) h1)) fun x a' w' hh=>?_
 ·have:o∈l:=by
   have:=c7 (l:=l) (i:=i) (a:=o) qgp;exact this
  have:=dw.1 hd o this;simpa using this
 ·have:=xfw (Q:=Q) (ds:=[]) hh;have e1:mr [] a'=a':=by simp[mr]
  rwa [e1]at this
def xqi(E:Ent)(idx l:Nat)(fn:FuncId)(ps:Array Tmp)(mf body:Code)(D:Nat)(xs:List AV)(R:AEnd→gz→Prop):AExit→List Deferred→Env→Prop
 | .normal,_,e=>e.h[idx]?=some (.raw l (vy .busy none fn ps mf body D) xs)∧∃h',Wk E ⟨[],e.h.set idx (.raw l (vy .ready none fn ps mf body D) xs)⟩ ⟨[],h'⟩∧R (.ret (.val (.bool true))) h'
 | .ret,_,e=>e.h[idx]?=some (.raw l (vy .busy none fn ps mf body D) xs)∧∃h',Wk E ⟨[],e.h.set idx (.raw l (vy .done (some .ret) fn ps mf body D) xs)⟩ ⟨[],h'⟩∧R (.ret (.val (.bool false))) h'
 |_,_,_=>False
theorem xts{e e1:Env}{c:Ctx}{w:World}(hw:Wk E ⟨[],e.h⟩ ⟨[],e1.h⟩)(s:HSim c e.h w)(k:E.ok c e.h w):∃c1,HSim c1 e1.h w∧E.ok c1 e1.h w:=by
 have hw':Wk ⟨0,E.c,E.h,E.w⟩ ⟨[],e.h⟩ ⟨[],e1.h⟩:=fun c a w s k=>by
  obtain⟨c1,s1,k1⟩:=hw c { tmps:=Array.replicate E.N undef,defers:=[] } w ⟨rfl,ae,fun _=>.top _,s.hs⟩ (k.withN E.N);exact⟨c1,⟨s.defers,s.size,fun _=>.top _,s1.hs⟩,k1.withN 0⟩
 obtain⟨c1,s1,k1⟩:=hw' c ⟨#[],[]⟩ w ⟨rfl,rfl,fun _=>.top _,s⟩ (k.withN 0);exact⟨c1,s1.hs,k1.withN E.N⟩
theorem jex{l idx:Nat}{fn:FuncId}{p:Tmp}{mf body:Code}{D:Nat}{xs:List AV}{h:gz}(hidx:h[idx]?=some (.raw l (vy .ready none fn #[p] mf body D) xs)){x:AV}(hp:p<xs.length){R:AEnd→gz→Prop}
  (s6:∀E:Ent,E.N=xs.length→E.h=h→hUnder h.length h=true→x.bd→x.under h.length=true→sk P E (some l) mf (qzk (fun ds e=>ds=[]∧e.h[idx]?=some (.raw l (vy .ready none fn #[p] mf body D) xs) ∧
   sk P E (some l) body (xqi E idx l fn #[p] mf body D xs R) [] ⟨e.t,e.h.set idx (.raw l (vy .busy none fn #[p] mf body D) xs)⟩) (fun _ _ _=>False)) [] ⟨(p,x)::qes 0 xs,h⟩):AYield P l [x] h R:=fun m c w vs hs ha=>by
 obtain⟨hb,tm,htm,jq,nk⟩:=hs.obj _ _ hidx;have hy:=run_yield (P:=P) (args:=vs) htm (by simp[ha.1]);refine⟨fn,_,mf,body,hy,?_⟩;obtain⟨v,rfl⟩:∃v,vs = #[v]:=by
  have:=ha.1
  match vs,this with
  |⟨[v]⟩,_=>exact⟨v,rfl⟩
 have hv:Rel c x v:=ha.2 0 x v rfl rfl;have e0:((#[p]:Array Tmp).zip #[v]).foldl (fun tmps (t,a)=>tmps.setIfInBounds t a) tm=tm.setIfInBounds p v:=ae;refine roundIn_of_wpIn trivial ?_;rw[e0];show mf.wpIn (WF (some l)) m P _ _ _;have hE:=s6 ⟨xs.length,c,h,w⟩ rfl rfl hs.hUnder hv.bd (hv.under hs.dom) m c { tmps:=tm.setIfInBounds p v,defers:=[] } w ⟨rfl,by simp[jq],fun i=>?_,hs⟩ (Ent.ok.refl _ hs)
 ·refine wpIn_mono hE ?_;rintro ex a' w1 ⟨x',uo,e',c1,a0,rfl,hq,hx,s1,k1⟩;cases x' with
  |normal =>
   cases ex<;>simp only[XR]at hx;obtain⟨rfl,hr1,hq⟩:=hq;obtain⟨jw,tm1,htm1,hsz1,hrl1⟩:=s1.hs.obj _ _ hr1;refine⟨_,run_beginRound htm1 rfl,?_⟩;obtain⟨s2,k2⟩:=xa0 (f':=vy .busy none fn #[p] mf body D) s1.hs k1 hr1 htm1 ⟨hsz1,hrl1⟩;refine wpIn_mono (hq m c1 a0 _ ⟨s1.defers,s1.size,s1.tmps,s2⟩ k2) ?_;rintro ex a2 w2 ⟨x',uo,e2,c2,a0,rfl,hq,hx,s3,k3⟩;cases x' with
   |normal =>
    cases ex<;>simp only[XR]at hx;obtain⟨hr3,h',hwk,hR⟩:=hq;obtain⟨hb3,tm3,htm3,hsz3,hrl3⟩:=s3.hs.obj _ _ hr3;obtain⟨s4,k4⟩:=xa0 (f':=vy .ready none fn #[p] mf body D) s3.hs k3 hr3 htm3 ⟨hsz3,hrl3⟩;obtain⟨c5,s5,k5⟩:=xts (e:=⟨[],_⟩) (e1:=⟨[],h'⟩) hwk s4 k4;exact⟨_,_,run_endRound none htm3,.ret (.val (.bool true)),h',c5,hR,.val _,s5,k5.withN 0⟩
   |ret =>
    cases ex<;>simp only[XR]at hx;obtain⟨hr3,h',hwk,hR⟩:=hq;obtain⟨hb3,tm3,htm3,hsz3,hrl3⟩:=s3.hs.obj _ _ hr3;obtain⟨s4,k4⟩:=xa0 (f':=vy .done (some .ret) fn #[p] mf body D) s3.hs k3 hr3 htm3 ⟨hsz3,hrl3⟩;obtain⟨c5,s5,k5⟩:=xts (e:=⟨[],_⟩) (e1:=⟨[],h'⟩) hwk s4 k4;exact⟨_,_,run_endRound (some .ret) htm3,.ret (.val (.bool false)),h',c5,hR,.val _,s5,k5.withN 0⟩
   |exit i=>exact hq.elim
   |panic v=>exact hq.elim
  |exit i=>exact hq.elim
  |ret=>exact hq.elim
  |panic v=>exact hq.elim
 ·simp only[kj];by_cases hi:p=i
  ·subst hi;simp[ed,jq,hp];exact hv
  ·have:(p == i)=false:=qf1;rw[this,cond_false,xfr,if_pos (di _),Nat.sub_zero];by_cases ib:i<xs.length
   ·have e1:xs[i]?=some xs[i]:=bp;rw[e1];have qt1:i<tm.size:=aa;have e2:(tm.setIfInBounds p v).getD i undef=tm[i]:=by
     rw[ed,gt hi];simp[qt1]
    rw[e2];exact nk i _ _ e1 (by simp[qt1])
   ·rw[fa aa];exact .top _
def qsg:List (Nat×Nat)→gz→gz
 | [],h=>h
 |p::l,h=>qsg l (h.set p.1 (.raw p.2 (fun _=>.deferred none) []))
def xno(P:Program)(rs:List ResultVar)(n0:Nat)(R:AEnd→gz→Prop):AExit→List Deferred→Env→Prop
 | .ret,ds,e| .normal,ds,e=>∃ms:List (Nat×Nat),ds=ms.map (fun p=>qqm p.2)∧(ms.map (·.1)).Nodup∧(∀p,p∈ms→e.h[p.1]?=some (sh p.2))∧qxk P rs n0 R ⟨e.t,qsg ms e.h⟩
 |_,_,_=>False
theorem xmx{N:Nat}:∀{ms:List (Nat×Nat)} {e:Env} {c:Ctx} {a:Act} {w:World},(ms.map (·.1)).Nodup→(∀p,p∈ms→e.h[p.1]?=some (sh p.2))→Sim N c e a w→E.ok c e.h w→∀{fn:Func} {tmps:Array Value} {R:Ending→World→Prop} {n:Nat},
  (∀w',Sim N c ⟨e.t,qsg ms e.h⟩ a w'→E.ok c (qsg ms e.h) w'→LeavesIn (WF none) n P fn tmps R [] .returning w')→LeavesInM (WF none) n P fn tmps R (ms.map fun p=>qqm p.2) .returning w
 | [],e,c,a,w,_,_,s,k,fn,tmps,R,n,hf=>hf w s k
 |p::ms,e,c,a,w,hn,hm,s,k,fn,tmps,R,n,hf=>by
  simp only[c8,gg]at hn;have hp:=hm p ae;obtain⟨hb,vs,hv,jq,nk⟩:=s.hs.obj _ _ hp;obtain⟨s1,k1⟩:=xa0 (f':=fun _=>.deferred none) s.hs k hp hv ⟨jq,nk⟩;refine⟨ae,.inl ⟨p.2,_,rfl,run_takeDeferred hv,?_⟩⟩;refine xmx (e:=⟨e.t,e.h.set p.1 (.raw p.2 (fun _=>.deferred none) [])⟩) hn.2 (fun q hq=>?_) ⟨s.defers,s.size,s.tmps,s1⟩ k1 hf;have ii:p.1≠q.1:=fun h=>hn.1 (by rw[h];exact ql4 hq);show(e.h.set p.1 _)[q.1]?=_;rw[dm ii];exact hm q cn
theorem xw3{f:FuncId}{fn:Func}{code:Code}{args:List AV}{h:gz}{R:AEnd→gz→Prop}(hf:P.funcs[f]?=some fn)(hb:fn.body=some code)(u7:(fn.name == "runtime.NumGoroutine")=false)(hN:args.length≤fn.ntmps)
  (body:∀E:Ent,E.N=fn.ntmps→E.h=h→hUnder h.length h=true→yz args→(∀o,o∈h→o.bd)→nb h.length args=true→sk P E none code (xno P fn.results.toList h.length R) [] ⟨qes 0 args,h⟩):ACalls P f args h R:=by
 refine xjx (fun jw li hb3=>?_) ⟨fn,hf,qju,u7⟩;refine⟨⟨fn,hf,qju,u7⟩,fun c w vs hs ha=>?_⟩;have ok0:=Ent.ok.refl fn.ntmps hs;have s0:=xfk (N:=fn.ntmps) hs ha hN;refine xl9.1 (callsIn_of_wp_marks (F:=WF none) (n:=0) hf hb trivial ?_);have h1:=body ⟨fn.ntmps,c,h,w⟩ rfl rfl hs.hUnder jw li hb3 0 c _ w s0 ok0;have e0:∀a:Act,mr [] a=a:=fun a=>by simp[mr]
 rw[e0]at h1;refine wpIn_mono h1 ?_;rintro ex a' w' ⟨x',uo,e',c',a0,rfl,hq,hx,jd,ok'⟩;have fin:xno P fn.results.toList h.length R .ret uo e'→LeavesInM (WF none) 0 P fn (mr uo a0).tmps (fun e w'=>∃r h' c',R r h'∧EndR c' r e∧HSim c' h' w'∧(⟨0,c,h,w⟩:Ent).ok c' h' w') (mr uo a0).defers .returning w':=by
  rintro⟨ms,rfl,hnd,hm,iq,r',h',g1,g2,g3,g4,g5,hR⟩;have hd:(mr (ms.map fun p=>qqm p.2) a0).defers=ms.map fun p=>qqm p.2:=by
   simp[mr,jd.defers]
  rw[hd];refine xmx (E:=⟨fn.ntmps,c,h,w⟩) hnd hm jd ok' fun w2 s2 k2=>?_;obtain⟨v,hv,hr⟩:=xey (E:=⟨fn.ntmps,c,h,w⟩) (P:=P) s2 fn iq;obtain⟨c2,q1,q2,q3⟩:=finish (E:=⟨fn.ntmps,c,h,w⟩) s2 k2 hr g1 g2 g3 g4 g5;exact⟨v,hv,.ret r',h',c2,hR,q3,q1,q2.withN 0⟩
 cases x' with
 |normal=>cases ex<;>simp only[XR]at hx;exact fin hq
 |exit i=>exact hq.elim
 |ret=>cases ex<;>simp only[XR]at hx;exact fin hq
 |panic x=>exact hq.elim
end
section
variable {P:Program} {E:Ent}
theorem xmv{code:Code}{Q:AExit→List Deferred→Env→Prop}{e:Env}(h:AWp P E code (fun x e=>Q x [] e) e):sk P E none code Q [] e:=fun n c a w s k=>by
 have e0:∀a:Act,mr [] a=a:=fun a=>by simp[mr]
 rw[e0];refine wpIn_mono ((wpIn_wide (n:=n)).2 (h c a w s k)) fun x a' w' hh=>?_;have:=xfw (Q:=Q) (ds:=[]) hh
 rwa [e0]at this
theorem AYield.mono{l:Nat}{args:List AV}{h:gz}{R R':AEnd→gz→Prop}(k:AYield P l args h R)(hr:∀r h',R r h'→R' r h'):AYield P l args h R':=fun m c w vs hs ha=>by
 obtain⟨fn,tmps,mf,body,h1,h2⟩:=k m c w vs hs ha;refine⟨fn,tmps,mf,body,h1,h2.mono ?_⟩;rintro e w' ⟨r,h',c',hR,x⟩;exact⟨r,h',c',hr _ _ hR,x⟩
def jly(P:Program)(E:Ent)(ro:Option Nat)(c:Code)(Q:AExit→List Deferred→Env→Prop)(ds:List Deferred)(e:Env)(_:Tag (c,Q)):Prop:=sk P E ro c Q ds e
def qww(P:Program)(E:Ent)(ro:Option Nat):Code→(AExit→List Deferred→Env→Prop)→List Deferred→Env→Prop
 | .skip,Q,ds,e=>Q .normal ds e
 | .region _ ops false,Q,ds,e=>(ops.toList.all fun o=>!qvj o.op)=true∧qnz P E.N (fun x e=>Q x ds e) [] ops.toList e
 | .seq a b,Q,ds,e=>qww P E ro a (qzk (qww P E ro b Q) Q) ds e
 | .cond x a b,Q,ds,e=>match e.get x with
  | .val (.bool c)=>Cnd c e (qww P E ro a Q ds) (qww P E ro b Q ds) ⟨⟩ ⟨⟩
  |_=>False
 | .block id b,Q,ds,e=>qww P E ro b (xel id Q) ds e
 | .exit id,Q,ds,e=>Q (.exit id) ds e
 | .ret,Q,ds,e=>Q .ret ds e
 |c,Q,ds,e=>jly P E ro c Q ds e ⟨⟩
theorem qco{ro:Option Nat}:∀(c:Code) (Q:AExit→List Deferred→Env→Prop) (ds:List Deferred) (e:Env),qww P E ro c Q ds e→sk P E ro c Q ds e
 | .skip,Q,ds,e,h=>xx4 h
 | .region id ops false,Q,ds,e,h=>by have:=jav (ro:=ro) (id:=id) (l:=ops.toList) h.1 h.2;simpa using this
 | .region id ops true,Q,ds,e,h=>h
 | .seq a b,Q,ds,e,h=>xfi (jlq (qco a _ ds e h) fun x uo e' hx=>by
   cases x with
   |normal=>exact qco b Q uo e' hx
   |_=>exact hx)
 | .cond x a b,Q,ds,e,h=>by
  simp only[qww]at h;split at h
  ·rename_i c hx;exact jkd hx (fun hc=>qco a Q ds e (h.1 hc)) (fun hc=>qco b Q ds e (h.2 hc))
  ·exact h.elim
 | .block id b,Q,ds,e,h=>jlj (qco b _ ds e h)
 | .loop b,Q,ds,e,h=>h
 | .rangeFunc ..,Q,ds,e,h=>h
 | .exit id,Q,ds,e,h=>jf3 h
 | .scope b,Q,ds,e,h=>h
 | .label _,Q,ds,e,h=>h
 | .goto _,Q,ds,e,h=>h
 | .ret,Q,ds,e,h=>xqj h
 | .refuse _,Q,ds,e,h=>h
end
attribute [go_sem] qww qzk xel qvj qv1 xka
end Go.Abs
namespace Go.Abs
open Go.Proofs
theorem jiv{c:Ctx}{h:gz}{w:World}(s:HSim c h w){i:Nat}{xs:List AV}(hi:h[i]?=some (.cells xs))(hd:∀x,x∈xs→x.isData=true){v:Value}(hr:Rel c (.ptr i 0) v):Rel (qp9 w) (.eptr xs) v:=by
 obtain⟨b,vs,T,hb,hh,jq,hc⟩:=s.obj i _ hi;cases hr with
 |data h=>cases h
 |ptr _ _ b' il =>
  rw[hb]at il;cases il;refine .eptr xs b 0 (fun j=>(vs[j]?).getD undef) (fun j x hx=>?_) (fun j x hx=>?_)
  ·have hj:j<vs.size:=by rw[jq];exact(cq.1 hx).1
   show w.cell? ⟨b,0+j,none⟩=_;rw[cell_of_row _ _ _ _ _ _ hh,db,fm hj];rfl
  ·have hj:j<vs.size:=by rw[jq];exact(cq.1 hx).1
   rw[fm hj];exact(xb8 (hd x (c7 hx)) (hc j x _ hx (fm hj)).1).mono s.data
theorem jch{c c':Ctx}{f:Fn}{p p':AV}(hp:∀u,Rel c p u→Rel c' p' u){v:Value}(hr:Rel c (.fn f [] [p]) v):Rel c' (.fn f [] [p']) v:=by
 cases hr with
 |data h=>cases h
 |fn _ _ _ us vs pf hl h' h =>
  refine .fn f [] [p'] us vs pf hl (fun j x v hx=>by simp at hx) (fun j x v hx hv=>?_);cases j with
  |succ j=>simp at hx
  |zero =>
   simp at hx;subst hx;exact hp v (h 0 p v rfl hv)
theorem jh3{c:Ctx}{h:gz}{w:World}(s:HSim c h w){i n el sz:Nat}{rows:List (List AV)}(hi:h[i]?=some (.uarr el sz rows))(hn:rows.length=n){v:Value}(hr:Rel c (.own i n) v):Rel (qp9 w) (.slice rows) v:=by
 have h1:=xlu s hr;simpa[qq8,hi,hn]using h1
end Go.Abs
namespace Go.Abs
section
variable {P:Program} {E:Ent}
theorem jgx{T el:TypeId}{sz:Nat}(hk:ij P T=.slice el sz)(oh:ij P el≠.other)(pr:iy P el=sz)(kq:0<sz)(w:World) :
  (Instr.buildSlice T 0 #[]).run P w=.ok (.slice (some ⟨w.heap.size,0,none⟩) 0 0) (w.alloc (.cells #[] el)):=by
 obtain⟨iT,dT,zT,_,r8,_,vz,_⟩:=lj hk ae;obtain⟨rfl,ie,lx,wv⟩:=xx vz;obtain⟨ie',de,ze,tp,_,hze,_,hts,_,pi,tf⟩:=lj (P:=P) (t:=el) rfl oh;rw[lx]at tp;cases tp;simp only[Instr.buildSlice,dh,po r8,dj,z8 lx,wv];have yx:¬(0 * sz > 2 ^ 24):=ae;rw[if_neg yx,if_pos ae];simp only[dh,dy,dj];have hf:Instr.fill (fun i=>some (i * sz,sz)) ((Array.range (0 * sz)).map ((#[]:Array Value)[· % (#[]:Array Value).size]!)) []=some #[]:=by
  simp[Instr.fill]
 simp only[hf,newRow,dh,qdj,dj,dy]
theorem jmx{c:Ctx}{h:gz}{w:World}(s:HSim c h w)(k:E.ok c h w)(e:TypeId)(sz:Nat) :
  c.le (c.addSl h.length 0 (.slice (some ⟨w.heap.size,0,none⟩) 0 0))∧HSim (c.addSl h.length 0 (.slice (some ⟨w.heap.size,0,none⟩) 0 0)) (h++[.arr e sz []]) (w.alloc (.cells #[] e)) ∧
   E.ok (c.addSl h.length 0 (.slice (some ⟨w.heap.size,0,none⟩) 0 0)) (h++[.arr e sz []]) (w.alloc (.cells #[] e)):=by
 obtain⟨v0,hv0⟩:∃v0,v0=Value.slice (some ⟨w.heap.size,0,none⟩) 0 0:=⟨_,rfl⟩
 rw[←hv0];have ig:c.le (c.addSl h.length 0 v0):=Ctx.addSl_le ((s.dom _ (ct _)).2 0);have pn:∀i,i<h.length→∀m,(c.addSl h.length 0 v0).sl i m=c.sl i m:=fun i hi m=>by
  simp only[Ctx.addSl];rw[if_neg aa]
 have ib:∀{i:Nat} {o:AObj},h[i]?=some o→i<h.length:=fun hi=>(cq.1 hi).1;have sw:jb (c.addSl h.length 0 v0) h.length (.arr e sz [])=some w.heap.size:=by simp[jb,Ctx.addSl,hv0,Value.ownBlock]
 have zc:∀b,b<w.heap.size→(w.alloc (.cells #[] e)).heap[b]?=w.heap[b]?:=fun b hb=>by first|exact heap_alloc_old w _ b hb|exact heap_alloc_old w _ hb
 refine⟨ig,⟨fun b j v hD=>?_,fun i hi=>?_,fun i o hi=>?_,fun i j o o' b hi hj hb il=>?_,fun i o b j v hi hb hD=>?_⟩,⟨k.edom,k.ext.trans ig,k.blk0,qf5,k.os,k.tape,k.output,d9 k.size (qfg w _),fun b hb iz=>?_,fun i o b hi hb=>?_,k.dold⟩⟩
 ·have mw:=s.data b j v hD;have hb:b<w.heap.size:=World.block_lt_of_cell? w ⟨b,j,none⟩ mw;rw[World.cell?_of_block (w:=w) (zc b hb)];exact mw
 ·simp only[cz,d5,ee]at hi;have:=s.dom i aa;refine⟨this.1,fun m=>?_⟩;simp only[Ctx.addSl];rw[if_neg aa];exact this.2 m
 ·rcases r4 hi with h1|⟨rfl,rfl⟩
  ·exact(s.obj i o h1).keep ig (pn i (ib h1)) fun b hb=>zc b ((s.obj i o h1).lt hb)
  ·refine⟨v0,[],bu,by rw[hv0];rfl,fun m hm=>?_,by rw[hv0];exact World.ownsRow_made w #[] 0 (di _) (di _) ae,ae,ae,ae,fun b j hb hj=>by simp at hj⟩;simp only[Ctx.addSl];rw[if_neg qhj];exact(s.dom _ (ct _)).2 m
 ·rcases r4 hi with h1|⟨rfl,rfl⟩<;>rcases r4 hj with h2|⟨rfl,rfl⟩
  ·rw[(s.obj i o h1).blk ig]at hb;rw[(s.obj j o' h2).blk ig]at il;exact s.apart i j o o' b h1 h2 hb il
  ·rw[sw]at il;rw[(s.obj i o h1).blk ig]at hb;cases il;have:=(s.obj i o h1).lt hb;omega
  ·rw[sw]at hb;rw[(s.obj j o' h2).blk ig]at il;cases hb;have:=(s.obj j o' h2).lt il;omega
  ·rfl
 ·have o6:c.D b j=some v:=hD;rcases r4 hi with h1|⟨rfl,rfl⟩
  ·rw[(s.obj i o h1).blk ig]at hb;exact s.sep i o b j v h1 hb o6
  ·rw[sw]at hb;cases hb;rw[s.noD (ct _)]at o6;cases o6
 ·rw[zc b (qlo hb k.size)];exact k.frame b hb iz
 ·rcases r4 hi with h1|⟨rfl,rfl⟩
  ·rw[(s.obj i o h1).blk ig]at hb;exact k.newobj i o b h1 hb
  ·rw[sw]at hb;cases hb;exact .inr k.size
theorem xz6{c:Ctx}{e:Env}{a:Act}{w:World}(s:Sim E.N c e a w)(k:E.ok c e.h w){ops:Array Oper}{rest:List Oper}{o1:Oper}{Q:Exit→Act→World→Prop}{T el:TypeId}{sz d1:Nat}
  (g1:o1.guard=none) (pg:o1.dst=some d1) (tg:d1<E.N) (yh:o1.op=.buildSlice T 0 #[])
  (hT:ij P T=.slice el sz) (xv:ij P el≠.other) (jq:iy P el=sz) (kq:0<sz)
  (ue:∀c' a' w',Sim E.N c' (({ e with h:=e.h++[.arr el sz []] }:Env).put o1.dst (.own e.h.length 0)) a' w'→E.ok c' (e.h++[.arr el sz []]) w'→wpList P ops Q rest a' w') :
  wpList P ops Q (o1::rest) a w:=by
 have xci:=jgx (P:=P) hT xv jq kq w;obtain⟨ig,s1,k1⟩:=jmx (E:=E) s.hs k el sz;refine qcs (G:=true) qfo (fun _=>?_) (fun h=>by cases h);refine wm (w':=w.alloc (.cells #[] el)) (v:=.slice (some ⟨w.heap.size,0,none⟩) 0 0) (by simp only[execOp,yh,ql2,e6,dh,xci,dj,dy]) ?_;refine ue _ _ _ ?_ k1;exact s.put ig s1 (fun j hj=>by rw[pg]at hj;cases hj;exact tg) (.own _ _ _ bu rfl)
theorem jlh{c:Ctx}{e:Env}{a:Act}{w:World}(s:Sim E.N c e a w){ops:Array Oper}{rest:List Oper}{o1:Oper}{Q:Exit→Act→World→Prop}{T T' el:TypeId}{sz:Nat}{x:Operand}{d1:Nat}{rows:List (List AV)}
  (g1:o1.guard=none) (pg:o1.dst=some d1) (tg:d1<E.N) (yh:o1.op=.binOp .eql T x (.const (.slice none 0 0)) T')
  (hT:ij P T=.slice el sz) (hx:l6 e true [x]) (hxv:e.getS x=.slice rows)
  (ue:∀(b:Bool) a',(b=true→rows=[])→Sim E.N c (e.put o1.dst (.val (.bool b))) a' w→wpList P ops Q rest a' w) :
  wpList P ops Q (o1::rest) a w:=by
 obtain⟨iT,dT,zT,_,r8,_,vz,_⟩:=lj hT ae;obtain⟨rfl,ie,lx,wv⟩:=xx vz;have l8:=qx s hx x ae;rw[hxv]at l8;have hd:=Rel.slice_inv l8;obtain⟨A,n,cp,hv,hA⟩:∃(A:Option Addr) (n cp:Nat),a.eval x=.slice A n cp∧(A.isNone=true→rows=[]):=by
  generalize a.eval x=v at hd;cases hd with
  |nil=>exact⟨none,0,0,rfl,fun _=>rfl⟩
  |slice rows b off cap kl g h1 h2 h3 h4 h5=>exact⟨_,_,_,rfl,fun h=>by simp at h⟩
  |empty a=>exact⟨_,_,_,rfl,fun _=>rfl⟩
 refine qcs (G:=true) qfo (fun _=>?_) (fun h=>by cases h);refine wm (w':=w) (v:=.bool A.isNone) (by
  have h1:=Lib.run_eql_slice_nil (P:=P) w T el A n cp 0 0 r8;have hc:a.eval (.const (.slice none 0 0))=.slice none 0 0:=rfl;simp only[execOp,yh,hv,hc,eqGuard,dh,dy,dj];simp only[h1,dj,Bool.not_true,fw,if_false,dy]) ?_
 exact ue A.isNone _ hA (s.put (.refl c) s.hs (fun j hj=>by rw[pg]at hj;cases hj;exact tg) (.val _))
end
theorem xhm(E:Ent)(e:Env){p:Nat}{xs:List AV}(hp:e.h[p]?=some (.cells xs)):Wk E e ⟨e.t,e.h.set p (.cells (kc e.h xs))⟩:=fun c a w s k=>by
 obtain⟨s2,k2⟩:=xj2 s.hs k (p:=p) (xs:=xs) (xs':=kc e.h xs) hp (by rw[qd8,ew]) (fun i x x' v hx mc hr=>by
  rw[qd8,dq,hx]at mc;cases mc;exact qep s.hs hr)
 exact⟨c,⟨s.defers,s.size,s.tmps,s2⟩,k2⟩
end Go.Abs
namespace Go.Abs
open Go.Proofs Go.Shelf Go.Sort Go.Lib
section
variable {P:Program} {E:Ent}
theorem xue{w:World}{g:Nat}{cur:Array Value}{e:TypeId}{d:Array Int}(hg:w.heap[g]?=some (.cells cur e (0,0))):(putRow (Value.int .i64) w g 0 d).heap[g]?=some (.cells (putCells (Value.int .i64) 0 d cur) e (0,0)) ∧
  ∀b,b≠g→(putRow (Value.int .i64) w g 0 d).heap[b]?=w.heap[b]?:=by
 constructor
 ·simp only[putRow,mapBlock,Array.getElem?_modify,if_true,hg,fx,onCells]
 ·intro b hb;simp only[putRow,mapBlock,Array.getElem?_modify,if_neg (Ne.symm hb)]
abbrev iR(x:Int):List AV:=[.val (.int .i64 x)]
theorem xwb{c:Ctx}{l:List Int}{us:List Value}(hl:us.length=l.length * 1)(h:∀(i j:Nat) (r:List AV) (x:AV),(l.map iR)[i]?=some r→r[j]?=some x→∃u,us[i * 1+j]?=some u∧DRel c.D x u):us=l.map (Value.int .i64):=by
 apply fy;intro k;rcases d8 k l.length with hk|hk
 ·obtain⟨u,hu,hd⟩:=h k 0 _ _ (by rw[dq,da hk];rfl) rfl;rw[qlz,d6]at hu;cases hd;rw[hu,dq,da hk];rfl
 ·rw[fa aa,fa (by simpa using hk)]
theorem xnv{D:Nat→Nat→Option Value}(l:List Int)(rest:List Value):∀(i j:Nat) (r:List AV) (x:AV),(l.map iR)[i]?=some r→r[j]?=some x→∃u,(l.map (Value.int .i64)++rest)[i * 1+j]?=some u∧DRel D x u:=fun i j r x hr hx=>by
 rw[dq]at hr;obtain⟨z,hz,rfl⟩:=dn.1 hr;cases j with
 |succ j=>simp[iR]at hx
 |zero =>
  simp[iR]at hx;subst hx;have ib:=(cq.1 hz).1;exact⟨_,by rw[qlz,d6,cu qgy,dq,hz];rfl,.val _ rfl rfl⟩
theorem xw4{w:World}{g cap:Nat}{cur:Array Value}{T:TypeId}{l:List Int}(hh:w.heap[g]?=some (.cells cur T (0,0)))(u5:cur.toList.take (l.length * 1)=l.map (Value.int .i64))(qv4:cur.size=cap * 1)(nz:l.length≤cap):Holds (Value.int .i64) w g 0 l.toArray:=by
 intro j hj;have oq:j<l.length:=bf;have e1:cur[j]?=some (.int .i64 l[j]):=by
  have:(cur.toList.take (l.length * 1))[j]?=(l.map (Value.int .i64))[j]?:=by rw[u5]
  rw[dx,if_pos aa,fc,dq,da oq]at this;exact this
 refine⟨?_,by simp[World.frozen?,hh]⟩;rw[cell_of_row _ _ _ _ _ _ hh,db,e1];simp[oq]
theorem xz5{ρ:Ren}(Ly:Lays.n189 P ρ)(hEn:qwf P (ρ.f 189)){h:gz}{i T:Nat}{l:List Int}(hi:h[i]?=some (.uarr T 1 (l.map iR))) :
  ACalls P (ρ.f 189) [.own i l.length] h fun r h'=>r=.ret (.tuple [])∧h'=h.set i (.uarr T 1 ((l.mergeSort fun x y=>decide (x≤y)).map iR)):=by
 refine⟨hEn,fun c w vs hs ha=>?_⟩;have uh:vs = #[vs[0]!]:=by
  have:=ha.1;apply Array.ext
  ·simpa using this
  ·intro k h1 h2;have:k=0:=qk1;subst this;simp[getElem!_pos,h1]
 obtain⟨v,rfl⟩:∃v,vs = #[v]:=⟨_,uh⟩
 have hr:=ha.2 0 _ v rfl rfl;obtain⟨hv,us,mi,nk,ym⟩:=xag hs hi ae hr;have wg:us=l.map (Value.int .i64):=xwb (by rw[mi.1]) ym;have sp:(l.mergeSort fun x y=>decide (x≤y)).length=l.length:=List.length_mergeSort _;rcases mi.2 with⟨rfl,hn⟩|⟨g,cap,cur,rfl,_,hh,nz,pz,qv4,u5⟩
 ·have hl0:l=[]:=fk hn;subst hl0;refine(Any.slices_Sort_int_none Ly none 0 w).mono ?_;rintro e w' ⟨rfl,rfl⟩;refine⟨_,_,c,⟨rfl,rfl⟩,.tuple [] #[] rfl ae,?_,?_⟩
  ·have:(([]:List Int).mergeSort fun x y=>decide (x≤y))=[]:=ae;rw[this,qdc hi];exact hs
  ·have:(([]:List Int).mergeSort fun x y=>decide (x≤y))=[]:=ae;rw[this,qdc hi];exact .refl 0 hs
 ·have hH:=xw4 hh (by rw[u5,wg]) qv4 nz;have jr:l.length≤68719476736:=qjb;have hglt:g<w.heap.size:=(f0.1 hh).1;refine(Any.slices_Sort_int Ly g 0 cap l w hH hglt aa).mono ?_;rintro e w' ⟨rfl,n,os,rfl⟩;obtain⟨p1,p2⟩:=xue (w:=Sort.ahead w n) (d:=(l.mergeSort fun x y=>decide (x≤y)).toArray) hh;have pr:(putRow (Value.int .i64) (Sort.ahead w n) g 0 (l.mergeSort fun x y=>decide (x≤y)).toArray).heap.size=w.heap.size:=by simp[Sort.ahead]
  have zc:∀b,b<w.heap.size→(grow (putRow (Value.int .i64) (Sort.ahead w n) g 0 (l.mergeSort fun x y=>decide (x≤y)).toArray) os).heap[b]?=(putRow (Value.int .i64) (Sort.ahead w n) g 0 (l.mergeSort fun x y=>decide (x≤y)).toArray).heap[b]?:=fun b hb=>by
   simp only[grow];rw[qlr (by rw[pr];exact hb)]
  have qs2:(putCells (Value.int .i64) 0 (l.mergeSort fun x y=>decide (x≤y)).toArray cur).toList.take (l.length * 1)=(l.mergeSort fun x y=>decide (x≤y)).map (Value.int .i64):=by
   apply fy;intro k;rw[dx];by_cases hk:k<l.length * 1
   ·rw[if_pos hk,fc];have hkc:k<cur.size:=aa;have q9:k<(l.mergeSort fun x y=>decide (x≤y)).length:=aa;simp only[putCells,Array.getElem?_mapIdx,fm hkc,fx,qlj,di,db,true_and,Nat.sub_zero,q9,if_true,dq,da q9];have hk3:(l.mergeSort fun x y=>decide (x≤y))[k]?=some ((l.mergeSort fun x y=>decide (x≤y))[k]'q9):=da q9;simp[q9]
    first|done|(rw[hk3];rfl)
   ·rw[if_neg hk,fa (by simp[sp];omega)]
  obtain⟨s1,k1⟩:=xhy (E:=⟨0,c,h,w⟩) hs (.refl 0 hs) (w':=grow (putRow (Value.int .i64) (Sort.ahead w n) g 0 (l.mergeSort fun x y=>decide (x≤y)).toArray) os) (rows':=(l.mergeSort fun x y=>decide (x≤y)).map iR)
   (us:=(l.mergeSort fun x y=>decide (x≤y)).map (Value.int .i64)) hi bx (by simp[sp]) ae
   ⟨by simp[sp],.inr ⟨g,cap,_,ae,di _,(zc g hglt).trans p1,by simpa using nz,pz,by simp[putCells,qv4],by simpa using qs2⟩⟩
   (by simpa using xnv (D:=c.D) (l.mergeSort fun x y=>decide (x≤y)) []) rfl rfl rfl (by simp[grow,Sort.ahead]) (fun b hb ib=>by rw[zc b ib,p2 b hb];rfl)
  exact⟨_,_,c,⟨rfl,rfl⟩,.tuple [] #[] rfl ae,s1,k1⟩
end
end Go.Abs
