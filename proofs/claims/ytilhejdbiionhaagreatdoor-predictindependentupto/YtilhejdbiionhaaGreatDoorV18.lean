/- Part 18 of a proof: AbsIo, AbsIp, AbsIq, AbsOk -/
import Derived.RangeFuncSeq
import Derived.Test.YtilhejdbiionhaaGreatDoorV13
import Derived.Test.YtilhejdbiionhaaGreatDoorV14
import Derived.Test.YtilhejdbiionhaaGreatDoorV16
import Derived.Test.YtilhejdbiionhaaGreatDoorV17
set_option linter.all false

namespace Go.Abs
section
variable {P:Program} {E:Ent}
def AYield (P:Program) (l:Nat) (args:List AV) (h:qab) (R:AEnd→qab→Prop):Prop :=
 ∀ (m:Nat) (c:Ctx) (w:World) (vs:Array Value),HSim c h w→RelL c args vs →
  YieldAt (WF none) m P l vs w fun e w'=>∃ r h' c',R r h'∧EndR c' r e∧HSim c' h' w'∧(⟨0,c,h,w⟩:Ent).ok c' h' w'
theorem run_yieldcall {o:Oper} {ev:Operand→Value} {w:World} {f:Operand} {args:Array Operand} {ts:Array TypeId} (ho:o.op=.call { callee:=.value f,args:=args,argTypes:=ts }) {l:Nat}
  (hf:ev f=.func (.yield l) #[] #[]):(execOp ev o).run P w=(Instr.yield l (args.map ev)).run P w:=by
 simp [execOp,ho,resolve,hf,Deferred.ofValue,invoke,Sem.run_bind,Sem.run_pure,Result.andThen_ok]
theorem yield_in {c:Ctx} {e:Env} {a:Act} {w:World} (s:Sim E.N c e a w) (k:E.ok c e.h w) {ds:List Deferred} {o:Oper} {f:Operand} {args:Array Operand} {ts:Array TypeId} (ho:o.op=.call { callee:=.value f,args:=args,argTypes:=ts })
  (hall:qaw e true (f::args.toList)) {l:Nat} (hf:e.getS f=.fn (.yield l) [] []) {R:AEnd→qab→Prop} (hy:AYield P l (qbf e.h (args.toList.map e.getS)) e.h R) {n:Nat} {nx:Act→World→Prop} {Q:Exit→Act→World→Prop}
  (hret:∀ v h' c' w' u,R (.ret v) h'→c.le c'→HSim c' h' w'→E.ok c' h' w'→Rel c' v u→nx ((ddf ds a).put o.dst u) w') (hpan:∀ v h',R (.panic v) h'→False):o.wpIn (WF none) n P (ddf ds a) w nx Q:=by
 have hrel:=qbd s hall;have hfr:=hrel f (by simp);rw [hf] at hfr;have hev:a.eval f=.func (.yield l) #[] #[]:=by
  generalize a.eval f=z at hfr;cases hfr with
  | data h=>cases h
  | fn f ys xs us vs hl' hl h' h =>
   simp only [List.length_nil,Array.size_eq_zero_iff] at hl hl';rw [hl,hl']
 have hargs:RelL c (args.toList.map e.getS) (args.map a.eval):=RelL.map fun x hx=>hrel x (by simp [hx]);have hlist:=hargs.norm s.hs;obtain ⟨s1,k1⟩:=share_ok s.hs k;refine ⟨fun _ _=>trivial,?_⟩;show o.uponIn (WF none) n P (ddf ds a) nx Q ((o.semAt none (ddf ds a).eval).run P w);have hev':(ddf ds a).eval=a.eval:=rfl;rw [Oper.semAt_none,hev',run_yieldcall ho hev];obtain ⟨fn,tmps,asg,body,h1,h2⟩:=hy (n - 1) _ w _ s1 hlist;rw [h1];refine ⟨fun h=>(by cases h),h2.mono ?_⟩;rintro en w' ⟨r,h',c',hR,hE,hs',hk'⟩;have hle:c.le c':=(share_le c e.h w).trans hk'.ext;have hok:E.ok c' h' w':=k1.trans hk';cases r with
 | ret x=>cases en<;>simp only [EndR] at hE;exact hret x h' c' w' _ hR hle hs' hok hE
 | panic x=>exact (hpan _ _ hR).elim
def stepY (P:Program) (N:Nat) (Q:AExit→Env→Prop) (ds:List (Option Tmp)) (o:Oper) (e:Env) (K:Env→Prop):Prop :=
 match o.op with
 | .call { callee:=.value f,args,.. }=>match e.getS f with
  | .fn (.yield l) [] []=>o.guard=none∧qdy N o.dst∧qaw e true (f::args.toList)∧AYield P l (qbf e.h (args.toList.map e.getS)) e.h fun r h'=>match r with
   | .ret v=>K (({ e with h:=h' }:Env).put o.dst v)
   | .panic _=>False
  | _=>stepG P N Q ds o e K
 | _=>stepG P N Q ds o e K
def opsY (P:Program) (N:Nat) (Q:AExit→Env→Prop):List (Option Tmp)→List Oper→Env→Prop
 | _,[],e=>Q .normal e
 | ds,o::l,e=>stepY P N Q ds o e (opsY P N Q (ds++[o.dst]) l)
variable {Q:AExit→List Deferred→Env→Prop} {ds:List Deferred} {e:Env}
theorem put_ddf (a:Act) (t:Option Tmp) (v:Value):(ddf ds a).put t v=ddf ds (a.put t v):=by cases t<;>rfl
theorem opsY_sound {n:Nat} {ops:Array Oper}:∀ (l:List Oper) (done:List Oper) (e:Env),ops.toList=done++l→(l.all fun o=>!isDef o.op)=true→opsY P E.N (fun x e=>Q x ds e) (done.map (·.dst)) l e →
  ∀ c a w,Sim E.N c e a w→E.ok c e.h w→wpListIn (WF none) n P ops (concI E Q) l (ddf ds a) w
 | [],done,e,_,_,h,c,a,w,s,k=>⟨.normal,ds,e,c,a,rfl,h,trivial,s,k⟩
 | o::l,done,e,hops,hd,h,c,a,w,s,k=>by
  simp only [List.all_cons,Bool.and_eq_true,Bool.not_eq_true'] at hd;have ih:=fun e'=>opsY_sound (n:=n) (ops:=ops) l (done++[o]) e' (by simp [hops]) hd.2;simp only [List.map_append,List.map_cons,List.map_nil] at ih;simp only [opsY] at h;have plain:stepG P E.N (fun x e=>Q x ds e) (done.map (·.dst)) o e (opsY P E.N (fun x e=>Q x ds e) (done.map (·.dst)++[o.dst]) l)→wpListIn (WF none) n P ops (concI E Q) (o::l) (ddf ds a) w:=fun h=>by
   have h1:=stepF_sound (stepG_F h) (fun G hG=>wanted_eq hops s hG) s k (nx:=fun a' w'=>∃ e' c',opsY P E.N (fun x e=>Q x ds e) (done.map (·.dst)++[o.dst]) l e'∧Sim E.N c' e' a' w'∧E.ok c' e'.h w') fun e' c' a' w' hK s' k'=>⟨e',c',hK,s',k'⟩
   unfold wpListIn;have e1:(ddf ds a).tmps=a.tmps:=rfl;rw [e1];split at h1
   ·
    rename_i hw;rw [if_pos hw];have no:¬ LetsOut (conc E (fun x e=>Q x ds e)):=fun ⟨a,w,x',e,c,_,hx,_⟩=>by cases x'<;>exact hx
    rcases h1 with h1 | ⟨_,h1⟩
    ·
     refine Oper.wpIn_mono (fun a' w' hh=>?_) (oper_in hd.1 (upon_ddf (d:=ds) h1 (next':=fun a' w'=>∃ a0,a'=ddf ds a0∧∃ e' c',opsY P E.N (fun x e=>Q x ds e) (done.map (·.dst)++[o.dst]) l e'∧Sim E.N c' e' a0 w'∧E.ok c' e'.h w') (fun a' w' hh=>⟨a',rfl,hh⟩) (fun _ _ _ hh=>conc_I hh)))
     obtain ⟨a0,rfl,e',c',hK,s',k'⟩:=hh;exact ih e' hK c' a0 w' s' k'
    · exact (no h1).elim
   ·
    rename_i hw;rw [if_neg hw,put_ddf];obtain ⟨e',c',hK,s',k'⟩:=h1;exact ⟨fun _ _=>trivial,ih e' hK c' _ w s' k'⟩
  obtain ⟨dst,op,ty,pos,after,guard⟩:=o;cases op with
  | call cl =>
   obtain ⟨callee,args,ats⟩:=cl;cases callee with
   | value f =>
    unfold stepY at h;simp only at h;split at h
    ·
     rename_i lp hf;obtain ⟨rfl,hdst,hall,hy⟩:=h;unfold wpListIn;rw [if_pos (by simp [Region.wanted])];refine yield_in s k rfl hall hf hy (fun v h' c' w' u hR hle hs' hk' hru=>?_) fun v h' hR=>hR;rw [put_ddf];exact ih _ hR c' _ w' (s.put hle hs' (dst_lt hdst) hru) (by cases dst<;>exact hk')
    · exact plain h
   | _=>exact plain h
  | _=>exact plain h
theorem awpI_opsY {id:Nat} {l:List Oper} (hd:(l.all fun o=>!isDef o.op)=true) (h:opsY P E.N (fun x e=>Q x ds e) [] l e):AWpI P E none (.region id l.toArray false) Q ds e:=fun n c a w s k =>
 wpIn_region_list (by simpa using opsY_sound (n:=n) (ops:=l.toArray) l [] e (by simp) hd (by simpa using h) c a w s k)
def recO (st:LoopState) (pe:Option Code) (fn:FuncId) (ps:Array Tmp) (asg body:Code) (D:Nat) (tm:Array Value):Obj:=.loop { state:=st,pending:=pe,fn,tmps:=tm,params:=ps,assign:=asg,body,defers:=D }
def qdq (D:Nat):AObj:=.raw D (fun _=>.deferred (some [])) []
def coll (D:Nat):Deferred:={ target:=.collected D,args:=#[] }
def slots (N:Nat) (e:Env):List AV:=(List.range N).map (qbb e.t)
theorem slots_rel {N:Nat} {c:Ctx} {a:Act} {w:World} (s:Sim N c e a w):a.tmps.size=(slots N e).length∧∀ (j:Nat) (x:AV) (v:Value),(slots N e)[j]?=some x→a.tmps[j]?=some v→Rel c x v :=
 ⟨by simp [slots,s.size],fun j x v hx hv=>by
  simp only [slots,List.getElem?_map,List.getElem?_range'] at hx;rw [Option.map_eq_some_iff] at hx;obtain ⟨j',h1,rfl⟩:=hx;have:j'=j:=by
   have:=List.getElem?_eq_some_iff.1 h1;simpa using this.2.symm
  subst this;have:=s.tmps j'
  rwa [Array.getD_eq_getD_getElem?,hv] at this⟩
set_option maxHeartbeats 400000 in
theorem awpI_range {g:Operand} {ps:Array Tmp} {asg body:Code} {gf:FuncId} {caps:List AV} (hg:e.get g=.fn (.func gf) [] caps)
  (h:∀ (fn:FuncId) (D l:Nat),ACalls P gf (qbf (e.h++[qdq D,.raw l (recO .ready none fn ps asg body D) (slots E.N e)]) ([.fn (.yield l) [] []]++caps)) (e.h++[qdq D,.raw l (recO .ready none fn ps asg body D) (slots E.N e)]) fun r h' =>
   (∃ v,r=.ret v)∧∃ st pe,st≠.busy∧h'[e.h.length+1]?=some (.raw l (recO st pe fn ps asg body D) (slots E.N e)) ∧
    match pe with
    | none=>Q .normal (coll D::ds) ⟨e.t,h'.set (e.h.length+1) (.raw l (recO .exhausted none fn ps asg body D) (slots E.N e))⟩
    | some c=>AWpI P E none c Q (coll D::ds) ⟨e.t,h'.set (e.h.length+1) (.raw l (recO .exhausted pe fn ps asg body D) (slots E.N e))⟩) :
  AWpI P E none (.rangeFunc g ps asg body) Q ds e:=fun n c a w s k=>by
 refine wpIn_rangeFunc fun fn _=>?_;have hgr:=s.eval g;rw [hg] at hgr;obtain ⟨vs,hev,hcap⟩:∃ vs,a.eval g=.func (.func gf) #[] vs∧RelL c caps vs:=by
  generalize a.eval g=z at hgr;cases hgr with
  | data h=>cases h
  | fn f ys xs us vs hl' hl h' h =>
   simp only [List.length_nil,Array.size_eq_zero_iff] at hl';subst hl';exact ⟨vs,rfl,⟨hl,h⟩⟩
 -- the two blocks
 obtain ⟨c1,l1,s1,k1⟩:=newraw_ok s.hs k (fun _=>.deferred (some [])) (xs:=[]) (vs:=#[]) ⟨rfl,fun j x v hx=>by simp at hx⟩;have sr:=slots_rel s;obtain ⟨c2,l2,s2,k2⟩:=newraw_ok s1 k1 (recO .ready none fn ps asg body w.heap.size) (xs:=slots E.N e) (vs:=a.tmps) ⟨sr.1,fun j x v hx hv=>(sr.2 j x v hx hv).mono l1⟩;have hH:e.h++[AObj.raw w.heap.size (fun _=>.deferred (some [])) []]++[AObj.raw (w.alloc (Obj.deferred (some []))).heap.size (recO .ready none fn ps asg body w.heap.size) (slots E.N e)]=e.h++[qdq w.heap.size,.raw (w.heap.size+1) (recO .ready none fn ps asg body w.heap.size) (slots E.N e)]:=by
  simp [qdq,World.size_alloc]
 rw [hH] at s2 k2;have hle:=l1.trans l2;have hc:=h fn w.heap.size (w.heap.size+1);have hrel:RelL c2 ([.fn (.yield (w.heap.size+1)) [] []]++caps) (#[.func (.yield (w.heap.size+1)) #[] #[]]++vs):=RelL.app ⟨rfl,fun j x v hx hv=>by
  match j with
  | 0=>simp at hx hv;subst hx;subst hv;exact .fn _ [] [] #[] #[] rfl rfl (by simp) (by simp)
  | j+1=>simp at hx⟩ ⟨hcap.1,fun j x v hx hv=>(hcap.2 j x v hx hv).mono hle⟩
 have hcall:=hc.2 _ _ _ s2 (hrel.norm s2);have hen:=run_enterLoop_outer (P:=P) (w:=w) fn (ddf ds a).tmps ps asg body;obtain ⟨W2,hW2⟩:∃ W2,W2=(w.alloc (.deferred (some []))).alloc (recO .ready none fn ps asg body w.heap.size a.tmps):=⟨_,rfl⟩
 have hen':(Instr.enterLoop fn (ddf ds a).tmps ps asg body (WF none).round).run P w=.ok (w.heap.size+1,[coll w.heap.size]) W2:=by
  rw [hW2];exact hen
 rw [← hW2] at hcall;clear hen s2 k1 s1;have hev1:(ddf ds a).eval=a.eval:=rfl;have hres:(resolve (ddf ds a).eval (rangeCall g (w.heap.size+1)) 0).run P W2=.ok { target:=.fn (.func gf) vs,args:=#[.func (.yield (w.heap.size+1)) #[] #[]] } W2:=by
  simp only [rangeCall,resolve,hev1,hev,Deferred.ofValue,Sem.run_pure];simp [Act.eval]
 obtain ⟨fnn,e1,e2,e3⟩:=hc.1;have hb:fnn.body.isNone=false:=by
  cases hbd:fnn.body with
  | none=>rw [hbd] at e2;simp at e2
  | some b=>rfl
 have hinv:(invoke (.fn (.func gf) vs) #[.func (.yield (w.heap.size+1)) #[] #[]]).run P W2=.ok (.enter gf (#[.func (.yield (w.heap.size+1)) #[] #[]]++vs)) W2:=by
  simp only [invoke,callFunc,Sem.run_bind,Sem.run_pure,Result.andThen_ok,run_program,e1,e3,hb,Bool.false_eq_true,if_false]
 rw [← hW2] at k2;refine ⟨_,_,_,_,_,_,_,_,hen',hres,fun _ _=>trivial,hinv,fun h=>(by cases h),?_⟩;refine callsIn_wf.2 ?_;refine hcall.mono ?_;rintro en w3 ⟨r,h',c',⟨⟨v,rfl⟩,st,pe,hst,hrec,hQ⟩,hE,hs',hk'⟩;cases en<;>simp only [EndR] at hE;obtain ⟨hb,tm,htm,hsz,hrl⟩:=hs'.obj _ _ hrec;have hend:=run_endLoop (P:=P) htm hst;have hok:E.ok c' h' w3:=k2.trans hk';have hle':c.le c':=hle.trans hk'.ext;obtain ⟨s4,k4⟩:=rawset_ok (f':=recO .exhausted pe fn ps asg body w.heap.size) hs' hok hrec htm ⟨hsz,hrl⟩;have act:({ ddf ds a with defers:=[coll w.heap.size]++(ddf ds a).defers }:Act)=ddf (coll w.heap.size::ds) a:=by
  simp [ddf,s.defers]
 refine ⟨pe,_,hend,?_⟩;rw [act];cases pe with
 | none=>exact ⟨.normal,_,⟨e.t,_⟩,c',a,rfl,hQ,trivial,⟨s.defers,s.size,fun i=>(s.tmps i).mono hle',s4⟩,k4⟩
 | some cd=>exact hQ n c' a _ ⟨s.defers,s.size,fun i=>(s.tmps i).mono hle',s4⟩ k4
end
end Go.Abs

namespace Go.Abs
section
variable {P:Program} {E:Ent}
theorem drawA_any (m:Nat) {l:List Oper} {Q:AExit→Env→Prop} {e:Env} (hB:(decide (m≤l.length)&&drawB (l.take m)&&tailB m l)=true)
  (h:opsD P E.N [] (l.take m) e [] fun R e1=>sepD (Region.before (l.take m).toArray) R∧AOps P E l.toArray (l.drop m) Q ⟨e1.t,qca R e1.h⟩) {c:Ctx} {a:Act} {w:World} (s:Sim E.N c e a w) (k:E.ok c e.h w) :
  wpAny P .any l.toArray (conc E Q) l.toArray.size (Array.replicate l.toArray.size false) a { w with drawn:=w.drawn+1 }:=by
 obtain ⟨R,hlen,hstep,hsep,hQ⟩:=opsD_wit h;simp only [List.nil_append] at hsep hQ;simp only [Bool.and_eq_true,decide_eq_true_eq] at hB;obtain ⟨⟨hml,hB⟩,hT⟩:=hB;have d:DReg P E (l.take m) e R:=⟨drawOk_of hB,hlen,fun k o ho=>by simpa using hstep k o ho,fun k s r r' i off cs hr hk hs hks=>by
  simp only [sepD,List.all_eq_true] at hsep;have:=hsep (r,k) (by rw [List.mem_zipIdx_iff_getElem?];simpa using hr);simp only [hk,List.all_eq_true] at this;have:=this (r',s) (by rw [List.mem_zipIdx_iff_getElem?];simpa using hs);simpa [hks] using this⟩
 have hs':HSim c e.h { w with drawn:=w.drawn+1 }:=s.hs.ext (fun _ _=>rfl) (.refl c) (fun _ _=>rfl) (fun _ _ _ h=>.inl h) s.hs.dom;have hk':E.ok c e.h { w with drawn:=w.drawn+1 }:=k.ext' s.hs (fun _ _=>rfl) (.refl c) (fun _=>rfl) rfl rfl rfl (Nat.le_refl _) (fun _ _ _ h=>.inl h);have hff:(fun _=>false)=fun j=>(Array.replicate l.toArray.size false).getD j false:=by
  funext j;simp [Array.getD_eq_getD_getElem?,Array.getElem?_replicate];split<;>rfl
 refine any_ok hml (tailOk_of hT) d k.len (fun c' a' w' s' k'=>?_) _ _ (by simp) (fun j _=>(congrFun hff j).symm) ?_ ?_ c a _ ?_
 · exact hQ c' a' w' s' k'
 · simp
 ·
  intro j o hj;rw [← hff] at hj;cases hj
 ·
  rw [← hff];exact dinv_start ⟨s.defers,s.size,s.tmps,hs'⟩ hk'
variable {ro:Option Nat} {Q:AExit→List Deferred→Env→Prop} {ds:List Deferred} {e:Env}
theorem awpI_drawG {id:Nat} (m:Nat) {l:List Oper} (hm:P.follows .mixedOrders=true) (hB:(decide (m≤l.length)&&drawB (l.take m)&&tailB m l)=true) (hd:(l.all fun o=>!isDef o.op)=true)
  (h:opsDG P E.N [] (l.take m) e [] fun R e1=>sepD (Region.before (l.take m).toArray) R∧opsG P E.N (fun x e=>Q x [] e) ((l.take m).map (·.dst)) (l.drop m) ⟨e1.t,qca R e1.h⟩):AWpI P E ro (.region id l.toArray true) Q [] e:=fun n c a w s k=>by
 have h1:=drawA_any (P:=P) (E:=E) m hB (opsD_mono0 (opsDG_D h) fun _ _ hk=>⟨hk.1,qcb (l.drop m) (l.take m) _ (by simp) hk.2⟩) s k;have e0:ddf [] a=a:=by simp [ddf]
 rw [e0];refine wpIn_mono (wpIn_region_any hm (any_in (by rintro ⟨a,w,x',e,c,_,hx,_⟩;cases x'<;>exact hx) (fun i o ho=>?_) h1)) fun x a' w' hh=>?_
 ·
  have:o∈l:=by
   have:=List.mem_of_getElem? (l:=l) (i:=i) (a:=o) (by simpa using ho);exact this
  have:=List.all_eq_true.1 hd o this;simpa using this
 ·
  have:=conc_I (Q:=Q) (ds:=[]) hh;have e1:ddf [] a'=a':=by simp [ddf]
  rwa [e1] at this
def roundI (E:Ent) (idx l:Nat) (fn:FuncId) (ps:Array Tmp) (asg body:Code) (D:Nat) (xs:List AV) (R:AEnd→qab→Prop):AExit→List Deferred→Env→Prop
 | .normal,_,e=>e.h[idx]?=some (.raw l (recO .busy none fn ps asg body D) xs)∧∃ h',Wk E ⟨[],e.h.set idx (.raw l (recO .ready none fn ps asg body D) xs)⟩ ⟨[],h'⟩∧R (.ret (.val (.bool true))) h'
 | .ret,_,e=>e.h[idx]?=some (.raw l (recO .busy none fn ps asg body D) xs)∧∃ h',Wk E ⟨[],e.h.set idx (.raw l (recO .done (some .ret) fn ps asg body D) xs)⟩ ⟨[],h'⟩∧R (.ret (.val (.bool false))) h'
 | _,_,_=>False
theorem wk_world {e e1:Env} {c:Ctx} {w:World} (hw:Wk E ⟨[],e.h⟩ ⟨[],e1.h⟩) (s:HSim c e.h w) (k:E.ok c e.h w):∃ c1,HSim c1 e1.h w∧E.ok c1 e1.h w:=by
 have hw':Wk ⟨0,E.c,E.h,E.w⟩ ⟨[],e.h⟩ ⟨[],e1.h⟩:=fun c a w s k=>by
  obtain ⟨c1,s1,k1⟩:=hw c { tmps:=Array.replicate E.N undef,defers:=[] } w ⟨rfl,by simp,fun _=>.top _,s.hs⟩ (k.withN E.N);exact ⟨c1,⟨s.defers,s.size,fun _=>.top _,s1.hs⟩,k1.withN 0⟩
 obtain ⟨c1,s1,k1⟩:=hw' c ⟨#[],[]⟩ w ⟨rfl,rfl,fun _=>.top _,s⟩ (k.withN 0);exact ⟨c1,s1.hs,k1.withN E.N⟩
theorem ayield_of {l idx:Nat} {fn:FuncId} {p:Tmp} {asg body:Code} {D:Nat} {xs:List AV} {h:qab} (hidx:h[idx]?=some (.raw l (recO .ready none fn #[p] asg body D) xs)) {x:AV} (hp:p<xs.length) {R:AEnd→qab→Prop}
  (hbody:∀ E:Ent,E.N=xs.length→E.h=h→hUnder h.length h=true→x.bd→x.under h.length=true→AWpI P E (some l) asg (thenI (fun ds e=>ds=[]∧e.h[idx]?=some (.raw l (recO .ready none fn #[p] asg body D) xs) ∧
   AWpI P E (some l) body (roundI E idx l fn #[p] asg body D xs R) [] ⟨e.t,e.h.set idx (.raw l (recO .busy none fn #[p] asg body D) xs)⟩) (fun _ _ _=>False)) [] ⟨(p,x)::qdp 0 xs,h⟩):AYield P l [x] h R:=fun m c w vs hs ha=>by
 obtain ⟨hb,tm,htm,hsz,hrl⟩:=hs.obj _ _ hidx;have hy:=run_yield (P:=P) (args:=vs) htm (by simp [ha.1]);refine ⟨fn,_,asg,body,hy,?_⟩;obtain ⟨v,rfl⟩:∃ v,vs = #[v]:=by
  have:=ha.1
  match vs,this with
  | ⟨[v]⟩,_=>exact ⟨v,rfl⟩
 have hv:Rel c x v:=ha.2 0 x v rfl rfl;have e0:((#[p]:Array Tmp).zip #[v]).foldl (fun tmps (t,a)=>tmps.setIfInBounds t a) tm=tm.setIfInBounds p v:=by simp
 refine roundIn_of_wpIn trivial ?_;rw [e0];show asg.wpIn (WF (some l)) m P _ _ _;have hE:=hbody ⟨xs.length,c,h,w⟩ rfl rfl hs.hUnder hv.bd (hv.under hs.dom) m c { tmps:=tm.setIfInBounds p v,defers:=[] } w ⟨rfl,by simp [hsz],fun i=>?_,hs⟩ (Ent.ok.refl _ hs)
 ·
  refine wpIn_mono hE ?_;rintro ex a' w1 ⟨x',ds',e',c1,a0,rfl,hq,hx,s1,k1⟩;cases x' with
  | normal =>
   cases ex<;>simp only [XR] at hx;obtain ⟨rfl,hr1,hq⟩:=hq;obtain ⟨hb1,tm1,htm1,hsz1,hrl1⟩:=s1.hs.obj _ _ hr1;refine ⟨_,run_beginRound htm1 rfl,?_⟩;obtain ⟨s2,k2⟩:=rawset_ok (f':=recO .busy none fn #[p] asg body D) s1.hs k1 hr1 htm1 ⟨hsz1,hrl1⟩;refine wpIn_mono (hq m c1 a0 _ ⟨s1.defers,s1.size,s1.tmps,s2⟩ k2) ?_;rintro ex a2 w2 ⟨x',ds',e2,c2,a0,rfl,hq,hx,s3,k3⟩;cases x' with
   | normal =>
    cases ex<;>simp only [XR] at hx;obtain ⟨hr3,h',hwk,hR⟩:=hq;obtain ⟨hb3,tm3,htm3,hsz3,hrl3⟩:=s3.hs.obj _ _ hr3;obtain ⟨s4,k4⟩:=rawset_ok (f':=recO .ready none fn #[p] asg body D) s3.hs k3 hr3 htm3 ⟨hsz3,hrl3⟩;obtain ⟨c5,s5,k5⟩:=wk_world (e:=⟨[],_⟩) (e1:=⟨[],h'⟩) hwk s4 k4;exact ⟨_,_,run_endRound none htm3,.ret (.val (.bool true)),h',c5,hR,.val _,s5,k5.withN 0⟩
   | ret =>
    cases ex<;>simp only [XR] at hx;obtain ⟨hr3,h',hwk,hR⟩:=hq;obtain ⟨hb3,tm3,htm3,hsz3,hrl3⟩:=s3.hs.obj _ _ hr3;obtain ⟨s4,k4⟩:=rawset_ok (f':=recO .done (some .ret) fn #[p] asg body D) s3.hs k3 hr3 htm3 ⟨hsz3,hrl3⟩;obtain ⟨c5,s5,k5⟩:=wk_world (e:=⟨[],_⟩) (e1:=⟨[],h'⟩) hwk s4 k4;exact ⟨_,_,run_endRound (some .ret) htm3,.ret (.val (.bool false)),h',c5,hR,.val _,s5,k5.withN 0⟩
   | exit i=>exact hq.elim
   | panic v=>exact hq.elim
  | exit i=>exact hq.elim
  | ret=>exact hq.elim
  | panic v=>exact hq.elim
 ·
  simp only [qbb];by_cases hi:p=i
  ·
   subst hi;simp [Array.getD_eq_getD_getElem?,hsz,hp];exact hv
  ·
   have:(p == i)=false:=by simpa using hi
   rw [this,cond_false,lookT_slots,if_pos (Nat.zero_le _),Nat.sub_zero];by_cases hlt:i<xs.length
   ·
    have e1:xs[i]?=some xs[i]:=by simp [hlt]
    rw [e1];have hlt':i<tm.size:=by omega
    have e2:(tm.setIfInBounds p v).getD i undef=tm[i]:=by
     rw [Array.getD_eq_getD_getElem?,Array.getElem?_setIfInBounds_ne hi];simp [hlt']
    rw [e2];exact hrl i _ _ e1 (by simp [hlt'])
   ·
    rw [List.getElem?_eq_none (by omega)];exact .top _
def takeAll:List (Nat×Nat)→qab→qab
 | [],h=>h
 | p::l,h=>takeAll l (h.set p.1 (.raw p.2 (fun _=>.deferred none) []))
def fnPostI (P:Program) (rs:List ResultVar) (n0:Nat) (R:AEnd→qab→Prop):AExit→List Deferred→Env→Prop
 | .ret,ds,e | .normal,ds,e=>∃ ms:List (Nat×Nat),ds=ms.map (fun p=>coll p.2)∧(ms.map (·.1)).Nodup∧(∀ p,p∈ms→e.h[p.1]?=some (qdq p.2))∧RetOk P rs n0 R ⟨e.t,takeAll ms e.h⟩
 | _,_,_=>False
theorem takeAll_ok {N:Nat}:∀ {ms:List (Nat×Nat)} {e:Env} {c:Ctx} {a:Act} {w:World},(ms.map (·.1)).Nodup→(∀ p,p∈ms→e.h[p.1]?=some (qdq p.2))→Sim N c e a w→E.ok c e.h w→∀ {fn:Func} {tmps:Array Value} {R:Ending→World→Prop} {n:Nat},
  (∀ w',Sim N c ⟨e.t,takeAll ms e.h⟩ a w'→E.ok c (takeAll ms e.h) w'→LeavesIn (WF none) n P fn tmps R [] .returning w')→LeavesInM (WF none) n P fn tmps R (ms.map fun p=>coll p.2) .returning w
 | [],e,c,a,w,_,_,s,k,fn,tmps,R,n,hf=>hf w s k
 | p::ms,e,c,a,w,hn,hm,s,k,fn,tmps,R,n,hf=>by
  simp only [List.map_cons,List.nodup_cons] at hn;have hp:=hm p (by simp);obtain ⟨hb,vs,hv,hsz,hrl⟩:=s.hs.obj _ _ hp;obtain ⟨s1,k1⟩:=rawset_ok (f':=fun _=>.deferred none) s.hs k hp hv ⟨hsz,hrl⟩;refine ⟨by simp,.inl ⟨p.2,_,rfl,run_takeDeferred hv,?_⟩⟩;refine takeAll_ok (e:=⟨e.t,e.h.set p.1 (.raw p.2 (fun _=>.deferred none) [])⟩) hn.2 (fun q hq=>?_) ⟨s.defers,s.size,s.tmps,s1⟩ k1 hf;have hne:p.1≠q.1:=fun h=>hn.1 (by rw [h];exact List.mem_map_of_mem hq);show (e.h.set p.1 _)[q.1]?=_;rw [List.getElem?_set_ne hne];exact hm q (by simp [hq])
theorem acalls_introI {f:FuncId} {fn:Func} {code:Code} {args:List AV} {h:qab} {R:AEnd→qab→Prop} (hf:P.funcs[f]?=some fn) (hb:fn.body=some code) (hnm:(fn.name == "runtime.NumGoroutine")=false) (hN:args.length≤fn.ntmps)
  (body:∀ E:Ent,E.N=fn.ntmps→E.h=h→hUnder h.length h=true→bdL args→(∀ o,o∈h→o.bd)→qam h.length args=true→AWpI P E none code (fnPostI P fn.results.toList h.length R) [] ⟨qdp 0 args,h⟩):ACalls P f args h R:=by
 refine awp_start (fun hb1 hb2 hb3=>?_) ⟨fn,hf,by rw [hb];rfl,hnm⟩;refine ⟨⟨fn,hf,by rw [hb];rfl,hnm⟩,fun c w vs hs ha=>?_⟩;have ok0:=Ent.ok.refl fn.ntmps hs;have s0:=sim_enter (N:=fn.ntmps) hs ha hN;refine callsIn_wf.1 (callsIn_of_wp_marks (F:=WF none) (n:=0) hf hb trivial ?_);have h1:=body ⟨fn.ntmps,c,h,w⟩ rfl rfl hs.hUnder hb1 hb2 hb3 0 c _ w s0 ok0;have e0:∀ a:Act,ddf [] a=a:=fun a=>by simp [ddf]
 rw [e0] at h1;refine wpIn_mono h1 ?_;rintro ex a' w' ⟨x',ds',e',c',a0,rfl,hq,hx,hs',ok'⟩;have fin:fnPostI P fn.results.toList h.length R .ret ds' e'→LeavesInM (WF none) 0 P fn (ddf ds' a0).tmps (fun e w'=>∃ r h' c',R r h'∧EndR c' r e∧HSim c' h' w'∧(⟨0,c,h,w⟩:Ent).ok c' h' w') (ddf ds' a0).defers .returning w':=by
  rintro ⟨ms,rfl,hnd,hm,hside,r',h',g1,g2,g3,g4,g5,hR⟩;have hd:(ddf (ms.map fun p=>coll p.2) a0).defers=ms.map fun p=>coll p.2:=by
   simp [ddf,hs'.defers]
  rw [hd];refine takeAll_ok (E:=⟨fn.ntmps,c,h,w⟩) hnd hm hs' ok' fun w2 s2 k2=>?_;obtain ⟨v,hv,hr⟩:=results_ok (E:=⟨fn.ntmps,c,h,w⟩) (P:=P) s2 fn hside;obtain ⟨c2,q1,q2,q3⟩:=finish (E:=⟨fn.ntmps,c,h,w⟩) s2 k2 hr g1 g2 g3 g4 g5;exact ⟨v,hv,.ret r',h',c2,hR,q3,q1,q2.withN 0⟩
 cases x' with
 | normal=>cases ex<;>simp only [XR] at hx;exact fin hq
 | exit i=>exact hq.elim
 | ret=>cases ex<;>simp only [XR] at hx;exact fin hq
 | panic x=>exact hq.elim
end
end Go.Abs

namespace Go.Abs
section
variable {P:Program} {E:Ent}
theorem awpI_of_awp {code:Code} {Q:AExit→List Deferred→Env→Prop} {e:Env} (h:AWp P E code (fun x e=>Q x [] e) e):AWpI P E none code Q [] e:=fun n c a w s k=>by
 have e0:∀ a:Act,ddf [] a=a:=fun a=>by simp [ddf]
 rw [e0];refine wpIn_mono ((wpIn_wide (n:=n)).2 (h c a w s k)) fun x a' w' hh=>?_;have:=conc_I (Q:=Q) (ds:=[]) hh
 rwa [e0] at this
theorem AYield.mono {l:Nat} {args:List AV} {h:qab} {R R':AEnd→qab→Prop} (k:AYield P l args h R) (hr:∀ r h',R r h'→R' r h'):AYield P l args h R':=fun m c w vs hs ha=>by
 obtain ⟨fn,tmps,asg,body,h1,h2⟩:=k m c w vs hs ha;refine ⟨fn,tmps,asg,body,h1,h2.mono ?_⟩;rintro e w' ⟨r,h',c',hR,x⟩;exact ⟨r,h',c',hr _ _ hR,x⟩
def TWpI (P:Program) (E:Ent) (ro:Option Nat) (c:Code) (Q:AExit→List Deferred→Env→Prop) (ds:List Deferred) (e:Env) (_:Tag (c,Q)):Prop:=AWpI P E ro c Q ds e
def wpCI (P:Program) (E:Ent) (ro:Option Nat):Code→(AExit→List Deferred→Env→Prop)→List Deferred→Env→Prop
 | .skip,Q,ds,e=>Q .normal ds e
 | .region _ ops false,Q,ds,e=>(ops.toList.all fun o=>!isDef o.op)=true∧opsG P E.N (fun x e=>Q x ds e) [] ops.toList e
 | .seq a b,Q,ds,e=>wpCI P E ro a (thenI (wpCI P E ro b Q) Q) ds e
 | .cond x a b,Q,ds,e=>match e.get x with
  | .val (.bool c)=>Cnd c e (wpCI P E ro a Q ds) (wpCI P E ro b Q ds) ⟨⟩ ⟨⟩
  | _=>False
 | .block id b,Q,ds,e=>wpCI P E ro b (blockI id Q) ds e
 | .exit id,Q,ds,e=>Q (.exit id) ds e
 | .ret,Q,ds,e=>Q .ret ds e
 | c,Q,ds,e=>TWpI P E ro c Q ds e ⟨⟩
theorem qb9 {ro:Option Nat}:∀ (c:Code) (Q:AExit→List Deferred→Env→Prop) (ds:List Deferred) (e:Env),wpCI P E ro c Q ds e→AWpI P E ro c Q ds e
 | .skip,Q,ds,e,h=>awpI_skip h
 | .region id ops false,Q,ds,e,h=>by have:=awpI_region (ro:=ro) (id:=id) (l:=ops.toList) h.1 h.2;simpa using this
 | .region id ops true,Q,ds,e,h=>h
 | .seq a b,Q,ds,e,h=>awpI_seq (awpI_mono (qb9 a _ ds e h) fun x ds' e' hx=>by
   cases x with
   | normal=>exact qb9 b Q ds' e' hx
   | _=>exact hx)
 | .cond x a b,Q,ds,e,h=>by
  simp only [wpCI] at h;split at h
  ·
   rename_i c hx;exact awpI_cond hx (fun hc=>qb9 a Q ds e (h.1 hc)) (fun hc=>qb9 b Q ds e (h.2 hc))
  · exact h.elim
 | .block id b,Q,ds,e,h=>awpI_block (qb9 b _ ds e h)
 | .loop b,Q,ds,e,h=>h
 | .rangeFunc ..,Q,ds,e,h=>h
 | .exit id,Q,ds,e,h=>awpI_exit h
 | .scope b,Q,ds,e,h=>h
 | .label _,Q,ds,e,h=>h
 | .goto _,Q,ds,e,h=>h
 | .ret,Q,ds,e,h=>awpI_ret h
 | .refuse _,Q,ds,e,h=>h
end
attribute [go_sem] wpCI thenI blockI isDef opsY stepY
end Go.Abs

namespace Go.Abs
end Go.Abs
