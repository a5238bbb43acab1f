/- Part 18 of a proof: AbsIp, AbsIq, AbsOk -/
import Derived.Test.YtilhejdbiionhaaGreatDoorR14
import Derived.Test.YtilhejdbiionhaaGreatDoorR16
import Derived.Test.YtilhejdbiionhaaGreatDoorR17
set_option linter.all false

namespace Go.Abs
section
variable {P:Program} {E:Ent}
theorem drawA_any(m:Nat){l:List Oper}{Q:AExit→Env→Prop}{e:Env}(hB:(decide (m≤l.length)&&drawB (l.take m)&&tailB m l)=true)
  (h:opsD P E.N [] (l.take m) e [] fun R e1=>sepD (Region.before (l.take m).toArray) R∧AOps P E l.toArray (l.drop m) Q ⟨e1.t,qce R e1.h⟩) {c:Ctx} {a:Act} {w:World} (s:Sim E.N c e a w) (k:E.ok c e.h w) :
  wpAny P .any l.toArray (conc E Q) l.toArray.size (Array.replicate l.toArray.size false) a { w with drawn:=w.drawn+1 }:=by
 obtain⟨R,hlen,hstep,hsep,hQ⟩:=opsD_wit h;simp only[List.nil_append]at hsep hQ;simp only[Bool.and_eq_true,decide_eq_true_eq]at hB;obtain⟨⟨hml,hB⟩,hT⟩:=hB;have d:DReg P E (l.take m) e R:=⟨drawOk_of hB,hlen,fun k o ho=>by simpa using hstep k o ho,fun k s r r' i off cs hr hk hs hks=>by
  simp only[sepD,List.all_eq_true]at hsep;have:=hsep (r,k) (by rw[List.mem_zipIdx_iff_getElem?];simpa using hr);simp only[hk,List.all_eq_true]at this;have:=this (r',s) (by rw[List.mem_zipIdx_iff_getElem?];simpa using hs);simpa[hks]using this⟩
 have hs':HSim c e.h { w with drawn:=w.drawn+1 }:=s.hs.ext (fun _ _=>rfl) (.refl c) (fun _ _=>rfl) (fun _ _ _ h=>.inl h) s.hs.dom;have hk':E.ok c e.h { w with drawn:=w.drawn+1 }:=k.ext' s.hs (fun _ _=>rfl) (.refl c) (fun _=>rfl) rfl rfl rfl (Nat.le_refl _) (fun _ _ _ h=>.inl h);have hff:(fun _=>false)=fun j=>(Array.replicate l.toArray.size false).getD j false:=by
  funext j;simp[Array.getD_eq_getD_getElem?,Array.getElem?_replicate];split<;>rfl
 refine any_ok hml (tailOk_of hT) d k.len (fun c' a' w' s' k'=>?_) _ _ (by simp) (fun j _=>(congrFun hff j).symm) ?_ ?_ c a _ ?_
 ·exact hQ c' a' w' s' k'
 ·simp
 ·intro j o hj;rw[←hff]at hj;cases hj
 ·rw[←hff];exact dinv_start ⟨s.defers,s.size,s.tmps,hs'⟩ hk'
variable {ro:Option Nat} {Q:AExit→List Deferred→Env→Prop} {ds:List Deferred} {e:Env}
theorem awpI_drawG{id:Nat}(m:Nat){l:List Oper}(hm:P.follows .mixedOrders=true)(hB:(decide (m≤l.length)&&drawB (l.take m)&&tailB m l)=true)(hd:(l.all fun o=>!isDef o.op)=true)
  (h:opsDG P E.N [] (l.take m) e [] fun R e1=>sepD (Region.before (l.take m).toArray) R∧opsG P E.N (fun x e=>Q x [] e) ((l.take m).map (·.dst)) (l.drop m) ⟨e1.t,qce R e1.h⟩):AWpI P E ro (.region id l.toArray true) Q [] e:=fun n c a w s k=>by
 have h1:=drawA_any (P:=P) (E:=E) m hB (opsD_mono0 (opsDG_D h) fun _ _ hk=>⟨hk.1,qcf (l.drop m) (l.take m) _ (by simp) hk.2⟩) s k;have e0:ddf [] a=a:=by simp[ddf]
 rw[e0];refine wpIn_mono (wpIn_region_any hm (any_in (by rintro⟨a,w,x',e,c,_,hx,_⟩;cases x'<;>exact hx) (fun i o ho=>?_) h1)) fun x a' w' hh=>?_
 ·have:o∈l:=by
   have:=List.mem_of_getElem? (l:=l) (i:=i) (a:=o) (by simpa using ho);exact this
  have:=List.all_eq_true.1 hd o this;simpa using this
 ·have:=conc_I (Q:=Q) (ds:=[]) hh;have e1:ddf [] a'=a':=by simp[ddf]
  rwa [e1]at this
def roundI(E:Ent)(idx l:Nat)(fn:FuncId)(ps:Array Tmp)(asg body:Code)(D:Nat)(xs:List AV)(R:AEnd→qab→Prop):AExit→List Deferred→Env→Prop
 | .normal,_,e=>e.h[idx]?=some (.raw l (recO .busy none fn ps asg body D) xs)∧∃h',Wk E ⟨[],e.h.set idx (.raw l (recO .ready none fn ps asg body D) xs)⟩ ⟨[],h'⟩∧R (.ret (.val (.bool true))) h'
 | .ret,_,e=>e.h[idx]?=some (.raw l (recO .busy none fn ps asg body D) xs)∧∃h',Wk E ⟨[],e.h.set idx (.raw l (recO .done (some .ret) fn ps asg body D) xs)⟩ ⟨[],h'⟩∧R (.ret (.val (.bool false))) h'
 |_,_,_=>False
theorem wk_world{e e1:Env}{c:Ctx}{w:World}(hw:Wk E ⟨[],e.h⟩ ⟨[],e1.h⟩)(s:HSim c e.h w)(k:E.ok c e.h w):∃c1,HSim c1 e1.h w∧E.ok c1 e1.h w:=by
 have hw':Wk ⟨0,E.c,E.h,E.w⟩ ⟨[],e.h⟩ ⟨[],e1.h⟩:=fun c a w s k=>by
  obtain⟨c1,s1,k1⟩:=hw c { tmps:=Array.replicate E.N undef,defers:=[] } w ⟨rfl,by simp,fun _=>.top _,s.hs⟩ (k.withN E.N);exact⟨c1,⟨s.defers,s.size,fun _=>.top _,s1.hs⟩,k1.withN 0⟩
 obtain⟨c1,s1,k1⟩:=hw' c ⟨#[],[]⟩ w ⟨rfl,rfl,fun _=>.top _,s⟩ (k.withN 0);exact⟨c1,s1.hs,k1.withN E.N⟩
theorem ayield_of{l idx:Nat}{fn:FuncId}{p:Tmp}{asg body:Code}{D:Nat}{xs:List AV}{h:qab}(hidx:h[idx]?=some (.raw l (recO .ready none fn #[p] asg body D) xs)){x:AV}(hp:p<xs.length){R:AEnd→qab→Prop}
  (hbody:∀E:Ent,E.N=xs.length→E.h=h→hUnder h.length h=true→x.bd→x.under h.length=true→AWpI P E (some l) asg (thenI (fun ds e=>ds=[]∧e.h[idx]?=some (.raw l (recO .ready none fn #[p] asg body D) xs) ∧
   AWpI P E (some l) body (roundI E idx l fn #[p] asg body D xs R) [] ⟨e.t,e.h.set idx (.raw l (recO .busy none fn #[p] asg body D) xs)⟩) (fun _ _ _=>False)) [] ⟨(p,x)::qdz 0 xs,h⟩):AYield P l [x] h R:=fun m c w vs hs ha=>by
 obtain⟨hb,tm,htm,hsz,hrl⟩:=hs.obj _ _ hidx;have hy:=run_yield (P:=P) (args:=vs) htm (by simp[ha.1]);refine⟨fn,_,asg,body,hy,?_⟩;obtain⟨v,rfl⟩:∃v,vs = #[v]:=by
  have:=ha.1
  match vs,this with
  |⟨[v]⟩,_=>exact⟨v,rfl⟩
 have hv:Rel c x v:=ha.2 0 x v rfl rfl;have e0:((#[p]:Array Tmp).zip #[v]).foldl (fun tmps (t,a)=>tmps.setIfInBounds t a) tm=tm.setIfInBounds p v:=by simp
 refine roundIn_of_wpIn trivial ?_;rw[e0];show asg.wpIn (WF (some l)) m P _ _ _;have hE:=hbody ⟨xs.length,c,h,w⟩ rfl rfl hs.hUnder hv.bd (hv.under hs.dom) m c { tmps:=tm.setIfInBounds p v,defers:=[] } w ⟨rfl,by simp[hsz],fun i=>?_,hs⟩ (Ent.ok.refl _ hs)
 ·refine wpIn_mono hE ?_;rintro ex a' w1 ⟨x',ds',e',c1,a0,rfl,hq,hx,s1,k1⟩;cases x' with
  |normal =>
   cases ex<;>simp only[XR]at hx;obtain⟨rfl,hr1,hq⟩:=hq;obtain⟨hb1,tm1,htm1,hsz1,hrl1⟩:=s1.hs.obj _ _ hr1;refine⟨_,run_beginRound htm1 rfl,?_⟩;obtain⟨s2,k2⟩:=rawset_ok (f':=recO .busy none fn #[p] asg body D) s1.hs k1 hr1 htm1 ⟨hsz1,hrl1⟩;refine wpIn_mono (hq m c1 a0 _ ⟨s1.defers,s1.size,s1.tmps,s2⟩ k2) ?_;rintro ex a2 w2 ⟨x',ds',e2,c2,a0,rfl,hq,hx,s3,k3⟩;cases x' with
   |normal =>
    cases ex<;>simp only[XR]at hx;obtain⟨hr3,h',hwk,hR⟩:=hq;obtain⟨hb3,tm3,htm3,hsz3,hrl3⟩:=s3.hs.obj _ _ hr3;obtain⟨s4,k4⟩:=rawset_ok (f':=recO .ready none fn #[p] asg body D) s3.hs k3 hr3 htm3 ⟨hsz3,hrl3⟩;obtain⟨c5,s5,k5⟩:=wk_world (e:=⟨[],_⟩) (e1:=⟨[],h'⟩) hwk s4 k4;exact⟨_,_,run_endRound none htm3,.ret (.val (.bool true)),h',c5,hR,.val _,s5,k5.withN 0⟩
   |ret =>
    cases ex<;>simp only[XR]at hx;obtain⟨hr3,h',hwk,hR⟩:=hq;obtain⟨hb3,tm3,htm3,hsz3,hrl3⟩:=s3.hs.obj _ _ hr3;obtain⟨s4,k4⟩:=rawset_ok (f':=recO .done (some .ret) fn #[p] asg body D) s3.hs k3 hr3 htm3 ⟨hsz3,hrl3⟩;obtain⟨c5,s5,k5⟩:=wk_world (e:=⟨[],_⟩) (e1:=⟨[],h'⟩) hwk s4 k4;exact⟨_,_,run_endRound (some .ret) htm3,.ret (.val (.bool false)),h',c5,hR,.val _,s5,k5.withN 0⟩
   |exit i=>exact hq.elim
   |panic v=>exact hq.elim
  |exit i=>exact hq.elim
  |ret=>exact hq.elim
  |panic v=>exact hq.elim
 ·simp only[qbb];by_cases hi:p=i
  ·subst hi;simp[Array.getD_eq_getD_getElem?,hsz,hp];exact hv
  ·have:(p == i)=false:=by simpa using hi
   rw[this,cond_false,lookT_slots,if_pos (Nat.zero_le _),Nat.sub_zero];by_cases hlt:i<xs.length
   ·have e1:xs[i]?=some xs[i]:=by simp[hlt]
    rw[e1];have hlt':i<tm.size:=by omega
    have e2:(tm.setIfInBounds p v).getD i undef=tm[i]:=by
     rw[Array.getD_eq_getD_getElem?,Array.getElem?_setIfInBounds_ne hi];simp[hlt']
    rw[e2];exact hrl i _ _ e1 (by simp[hlt'])
   ·rw[List.getElem?_eq_none (by omega)];exact .top _
def takeAll:List (Nat×Nat)→qab→qab
 | [],h=>h
 |p::l,h=>takeAll l (h.set p.1 (.raw p.2 (fun _=>.deferred none) []))
def fnPostI(P:Program)(rs:List ResultVar)(n0:Nat)(R:AEnd→qab→Prop):AExit→List Deferred→Env→Prop
 | .ret,ds,e| .normal,ds,e=>∃ms:List (Nat×Nat),ds=ms.map (fun p=>coll p.2)∧(ms.map (·.1)).Nodup∧(∀p,p∈ms→e.h[p.1]?=some (qd0 p.2))∧RetOk P rs n0 R ⟨e.t,takeAll ms e.h⟩
 |_,_,_=>False
theorem takeAll_ok{N:Nat}:∀{ms:List (Nat×Nat)} {e:Env} {c:Ctx} {a:Act} {w:World},(ms.map (·.1)).Nodup→(∀p,p∈ms→e.h[p.1]?=some (qd0 p.2))→Sim N c e a w→E.ok c e.h w→∀{fn:Func} {tmps:Array Value} {R:Ending→World→Prop} {n:Nat},
  (∀w',Sim N c ⟨e.t,takeAll ms e.h⟩ a w'→E.ok c (takeAll ms e.h) w'→LeavesIn (WF none) n P fn tmps R [] .returning w')→LeavesInM (WF none) n P fn tmps R (ms.map fun p=>coll p.2) .returning w
 | [],e,c,a,w,_,_,s,k,fn,tmps,R,n,hf=>hf w s k
 |p::ms,e,c,a,w,hn,hm,s,k,fn,tmps,R,n,hf=>by
  simp only[List.map_cons,List.nodup_cons]at hn;have hp:=hm p (by simp);obtain⟨hb,vs,hv,hsz,hrl⟩:=s.hs.obj _ _ hp;obtain⟨s1,k1⟩:=rawset_ok (f':=fun _=>.deferred none) s.hs k hp hv ⟨hsz,hrl⟩;refine⟨by simp,.inl ⟨p.2,_,rfl,run_takeDeferred hv,?_⟩⟩;refine takeAll_ok (e:=⟨e.t,e.h.set p.1 (.raw p.2 (fun _=>.deferred none) [])⟩) hn.2 (fun q hq=>?_) ⟨s.defers,s.size,s.tmps,s1⟩ k1 hf;have hne:p.1≠q.1:=fun h=>hn.1 (by rw[h];exact List.mem_map_of_mem hq);show(e.h.set p.1 _)[q.1]?=_;rw[List.getElem?_set_ne hne];exact hm q (by simp[hq])
theorem acalls_introI{f:FuncId}{fn:Func}{code:Code}{args:List AV}{h:qab}{R:AEnd→qab→Prop}(hf:P.funcs[f]?=some fn)(hb:fn.body=some code)(hnm:(fn.name == "runtime.NumGoroutine")=false)(hN:args.length≤fn.ntmps)
  (body:∀E:Ent,E.N=fn.ntmps→E.h=h→hUnder h.length h=true→bdL args→(∀o,o∈h→o.bd)→qao h.length args=true→AWpI P E none code (fnPostI P fn.results.toList h.length R) [] ⟨qdz 0 args,h⟩):ACalls P f args h R:=by
 refine awp_start (fun hb1 hb2 hb3=>?_) ⟨fn,hf,by rw[hb];rfl,hnm⟩;refine⟨⟨fn,hf,by rw[hb];rfl,hnm⟩,fun c w vs hs ha=>?_⟩;have ok0:=Ent.ok.refl fn.ntmps hs;have s0:=sim_enter (N:=fn.ntmps) hs ha hN;refine callsIn_wf.1 (callsIn_of_wp_marks (F:=WF none) (n:=0) hf hb trivial ?_);have h1:=body ⟨fn.ntmps,c,h,w⟩ rfl rfl hs.hUnder hb1 hb2 hb3 0 c _ w s0 ok0;have e0:∀a:Act,ddf [] a=a:=fun a=>by simp[ddf]
 rw[e0]at h1;refine wpIn_mono h1 ?_;rintro ex a' w' ⟨x',ds',e',c',a0,rfl,hq,hx,hs',ok'⟩;have fin:fnPostI P fn.results.toList h.length R .ret ds' e'→LeavesInM (WF none) 0 P fn (ddf ds' a0).tmps (fun e w'=>∃r h' c',R r h'∧EndR c' r e∧HSim c' h' w'∧(⟨0,c,h,w⟩:Ent).ok c' h' w') (ddf ds' a0).defers .returning w':=by
  rintro⟨ms,rfl,hnd,hm,hside,r',h',g1,g2,g3,g4,g5,hR⟩;have hd:(ddf (ms.map fun p=>coll p.2) a0).defers=ms.map fun p=>coll p.2:=by
   simp[ddf,hs'.defers]
  rw[hd];refine takeAll_ok (E:=⟨fn.ntmps,c,h,w⟩) hnd hm hs' ok' fun w2 s2 k2=>?_;obtain⟨v,hv,hr⟩:=results_ok (E:=⟨fn.ntmps,c,h,w⟩) (P:=P) s2 fn hside;obtain⟨c2,q1,q2,q3⟩:=finish (E:=⟨fn.ntmps,c,h,w⟩) s2 k2 hr g1 g2 g3 g4 g5;exact⟨v,hv,.ret r',h',c2,hR,q3,q1,q2.withN 0⟩
 cases x' with
 |normal=>cases ex<;>simp only[XR]at hx;exact fin hq
 |exit i=>exact hq.elim
 |ret=>cases ex<;>simp only[XR]at hx;exact fin hq
 |panic x=>exact hq.elim
end
end Go.Abs

namespace Go.Abs
section
variable {P:Program} {E:Ent}
theorem awpI_of_awp{code:Code}{Q:AExit→List Deferred→Env→Prop}{e:Env}(h:AWp P E code (fun x e=>Q x [] e) e):AWpI P E none code Q [] e:=fun n c a w s k=>by
 have e0:∀a:Act,ddf [] a=a:=fun a=>by simp[ddf]
 rw[e0];refine wpIn_mono ((wpIn_wide (n:=n)).2 (h c a w s k)) fun x a' w' hh=>?_;have:=conc_I (Q:=Q) (ds:=[]) hh
 rwa [e0]at this
theorem AYield.mono{l:Nat}{args:List AV}{h:qab}{R R':AEnd→qab→Prop}(k:AYield P l args h R)(hr:∀r h',R r h'→R' r h'):AYield P l args h R':=fun m c w vs hs ha=>by
 obtain⟨fn,tmps,asg,body,h1,h2⟩:=k m c w vs hs ha;refine⟨fn,tmps,asg,body,h1,h2.mono ?_⟩;rintro e w' ⟨r,h',c',hR,x⟩;exact⟨r,h',c',hr _ _ hR,x⟩
def TWpI(P:Program)(E:Ent)(ro:Option Nat)(c:Code)(Q:AExit→List Deferred→Env→Prop)(ds:List Deferred)(e:Env)(_:Tag (c,Q)):Prop:=AWpI P E ro c Q ds e
def wpCI(P:Program)(E:Ent)(ro:Option Nat):Code→(AExit→List Deferred→Env→Prop)→List Deferred→Env→Prop
 | .skip,Q,ds,e=>Q .normal ds e
 | .region _ ops false,Q,ds,e=>(ops.toList.all fun o=>!isDef o.op)=true∧opsG P E.N (fun x e=>Q x ds e) [] ops.toList e
 | .seq a b,Q,ds,e=>wpCI P E ro a (thenI (wpCI P E ro b Q) Q) ds e
 | .cond x a b,Q,ds,e=>match e.get x with
  | .val (.bool c)=>Cnd c e (wpCI P E ro a Q ds) (wpCI P E ro b Q ds) ⟨⟩ ⟨⟩
  |_=>False
 | .block id b,Q,ds,e=>wpCI P E ro b (blockI id Q) ds e
 | .exit id,Q,ds,e=>Q (.exit id) ds e
 | .ret,Q,ds,e=>Q .ret ds e
 |c,Q,ds,e=>TWpI P E ro c Q ds e ⟨⟩
theorem qcd{ro:Option Nat}:∀(c:Code) (Q:AExit→List Deferred→Env→Prop) (ds:List Deferred) (e:Env),wpCI P E ro c Q ds e→AWpI P E ro c Q ds e
 | .skip,Q,ds,e,h=>awpI_skip h
 | .region id ops false,Q,ds,e,h=>by have:=awpI_region (ro:=ro) (id:=id) (l:=ops.toList) h.1 h.2;simpa using this
 | .region id ops true,Q,ds,e,h=>h
 | .seq a b,Q,ds,e,h=>awpI_seq (awpI_mono (qcd a _ ds e h) fun x ds' e' hx=>by
   cases x with
   |normal=>exact qcd b Q ds' e' hx
   |_=>exact hx)
 | .cond x a b,Q,ds,e,h=>by
  simp only[wpCI]at h;split at h
  ·rename_i c hx;exact awpI_cond hx (fun hc=>qcd a Q ds e (h.1 hc)) (fun hc=>qcd b Q ds e (h.2 hc))
  ·exact h.elim
 | .block id b,Q,ds,e,h=>awpI_block (qcd b _ ds e h)
 | .loop b,Q,ds,e,h=>h
 | .rangeFunc ..,Q,ds,e,h=>h
 | .exit id,Q,ds,e,h=>awpI_exit h
 | .scope b,Q,ds,e,h=>h
 | .label _,Q,ds,e,h=>h
 | .goto _,Q,ds,e,h=>h
 | .ret,Q,ds,e,h=>awpI_ret h
 | .refuse _,Q,ds,e,h=>h
end
attribute [go_sem] wpCI thenI blockI isDef opsY stepY
end Go.Abs

namespace Go.Abs
end Go.Abs
