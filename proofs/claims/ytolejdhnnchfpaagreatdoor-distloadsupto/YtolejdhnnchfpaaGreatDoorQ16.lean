/- Part 16 of a proof. -/
import Derived.RangeFuncIn
import Derived.RangeFuncLeaves
import Derived.RangeFuncRecord
import Derived.OrdersIn
import Derived.TacticsIn
import Derived.RangeFuncSeq
import Derived.Test.YtolejdhnnchfpaaGreatDoorQ15
set_option linter.all false
namespace Go.Abs
open Go.Proofs
section
variable {P:Program} {E:Ent}
theorem xvt{c:Ctx}{h:g9}{w:World}(s:HSim c h w){i n el sz:Nat}{rows:List (List AV)}(hi:h[i]?=some (.oarr el sz rows))(hn:rows.length=n){v:Value}(hr:Rel c (.own i n) v)
  (hd:∀r,r∈rows->∀x,x∈r->(qos h x).isData=true):Rel (qn5 w) (.slice (rows.map λr=>r.map (qos h))) v:=by
 obtain⟨hv,us,m8,oz,zk⟩:=xfv s hi hn hr;obtain⟨_,_,_,_,_,_,h3,_⟩:=s.obj i _ hi;refine .data (xf6 (c:=qn5 w) (λ_ _ _ h=>h) (by rw[eo,hn];exact m8) af (λr jf=>?_) (λi' j r x jf hx=>?_))
 .grind
 .rw[di]at jf;obtain⟨r0,h0,rfl⟩:=db.1 jf;rw[di]at hx;obtain⟨x0,o6,rfl⟩:=db.1 hx;obtain⟨u,hu,jr,_⟩:=zk i' j r0 x0 h0 o6;exact⟨u,hu,xbn (hd r0 (cv h0) x0 (cv o6)) (xkb s jr)⟩
theorem xrq{c:Ctx}{e:Env}{a:Act}{w:World}(s:Sim E.N c e a w)(k:E.ok c e.h w){ops:Array Oper}{rest:List Oper}{o:Oper}{Q:Exit->Act->World->Prop}{f:Operand}{args:Array Operand}{ts:Array TypeId}(g:o.guard=none)(hd:zj E.N o.dst)
  (ho:o.op=.call { callee:=.value f,args:=args,argTypes:=ts }) (iz:me e true (f::args.toList)) {fid:FuncId} (hf:e.getS f=.fn (.func fid) [] []) (V:Operand->AV)
  (hv:∀y,y∈args.toList->∀v,Rel c (e.getS y) v->Rel (qn5 w) (V y) v) {x:AV} (hP:APure P fid (args.toList.map V) x) (hx:qyj x=true)
  (uy:∀a' w',Sim E.N c (e.put o.dst x) a' w'->E.ok c e.h w'->wpList P ops Q rest a' w'):wpList P ops Q (o::rest) a w:=by
 refine qcn (G:=true) (by simp[Region.wanted,g]) (λ_=>?_) (λh=>by cases h);have jr:=rp s iz;have tq:=jr f ac;rw[hf]at tq;have hev:a.eval f=.func (.func fid) #[] #[]:=by
  generalize a.eval f=z at tq;cases tq with
  |data h=>cases h
  |fn f ys xs us vs po hl h' h =>
   have h1:us = #[]:=qkc po;have h2:vs = #[]:=qkc hl;rw[h1,h2]
 have qqg:RelL (qn5 w) (args.toList.map V) (args.map a.eval):=by
  refine⟨ac,λj y v hy v6=>?_⟩;simp only[di,db]at hy;obtain⟨z,hz,rfl⟩:=hy;simp only[fy,db]at v6;obtain⟨z',hz',rfl⟩:=v6;have:z'=z:=af;subst this;exact hv z' (cv hz) _ (jr z' af)
 have hA:=hP [];unfold Oper.wp;rw[qws ho hev hA.1];simp only[qjz,qkd];refine(hA.2 (qn5 w) w _ (xpa w) qqg).mono ?_;rintro en w' ⟨r,h',c',⟨rfl,rfl⟩,hE,jg,kb⟩;have uv:∀b,b<w.heap.size->w'.heap[b]?=w.heap[b]?:=λb hb=>kb.frame b hb λi o hi=>by simp at hi
 cases en with
 |returned u =>
  have hE':Rel c' x u:=hE;have tk:=s.hs.ext uv (.refl c) (λ_ _=>rfl) (λ_ _ _ h=>.inl h) s.hs.dom;exact uy _ w' (s.put (.refl c) tk (qyd hd) (xgx hx hE')) (k.ext' s.hs uv (.refl c) (λ_=>rfl) kb.os kb.tape kb.output kb.size λ_ _ _ h=>.inl h)
 |_=>simp[EndR]at hE
end
end Go.Abs
namespace Go.Abs
theorem xpt{c:Ctx}{l:List Value}{vs:Array Value}(h:RelL c (l.map .val) vs):vs=l.toArray:=by
 apply Array.ext
 .simpa using h.1
 .intro i h1 h2;have h3:i<l.length:=aa;have:=h.2 i (.val l[i]) vs[i] (by simp[h3]) qgl;simpa using this.val_inv
theorem jd2{P:Program}{f:FuncId}{l:List Value}{r:Value}(hr:qkt r=true)(he:qtr P f)(hc:∀w,Calls P f l.toArray w λe w'=>e=.returned r/\w'=w):APure P f (l.map .val) (.val r):=λh=>by
 refine⟨he,λc w vs hs ha=>?_⟩;rw[xpt ha];refine(hc w).mono ?_;rintro e w' ⟨rfl,rfl⟩;exact⟨.ret (.val r),h,c,⟨rfl,rfl⟩,.val r hr,hs,.refl 0 hs⟩
section
variable {P:Program} {E:Ent}
theorem xbp{c:Ctx}{h:g9}{w:World}(s:HSim c h w)(k:E.ok c h w){i b:Nat}{f f':Array Value->Obj}{xs:List AV}(hi:h[i]?=some (.raw b f xs)){vs:Array Value}(hv:w.heap[b]?=some (f vs))
  (wz:vs.size=xs.length/\∀(j:Nat) (x:AV) (v:Value),xs[j]?=some x->vs[j]?=some v->Rel c x v) :
  HSim c (h.set i (.raw b f' xs)) (w.putObj b (f' vs))/\E.ok c (h.set i (.raw b f' xs)) (w.putObj b (f' vs)):=by
 obtain⟨hb,_⟩:=s.obj i _ hi;have hh:=hv;have il:b<w.heap.size:=(fv.1 hh).1;have ov:∀g,g≠b->(w.putObj b (f' vs)).heap[g]?=w.heap[g]?:=λg hg=>World.putObj_heap_other hg;have qsj:(w.putObj b (f' vs)).heap[b]?=some (f' vs):=World.putObj_heap_same il;have ry:je c i (.raw b f xs)=some b:=hb;have hsize:(w.putObj b (f' vs)).heap.size=w.heap.size:=ac;have o9:∀j p b',(h.set i (.raw b f' xs))[j]?=some p->je c j p=some b'->∃o0,h[j]?=some o0/\je c j o0=some b':=λj p b' hj iq=>by
  rcases m7 hj with⟨rfl,rfl⟩|⟨it,h1⟩
  .exact⟨_,hi,iq⟩
  .grind
 constructor
 .refine⟨λg j v hD=>?_,λj hj=>s.dom j af,λj p hj=>?_,λj j' p p' b' hj ny kr nm=>?_,λj p b' m v hj kr hD=>?_⟩
  .have hg:g≠b:=λe=>by
    subst e;exact s.sep i _ g j v hi ry hD
   rw[World.cell?_of_block (w:=w) (ov g hg)];exact s.data g j v hD
  .rcases m7 hj with⟨rfl,rfl⟩|⟨it,h1⟩
   .exact⟨hb,vs,qsj,wz⟩
   .refine(s.obj j p h1).keep (.refl c) (λ_=>rfl) λb' iq=>ov b' λe=>it ?_;subst e;exact s.apart j i p _ b' h1 hi iq ry
  .obtain⟨o1,h1,mz⟩:=o9 j p b' hj kr;obtain⟨o2,h2,zq⟩:=o9 j' p' b' ny nm;exact s.apart j j' o1 o2 b' h1 h2 mz zq
  .rcases m7 hj with⟨rfl,rfl⟩|⟨it,h1⟩
   .have:=s.sep j (.raw b f xs) b' m v hi kr hD;exact this
   .exact s.sep j p b' m v h1 kr hD
 .refine⟨k.edom,k.ext,k.blk0,bs,k.os,k.tape,k.output,qgx,λg hg kf=>?_,λj p b' hj kr=>?_,k.dold⟩
  .have it:g≠b:=λe=>by
    subst e;rcases k.newobj i _ g hi ry with⟨i0,o0,h0,h1⟩|h2
    .grind
    .omega
   rw[ov g it];exact k.frame g hg kf
  .obtain⟨o1,h1,mz⟩:=o9 j p b' hj kr;exact k.newobj j o1 b' h1 mz
theorem xnt{c:Ctx}{h:g9}{w:World}(s:HSim c h w)(k:E.ok c h w)(f:Array Value->Obj){xs:List AV}{vs:Array Value}
  (wz:vs.size=xs.length/\∀(j:Nat) (x:AV) (v:Value),xs[j]?=some x->vs[j]?=some v->Rel c x v) :
  ∃c',c.le c'/\HSim c' (h++[.raw w.heap.size f xs]) (w.alloc (f vs))/\E.ok c' (h++[.raw w.heap.size f xs]) (w.alloc (f vs)):=by
 have hw:∀b,b<w.heap.size->(w.alloc (f vs)).heap[b]?=w.heap[b]?:=λb hb=>by first|exact heap_alloc_old w _ b hb|exact heap_alloc_old w _ hb
 have s1:HSim c h (w.alloc (f vs)):=s.ext hw (.refl c) (λ_ _=>rfl) (λ_ _ _ h=>.inl h) s.dom;have k1:E.ok c h (w.alloc (f vs)):=k.ext' s hw (.refl c) (λ_=>rfl) rfl rfl rfl (qdy w _) (λ_ _ _ h=>.inl h);have ij:c.le (c.addBlk h.length w.heap.size):=Ctx.addBlk_le (s.dom h.length (cn _)).1;have r8:(c.addBlk h.length w.heap.size).blk h.length=some w.heap.size:=qfp;have hb:∀b',je (c.addBlk h.length w.heap.size) h.length (.raw w.heap.size f xs)=some b'->b'=w.heap.size:=λb' iq=>by grind[je,eb]
 exact⟨_,ij,s1.push (s.fresh (cn _)) (s.noD (cn _)) ⟨r8,vs,heap_alloc_new w _,wz.1,λj x v hx hv=>(wz.2 j x v hx hv).mono ij⟩ hb,k1.push s1 k.size hb⟩
def WF(ro:Option Nat):Fence:={ Fence.wide with round:=ro }
theorem xg8{ro:Option Nat}{n:Nat}{f:FuncId}{args:Array Value}{w:World}{R:Ending->World->Prop}:CallsIn (WF ro) n P f args w R↔Calls P f args w R :=
 (show CallsIn (WF ro) n P f args w R↔CallsIn Fence.wide n P f args w R from Iff.rfl).trans callsIn_wide
theorem jk3{ro:Option Nat}{n:Nat}{row:String}{args:Array Value}{w:World}{R:Value->World->Prop}(h:Rows P row args w R):RowsIn (WF ro) n P row args w R:=λc cs _=>by
 obtain⟨v,w',hR,hs⟩:=h c cs;exact⟨v,w',hR,(stepsIn_wide (P:=P)).2 hs⟩
def qtd:Op->Bool
 | .defer _=>true
 |_=>false
theorem xhb{ro:Option Nat}{n:Nat}{o:Oper}(hd:qtd o.op=false){a:Act}{w:World}{nx:Act->World->Prop}{Q:Exit->Act->World->Prop}(h:o.wp P a w nx Q):o.wpIn (WF ro) n P a w nx Q:=by
 refine⟨λ_ _=>trivial,?_⟩;rw[Oper.semAt_eq _ _ _ (λc hc=>by rw[hc]at hd;cases hd)];unfold Oper.wp at h;generalize(execOp a.eval o).run P w=r at h|-;cases r with
 |ok x w' =>
  cases x with
  |value v=>exact h
  |skip=>exact h
  |defer d=>exact h
  |enter f args=>exact⟨λh=>cg,xg8.2 (h.mono λe w'' he=>by cases e<;>exact he)⟩
  |row r args=>exact⟨λh=>cg,jk3 h⟩
  |_=>exact h.elim
 |halt x w'=>cases x<;>first|exact h|exact h.elim
theorem xgf{ro:Option Nat}{n:Nat}{ops:Array Oper}{Q:Exit->Act->World->Prop}(hQ:¬LetsOut Q):∀{l:List Oper} {a:Act} {w:World},(l.all λo=>!qtd o.op)=true->wpList P ops Q l a w->wpListIn (WF ro) n P ops Q l a w
 | [],_,_,_,h=>h
 |o::l,a,w,hd,h=>by
  simp only[qi1,cw,gv]at hd;unfold wpList at h;unfold wpListIn;split at h
  .rename_i hw;rw[if_pos hw];rcases h with h|⟨_,h⟩
   .exact Oper.wpIn_mono (λa w hh=>xgf hQ hd.2 hh) (xhb hd.1 h)
   .grind
  .rename_i hw;rw[if_neg hw];exact⟨λ_ _=>trivial,xgf hQ hd.2 h⟩
theorem xcz{ro:Option Nat}{n:Nat}{ops:Array Oper}{Q:Exit->Act->World->Prop}(hQ:¬LetsOut Q)(hd:∀(i:Nat) (o:Oper),ops[i]?=some o->qtd o.op=false):∀{kh:Nat} {L:Array Bool} {a:Act} {w:World},wpAny P .any ops Q kh L a w->wpAnyIn (WF ro) n P .any ops Q kh L a w
 | 0,_,_,_,h=>h
 |kh+1,L,a,w,h=>by
  refine⟨h.1,λi hi=>?_⟩;have h1:=h.2 i hi;unfold wpOp at h1;unfold wpOpIn;split at h1
  .rename_i ho;rw[ho];exact xcz hQ hd h1
  .rename_i o ho;rw[ho];simp only;split at h1
   .rename_i hw;rw[if_pos hw];rcases h1 with h1|⟨_,h1⟩
    .exact Oper.wpIn_mono (λa w hh=>xcz hQ hd hh) (xhb (hd i o ho) h1)
    .grind
   .rename_i hw;rw[if_neg hw];exact⟨λ_ _=>trivial,xcz hQ hd h1⟩
def xbg(E:Ent)(Q:AExit->List Deferred->Env->Prop):Exit->Act->World->Prop:=λx a w=>∃x' ds e c a0,a=nb ds a0/\Q x' ds e/\XR c x' x/\Sim E.N c e a0 w/\E.ok c e.h w
theorem jh2{Q:AExit->List Deferred->Env->Prop}:¬LetsOut (xbg E Q):=λ⟨a,w,x',ds,e,c,a0,_,_,hx,_⟩=>by cases x'<;>exact hx
theorem xdq{Q:AExit->List Deferred->Env->Prop}{ds:List Deferred}{x:Exit}{a:Act}{w:World}(h:qle E (λx e=>Q x ds e) x a w):xbg E Q x (nb ds a) w:=by
 obtain⟨x',e,c,hq,hx,s,k⟩:=h;exact⟨x',ds,e,c,a,rfl,hq,hx,s,k⟩
def qf(P:Program)(E:Ent)(ro:Option Nat)(code:Code)(Q:AExit->List Deferred->Env->Prop)(ds:List Deferred)(e:Env):Prop :=
 ∀n c a w,Sim E.N c e a w->E.ok c e.h w->code.wpIn (WF ro) n P (xbg E Q) (nb ds a) w
def qu2(K:List Deferred->Env->Prop)(Q:AExit->List Deferred->Env->Prop):AExit->List Deferred->Env->Prop
 | .normal,ds,e=>K ds e
 |x,ds,e=>Q x ds e
def qz6(id:Nat)(Q:AExit->List Deferred->Env->Prop):AExit->List Deferred->Env->Prop
 | .exit i,ds,e=>if i=id then Q .normal ds e else Q (.exit i) ds e
 |x,ds,e=>Q x ds e
variable {ro:Option Nat} {Q:AExit->List Deferred->Env->Prop} {ds:List Deferred} {e:Env}
theorem xci{code:Code}{Q':AExit->List Deferred->Env->Prop}(h:qf P E ro code Q' ds e)(hq:∀x ds e,Q' x ds e->Q x ds e):qf P E ro code Q ds e:=λn c a w s k =>
 wpIn_mono (h n c a w s k) λ_ _ _ ⟨x',ub,e',c',a0,h1,h2,h3⟩=>⟨x',ub,e',c',a0,h1,hq _ _ _ h2,h3⟩
theorem jjh{code:Code}{e1:Env}(hw:Wk E e e1)(h:qf P E ro code Q ds e1):qf P E ro code Q ds e:=λn c a w s k=>by
 obtain⟨c1,s1,k1⟩:=hw c a w s k;exact h n c1 a w s1 k1
theorem xpp(h:Q .normal ds e):qf P E ro .skip Q ds e:=λn c a w s k=>wpIn_skip ⟨.normal,ds,e,c,a,rfl,h,trivial,s,k⟩
theorem xi7(h:Q .ret ds e):qf P E ro .ret Q ds e:=λn c a w s k=>wpIn_ret ⟨.ret,ds,e,c,a,rfl,h,trivial,s,k⟩
theorem xoe{id:Nat}(h:Q (.exit id) ds e):qf P E ro (.exit id) Q ds e:=λn c a w s k=>wpIn_exit ⟨.exit id,ds,e,c,a,rfl,h,rfl,s,k⟩
theorem xbj{x y:Code}(h:qf P E ro x (qu2 (λds e=>qf P E ro y Q ds e) Q) ds e):qf P E ro (.seq x y) Q ds e:=λn c a w s k=>by
 refine wpIn_seq (wpIn_mono (h n c a w s k) ?_);rintro ex a' w' ⟨x',ub,e',c',a0,rfl,hq,hx,jg,ok'⟩;cases x' with
 |normal=>cases ex<;>simp only[XR]at hx;exact hq n c' a0 w' jg ok'
 |exit i=>cases ex<;>simp only[XR]at hx;exact⟨.exit i,ub,e',c',a0,rfl,hq,hx,jg,ok'⟩
 |ret=>cases ex<;>simp only[XR]at hx;exact⟨.ret,ub,e',c',a0,rfl,hq,trivial,jg,ok'⟩
 |panic v =>
  cases ex with
  |panic ch=>exact⟨.panic v,ub,e',c',a0,rfl,hq,hx,jg,ok'⟩
  |_=>simp only[XR]at hx
theorem xrw{id:Nat}{b:Code}(h:qf P E ro b (qz6 id Q) ds e):qf P E ro (.block id b) Q ds e:=λn c a w s k=>by
 refine wpIn_block (wpIn_mono (h n c a w s k) ?_);rintro ex a' w' ⟨x',ub,e',c',a0,rfl,hq,hx,jg,ok'⟩;cases x' with
 |normal=>cases ex<;>simp only[XR]at hx;exact⟨.normal,ub,e',c',a0,rfl,hq,trivial,jg,ok'⟩
 |exit i =>
  cases ex with
  |exit j =>
   simp only[XR]at hx;subst hx;simp only[Exit.inBlock];simp only[qz6]at hq;split
   .rename_i hi;rw[if_pos hi]at hq;exact⟨.normal,ub,e',c',a0,rfl,hq,trivial,jg,ok'⟩
   .rename_i hi;rw[if_neg hi]at hq;exact⟨.exit i,ub,e',c',a0,rfl,hq,rfl,jg,ok'⟩
  |_=>simp only[XR]at hx
 |ret=>cases ex<;>simp only[XR]at hx;exact⟨.ret,ub,e',c',a0,rfl,hq,trivial,jg,ok'⟩
 |panic v =>
  cases ex with
  |panic ch=>exact⟨.panic v,ub,e',c',a0,rfl,hq,hx,jg,ok'⟩
  |_=>simp only[XR]at hx
theorem xmr{x:Operand}{t f:Code}{b:Bool}(hb:e.get x=.val (.bool b))(ht:b=true->qf P E ro t Q ds e)(hf:b=false->qf P E ro f Q ds e):qf P E ro (.cond x t f) Q ds e :=
 λn c a w s k=>wpIn_cond_split (Rel.bool (hb▸s.eval x)) (λh=>ht h n c a w s k) (λh=>hf h n c a w s k)
theorem jex{F:Fence}{n:Nat}{ι:Type}{c:Code}{Q:Exit->Act->World->Prop}{a:Act}{w:World}(I:ι->Act->World->Prop)(μ:ι->Nat)(i0:ι)(h₀:I i0 a w)
  (round:∀i a w,I i a w->c.wpIn F n P (Exit.then (λa' w'=>∃j,I j a' w'/\μ j<μ i) Q) a w):(Code.loop c).wpIn F n P Q a w:=by
 intro b k cs hro hb hr;have key:∀m i a w,μ i=m->I i a w ->
   ∃e a' w',Q e a' w'/\ArrivesIn (Machine.fenced P F) P (lone (b.atR a (.code c::.inLoop c::k)) cs w) b k cs e a' w':=by
  intro m
  induction m using Nat.strongRecOn with
  |_ m ih =>
   intro i a w hn hI;obtain⟨e,a₁,w₁,hq,qk3⟩:=round i a w hI b (.inLoop c::k) cs hro hb hr;cases e with
   |normal =>
    obtain⟨j,hI₁,il⟩:=hq;obtain⟨e₂,a₂,w₂,hq₂,harr₂⟩:=ih (μ j) (hn▸il) j a₁ w₁ rfl hI₁;exact⟨e₂,a₂,w₂,hq₂,.of_steps (StepsIn.trans qk3 (.one (fenced_calm hb hr rfl) stepR_inLoop)) harr₂⟩
   |exit id=>exact⟨_,a₁,w₁,hq,.pass (x:=.inLoop c) rfl (λ_ _=>.inl ac) qk3⟩
   |goto l=>exact⟨_,a₁,w₁,hq,.pass (x:=.inLoop c) rfl (λ_ _=>.inl ac) qk3⟩
   |ret=>exact⟨_,a₁,w₁,hq,.pass (x:=.inLoop c) rfl (λ_ _=>.inl ac) qk3⟩
   |panic ch=>exact⟨_,a₁,w₁,hq,.pass (x:=.inLoop c) rfl (λ_ _=>.inl ac) qk3⟩
   |outgrown=>exact⟨_,a₁,w₁,hq,.pass (x:=.inLoop c) rfl (λ_ _=>.inl ac) qk3⟩
 obtain⟨e,a',w',hq,qk3⟩:=key _ i0 a w rfl h₀;exact⟨e,a',w',hq,.of_steps (.one (fenced_calm hb hr rfl) stepR_loop) qk3⟩
theorem xjr{ι:Type}{b:Code}(I:ι->Prop)(S:ι->List Deferred×Env)(μ:ι->Nat)(i0:ι)(h0:I i0)(hd:ds=(S i0).1)(hw:Wk E e (S i0).2)
  (round:∀i,I i->qf P E ro b (qu2 (λub e'=>∃j,I j/\μ j<μ i/\ub=(S j).1/\Wk E e' (S j).2) Q) (S i).1 (S i).2):qf P E ro (.loop b) Q ds e:=λn c a w s k=>by
 subst hd;refine jex (ι:=ι) (λi a w=>I i/\∃c a0,a=nb (S i).1 a0/\Sim E.N c (S i).2 a0 w/\E.ok c (S i).2.h w) μ i0 ?_ ?_
 .obtain⟨c1,s1,k1⟩:=hw c a w s k;exact⟨h0,c1,a,rfl,s1,k1⟩
 .rintro i a w ⟨hI,c,a0,rfl,s,k⟩;refine wpIn_mono (round i hI n c a0 w s k) ?_;rintro ex a' w' ⟨x',ub,e',c',a1,rfl,hq,hx,jg,ok'⟩;cases x' with
  |normal =>
   cases ex<;>simp only[XR]at hx;obtain⟨j,hj,il,rfl,hwk⟩:=hq;obtain⟨c2,s2,k2⟩:=hwk c' a1 w' jg ok';exact⟨j,⟨hj,c2,a1,rfl,s2,k2⟩,il⟩
  |exit i=>cases ex<;>simp only[XR]at hx;exact⟨.exit i,ub,e',c',a1,rfl,hq,hx,jg,ok'⟩
  |ret=>cases ex<;>simp only[XR]at hx;exact⟨.ret,ub,e',c',a1,rfl,hq,trivial,jg,ok'⟩
  |panic v =>
   cases ex with
   |panic ch=>exact⟨.panic v,ub,e',c',a1,rfl,hq,hx,jg,ok'⟩
   |_=>simp only[XR]at hx
theorem xzj{id:Nat}{l:List Oper}(hd:(l.all λo=>!qtd o.op)=true)(h:qks P E.N (λx e=>Q x ds e) [] l e):qf P E ro (.region id l.toArray false) Q ds e:=λn c a w s k =>
 wpIn_region_list (xgf jh2 hd (xbz (λ_ _ _ hh=>xdq hh) (by simpa using qcq l [] e ac af c a w s k)))
end
section
variable {P:Program} {E:Ent}
def AYield(P:Program)(l:Nat)(args:List AV)(h:g9)(R:AEnd->g9->Prop):Prop :=
 ∀(m:Nat) (c:Ctx) (w:World) (vs:Array Value),HSim c h w->RelL c args vs ->
  YieldAt (WF none) m P l vs w λe w'=>∃r h' c',R r h'/\EndR c' r e/\HSim c' h' w'/\(⟨0,c,h,w⟩:Ent).ok c' h' w'
theorem jch{o:Oper}{ev:Operand->Value}{w:World}{f:Operand}{args:Array Operand}{ts:Array TypeId}(ho:o.op=.call { callee:=.value f,args:=args,argTypes:=ts }){l:Nat}
  (hf:ev f=.func (.yield l) #[] #[]):(execOp ev o).run P w=(Instr.yield l (args.map ev)).run P w:=by
 simp[execOp,ho,resolve,hf,Deferred.ofValue,invoke,c8,dm,c9]
theorem xu9{c:Ctx}{e:Env}{a:Act}{w:World}(s:Sim E.N c e a w)(k:E.ok c e.h w){ds:List Deferred}{o:Oper}{f:Operand}{args:Array Operand}{ts:Array TypeId}(ho:o.op=.call { callee:=.value f,args:=args,argTypes:=ts })
  (iz:me e true (f::args.toList)) {l:Nat} (hf:e.getS f=.fn (.yield l) [] []) {R:AEnd->g9->Prop} (hy:AYield P l (ko e.h (args.toList.map e.getS)) e.h R) {n:Nat} {nx:Act->World->Prop} {Q:Exit->Act->World->Prop}
  (wd:∀v h' c' w' u,R (.ret v) h'->c.le c'->HSim c' h' w'->E.ok c' h' w'->Rel c' v u->nx ((nb ds a).put o.dst u) w') (qwb:∀v h',R (.panic v) h'->False):o.wpIn (WF none) n P (nb ds a) w nx Q:=by
 have jr:=rp s iz;have tq:=jr f ac;rw[hf]at tq;have hev:a.eval f=.func (.yield l) #[] #[]:=by
  generalize a.eval f=z at tq;cases tq with
  |data h=>cases h
  |fn f ys xs us vs po hl h' h =>
   simp only[ed,Array.size_eq_zero_iff]at hl po;rw[hl,po]
 have qqg:RelL c (args.toList.map e.getS) (args.map a.eval):=RelL.map λx hx=>jr x bu;have qzi:=qqg.norm s.hs;obtain⟨s1,k1⟩:=qxo s.hs k;refine⟨λ_ _=>trivial,?_⟩;show o.uponIn (WF none) n P (nb ds a) nx Q ((o.semAt none (nb ds a).eval).run P w);have hev':(nb ds a).eval=a.eval:=rfl;rw[Oper.semAt_none,hev',jch ho hev];obtain⟨fn,tmps,ll,body,h1,h2⟩:=hy (n - 1) _ w _ s1 qzi;rw[h1];refine⟨λh=>cg,h2.mono ?_⟩;rintro en w' ⟨r,h',c',hR,hE,jg,kb⟩;have ij:c.le c':=(qww c e.h w).trans kb.ext;have kp:E.ok c' h' w':=k1.trans kb;cases r with
 |ret x=>cases en<;>simp only[EndR]at hE;exact wd x h' c' w' _ hR ij jg kp hE
 |panic x=>exact(qwb _ _ hR).elim
def xhq(P:Program)(N:Nat)(Q:AExit->Env->Prop)(ds:List (Option Tmp))(o:Oper)(e:Env)(K:Env->Prop):Prop :=
 match o.op with
 | .call { callee:=.value f,args,.. }=>match e.getS f with
  | .fn (.yield l) [] []=>o.guard=none/\zj N o.dst/\me e true (f::args.toList)/\AYield P l (ko e.h (args.toList.map e.getS)) e.h λr h'=>match r with
   | .ret v=>K (({ e with h:=h' }:Env).put o.dst v)
   | .panic _=>False
  |_=>stepG P N Q ds o e K
 |_=>stepG P N Q ds o e K
def qtq(P:Program)(N:Nat)(Q:AExit->Env->Prop):List (Option Tmp)->List Oper->Env->Prop
 |_,[],e=>Q .normal e
 |ds,o::l,e=>xhq P N Q ds o e (qtq P N Q (ds++[o.dst]) l)
variable {Q:AExit->List Deferred->Env->Prop} {ds:List Deferred} {e:Env}
theorem xqk(a:Act)(t:Option Tmp)(v:Value):(nb ds a).put t v=nb ds (a.put t v):=by cases t<;>rfl
theorem xmj{n:Nat}{ops:Array Oper}:∀(l:List Oper) (done:List Oper) (e:Env),ops.toList=done++l->(l.all λo=>!qtd o.op)=true->qtq P E.N (λx e=>Q x ds e) (done.map (·.dst)) l e ->
  ∀c a w,Sim E.N c e a w->E.ok c e.h w->wpListIn (WF none) n P ops (xbg E Q) l (nb ds a) w
 | [],done,e,_,_,h,c,a,w,s,k=>⟨.normal,ds,e,c,a,rfl,h,trivial,s,k⟩
 |o::l,done,e,vn,hd,h,c,a,w,s,k=>by
  simp only[qi1,cw,gv]at hd;have ih:=λe'=>xmj (n:=n) (ops:=ops) l (done++[o]) e' af hd.2;simp only[eg,dj,fc]at ih;simp only[qtq]at h;have plain:stepG P E.N (λx e=>Q x ds e) (done.map (·.dst)) o e (qtq P E.N (λx e=>Q x ds e) (done.map (·.dst)++[o.dst]) l)->wpListIn (WF none) n P ops (xbg E Q) (o::l) (nb ds a) w:=λh=>by
   have h1:=qzs (xsh h) (λG hG=>qx1 vn s hG) s k (nx:=λa' w'=>∃e' c',qtq P E.N (λx e=>Q x ds e) (done.map (·.dst)++[o.dst]) l e'/\Sim E.N c' e' a' w'/\E.ok c' e'.h w') λe' c' a' w' hK s' k'=>⟨e',c',hK,s',k'⟩
   unfold wpListIn;have e1:(nb ds a).tmps=a.tmps:=rfl;rw[e1];split at h1
   .rename_i hw;rw[if_pos hw];have no:¬LetsOut (qle E (λx e=>Q x ds e)):=λ⟨a,w,x',e,c,_,hx,_⟩=>by cases x'<;>exact hx
    rcases h1 with h1|⟨_,h1⟩
    .refine Oper.wpIn_mono (λa' w' hh=>?_) (xhb hd.1 (xuj (d:=ds) h1 (next':=λa' w'=>∃a0,a'=nb ds a0/\∃e' c',qtq P E.N (λx e=>Q x ds e) (done.map (·.dst)++[o.dst]) l e'/\Sim E.N c' e' a0 w'/\E.ok c' e'.h w') (λa' w' hh=>⟨a',rfl,hh⟩) (λ_ _ _ hh=>xdq hh)))
     obtain⟨a0,rfl,e',c',hK,s',k'⟩:=hh;exact ih e' hK c' a0 w' s' k'
    .grind
   .rename_i hw;rw[if_neg hw,xqk];obtain⟨e',c',hK,s',k'⟩:=h1;exact⟨λ_ _=>trivial,ih e' hK c' _ w s' k'⟩
  obtain⟨dst,op,ty,pos,after,guard⟩:=o;cases op with
  |call cl =>
   obtain⟨callee,args,ats⟩:=cl;cases callee with
   |value f =>
    unfold xhq at h;simp only at h;split at h
    .rename_i lp hf;obtain⟨rfl,ww,iz,hy⟩:=h;unfold wpListIn;rw[if_pos (by simp[Region.wanted])];refine xu9 s k rfl iz hf hy (λv h' c' w' u hR ij jg kb zb=>?_) λv h' hR=>hR;rw[xqk];exact ih _ hR c' _ w' (s.put ij jg (qyd ww) zb) (by cases dst<;>exact kb)
    .grind
   |_=>exact plain h
  |_=>exact plain h
theorem xo3{id:Nat}{l:List Oper}(hd:(l.all λo=>!qtd o.op)=true)(h:qtq P E.N (λx e=>Q x ds e) [] l e):qf P E none (.region id l.toArray false) Q ds e:=λn c a w s k =>
 wpIn_region_list (by simpa using xmj (n:=n) (ops:=l.toArray) l [] e ac hd af c a w s k)
def uu(st:LoopState)(pe:Option Code)(fn:FuncId)(ps:Array Tmp)(ll body:Code)(D:Nat)(tm:Array Value):Obj:=.loop { state:=st,pending:=pe,fn,tmps:=tm,params:=ps,assign:=ll,body,defers:=D }
def nu(D:Nat):AObj:=.raw D (λ_=>.deferred (some [])) []
def qmy(D:Nat):Deferred:={ target:=.collected D,args:=#[] }
def slots(N:Nat)(e:Env):List AV:=(List.range N).map (ji e.t)
theorem jh9{N:Nat}{c:Ctx}{a:Act}{w:World}(s:Sim N c e a w):a.tmps.size=(slots N e).length/\∀(j:Nat) (x:AV) (v:Value),(slots N e)[j]?=some x->a.tmps[j]?=some v->Rel c x v :=
 ⟨by simp[slots,s.size],λj x v hx hv=>by
  simp only[slots,di,List.getElem?_range']at hx;rw[db]at hx;obtain⟨j',h1,rfl⟩:=hx;have:j'=j:=af;subst this;have:=s.tmps j'
  rwa [dz,hv]at this⟩
set_option maxHeartbeats 400000 in
theorem xnd{g:Operand}{ps:Array Tmp}{ll body:Code}{gf:FuncId}{caps:List AV}(hg:e.get g=.fn (.func gf) [] caps)
  (h:∀(fn:FuncId) (D l:Nat),ACalls P gf (ko (e.h++[nu D,.raw l (uu .ready none fn ps ll body D) (slots E.N e)]) ([.fn (.yield l) [] []]++caps)) (e.h++[nu D,.raw l (uu .ready none fn ps ll body D) (slots E.N e)]) λr h' =>
   (∃v,r=.ret v)/\∃st pe,st≠.busy/\h'[e.h.length+1]?=some (.raw l (uu st pe fn ps ll body D) (slots E.N e)) /\
    match pe with
    |none=>Q .normal (qmy D::ds) ⟨e.t,h'.set (e.h.length+1) (.raw l (uu .exhausted none fn ps ll body D) (slots E.N e))⟩
    |some c=>qf P E none c Q (qmy D::ds) ⟨e.t,h'.set (e.h.length+1) (.raw l (uu .exhausted pe fn ps ll body D) (slots E.N e))⟩) :
  qf P E none (.rangeFunc g ps ll body) Q ds e:=λn c a w s k=>by
 refine wpIn_rangeFunc λfn _=>?_;have hgr:=s.eval g;rw[hg]at hgr;obtain⟨vs,hev,quc⟩:∃vs,a.eval g=.func (.func gf) #[] vs/\RelL c caps vs:=by
  generalize a.eval g=z at hgr;cases hgr with
  |data h=>cases h
  |fn f ys xs us vs po hl h' h =>
   simp only[ed,Array.size_eq_zero_iff]at po;subst po;exact⟨vs,rfl,⟨hl,h⟩⟩
 -- the two blocks
 obtain⟨c1,l1,s1,k1⟩:=xnt s.hs k (λ_=>.deferred (some [])) (xs:=[]) (vs:=#[]) ⟨rfl,λj x v hx=>by simp at hx⟩;have sr:=jh9 s;obtain⟨c2,l2,s2,k2⟩:=xnt s1 k1 (uu .ready none fn ps ll body w.heap.size) (xs:=slots E.N e) (vs:=a.tmps) ⟨sr.1,λj x v hx hv=>(sr.2 j x v hx hv).mono l1⟩;have hH:e.h++[AObj.raw w.heap.size (λ_=>.deferred (some [])) []]++[AObj.raw (w.alloc (Obj.deferred (some []))).heap.size (uu .ready none fn ps ll body w.heap.size) (slots E.N e)]=e.h++[nu w.heap.size,.raw (w.heap.size+1) (uu .ready none fn ps ll body w.heap.size) (slots E.N e)]:=by simp[nu]
 rw[hH]at s2 k2;have ij:=l1.trans l2;have hc:=h fn w.heap.size (w.heap.size+1);have jr:RelL c2 ([.fn (.yield (w.heap.size+1)) [] []]++caps) (#[.func (.yield (w.heap.size+1)) #[] #[]]++vs):=RelL.app ⟨rfl,λj x v hx hv=>by
  match j with
  | 0=>simp at hx hv;subst hx;subst hv;exact .fn _ [] [] #[] #[] rfl rfl ac ac
  |j+1=>simp at hx⟩ ⟨quc.1,λj x v hx hv=>(quc.2 j x v hx hv).mono ij⟩
 have qq2:=hc.2 _ _ _ s2 (jr.norm s2);have hen:=run_enterLoop_outer (P:=P) (w:=w) fn (nb ds a).tmps ps ll body;obtain⟨W2,hW2⟩:∃W2,W2=(w.alloc (.deferred (some []))).alloc (uu .ready none fn ps ll body w.heap.size a.tmps):=⟨_,rfl⟩
 have hen':(Instr.enterLoop fn (nb ds a).tmps ps ll body (WF none).round).run P w=.ok (w.heap.size+1,[qmy w.heap.size]) W2:=by
  rw[hW2];exact hen
 rw[<-hW2]at qq2;clear hen s2 k1 s1;have hev1:(nb ds a).eval=a.eval:=rfl;have hres:(resolve (nb ds a).eval (rangeCall g (w.heap.size+1)) 0).run P W2=.ok { target:=.fn (.func gf) vs,args:=#[.func (.yield (w.heap.size+1)) #[] #[]] } W2:=by
  simp only[rangeCall,resolve,hev1,hev,Deferred.ofValue,dm];simp[Act.eval]
 obtain⟨fnn,e1,e2,e3⟩:=hc.1;have hb:fnn.body.isNone=false:=ca;have hinv:(invoke (.fn (.func gf) vs) #[.func (.yield (w.heap.size+1)) #[] #[]]).run P W2=.ok (.enter gf (#[.func (.yield (w.heap.size+1)) #[] #[]]++vs)) W2:=by
  simp only[invoke,callFunc,c8,dm,c9,run_program,e1,e3,hb,qje,if_false]
 rw[<-hW2]at k2;refine⟨_,_,_,_,_,_,_,_,hen',hres,λ_ _=>trivial,hinv,λh=>cg,?_⟩;refine xg8.2 ?_;refine qq2.mono ?_;rintro en w3 ⟨r,h',c',⟨⟨v,rfl⟩,st,pe,kn,hrec,hQ⟩,hE,jg,kb⟩;cases en<;>simp only[EndR]at hE;obtain⟨hb,tm,htm,jx,oz⟩:=jg.obj _ _ hrec;have hend:=run_endLoop (P:=P) htm kn;have kp:E.ok c' h' w3:=k2.trans kb;have hle':c.le c':=ij.trans kb.ext;obtain⟨s4,k4⟩:=xbp (f':=uu .exhausted pe fn ps ll body w.heap.size) jg kp hrec htm ⟨jx,oz⟩;have act:({ nb ds a with defers:=[qmy w.heap.size]++(nb ds a).defers }:Act)=nb (qmy w.heap.size::ds) a:=by
  simp[nb,s.defers]
 refine⟨pe,_,hend,?_⟩;rw[act];cases pe with
 |none=>exact⟨.normal,_,⟨e.t,_⟩,c',a,rfl,hQ,trivial,⟨s.defers,s.size,λi=>(s.tmps i).mono hle',s4⟩,k4⟩
 |some cd=>exact hQ n c' a _ ⟨s.defers,s.size,λi=>(s.tmps i).mono hle',s4⟩ k4
end
section
variable {P:Program} {E:Ent}
theorem jfy(m:Nat){l:List Oper}{Q:AExit->Env->Prop}{e:Env}(hB:(decide (m<=l.length)&&qs4 (l.take m)&&qro m l)=true)
  (h:qml P E.N [] (l.take m) e [] λR e1=>qq6 (Region.before (l.take m).toArray) R/\qsb P E l.toArray (l.drop m) Q ⟨e1.t,rr R e1.h⟩) {c:Ctx} {a:Act} {w:World} (s:Sim E.N c e a w) (k:E.ok c e.h w) :
  wpAny P .any l.toArray (qle E Q) l.toArray.size (Array.replicate l.toArray.size false) a { w with drawn:=w.drawn+1 }:=by
 obtain⟨R,jm,qmz,qpt,hQ⟩:=qvt h;simp only[ff]at qpt hQ;simp only[cw,decide_eq_true_eq]at hB;obtain⟨⟨se,hB⟩,hT⟩:=hB;have d:DReg P E (l.take m) e R:=⟨qx3 hB,jm,λk o ho=>by simpa using qmz k o ho,λk s r r' i off cs hr hk hs hks=>by
  simp only[qq6,dr]at qpt;have:=qpt (r,k) af;simp only[hk,dr]at this;have:=this (r',s) af;simpa[hks]using this⟩
 have jg:HSim c e.h { w with drawn:=w.drawn+1 }:=s.hs.ext (λ_ _=>rfl) (.refl c) (λ_ _=>rfl) (λ_ _ _ h=>.inl h) s.hs.dom;have kb:E.ok c e.h { w with drawn:=w.drawn+1 }:=k.ext' s.hs (λ_ _=>rfl) (.refl c) (λ_=>rfl) rfl rfl rfl (cn _) (λ_ _ _ h=>.inl h);have u4:(λ_=>false)=λj=>(Array.replicate l.toArray.size false).getD j false:=by
  funext j;simp[dz,qj1];split<;>rfl
 refine xse se (xbx hT) d k.len (λc' a' w' s' k'=>?_) _ _ ac (λj _=>(congrFun u4 j).symm) ?_ ?_ c a _ ?_
 .exact hQ c' a' w' s' k'
 .simp
 .intro j o hj;rw[<-u4]at hj;cases hj
 .rw[<-u4];exact xd8 ⟨s.defers,s.size,s.tmps,jg⟩ kb
variable {ro:Option Nat} {Q:AExit->List Deferred->Env->Prop} {ds:List Deferred} {e:Env}
theorem xzx{id:Nat}(m:Nat){l:List Oper}(hm:P.follows .mixedOrders=true)(hB:(decide (m<=l.length)&&qs4 (l.take m)&&qro m l)=true)(hd:(l.all λo=>!qtd o.op)=true)
  (h:qu9 P E.N [] (l.take m) e [] λR e1=>qq6 (Region.before (l.take m).toArray) R/\qks P E.N (λx e=>Q x [] e) ((l.take m).map (·.dst)) (l.drop m) ⟨e1.t,rr R e1.h⟩):qf P E ro (.region id l.toArray true) Q [] e:=λn c a w s k=>by
 have h1:=jfy (P:=P) (E:=E) m hB (xmp (qyk h) λ_ _ hk=>⟨hk.1,qcq (l.drop m) (l.take m) _ ac hk.2⟩) s k;have e0:nb [] a=a:=by simp[nb]
 rw[e0];refine wpIn_mono (wpIn_region_any hm (xcz (by rintro⟨a,w,x',e,c,_,hx,_⟩;cases x'<;>exact hx) (λi o ho=>?_) h1)) λx a' w' hh=>?_
 .grind
 .have:=xdq (Q:=Q) (ds:=[]) hh;have e1:nb [] a'=a':=by simp[nb]
  rwa [e1]at this
def xmw(E:Ent)(idx l:Nat)(fn:FuncId)(ps:Array Tmp)(ll body:Code)(D:Nat)(xs:List AV)(R:AEnd->g9->Prop):AExit->List Deferred->Env->Prop
 | .normal,_,e=>e.h[idx]?=some (.raw l (uu .busy none fn ps ll body D) xs)/\∃h',Wk E ⟨[],e.h.set idx (.raw l (uu .ready none fn ps ll body D) xs)⟩ ⟨[],h'⟩/\R (.ret (.val (.bool true))) h'
 | .ret,_,e=>e.h[idx]?=some (.raw l (uu .busy none fn ps ll body D) xs)/\∃h',Wk E ⟨[],e.h.set idx (.raw l (uu .done (some .ret) fn ps ll body D) xs)⟩ ⟨[],h'⟩/\R (.ret (.val (.bool false))) h'
 |_,_,_=>False
theorem xpn{e e1:Env}{c:Ctx}{w:World}(hw:Wk E ⟨[],e.h⟩ ⟨[],e1.h⟩)(s:HSim c e.h w)(k:E.ok c e.h w):∃c1,HSim c1 e1.h w/\E.ok c1 e1.h w:=by
 have hw':Wk ⟨0,E.c,E.h,E.w⟩ ⟨[],e.h⟩ ⟨[],e1.h⟩:=λc a w s k=>by
  obtain⟨c1,s1,k1⟩:=hw c { tmps:=Array.replicate E.N undef,defers:=[] } w ⟨rfl,ac,λ_=>.top _,s.hs⟩ (k.withN E.N);exact⟨c1,⟨s.defers,s.size,λ_=>.top _,s1.hs⟩,k1.withN 0⟩
 obtain⟨c1,s1,k1⟩:=hw' c ⟨#[],[]⟩ w ⟨rfl,rfl,λ_=>.top _,s⟩ (k.withN 0);exact⟨c1,s1.hs,k1.withN E.N⟩
theorem xld{l idx:Nat}{fn:FuncId}{p:Tmp}{ll body:Code}{D:Nat}{xs:List AV}{h:g9}(hidx:h[idx]?=some (.raw l (uu .ready none fn #[p] ll body D) xs)){x:AV}(hp:p<xs.length){R:AEnd->g9->Prop}
  (vx:∀E:Ent,E.N=xs.length->E.h=h->hUnder h.length h=true->x.bd->x.under h.length=true->qf P E (some l) ll (qu2 (λds e=>ds=[]/\e.h[idx]?=some (.raw l (uu .ready none fn #[p] ll body D) xs) /\
   qf P E (some l) body (xmw E idx l fn #[p] ll body D xs R) [] ⟨e.t,e.h.set idx (.raw l (uu .busy none fn #[p] ll body D) xs)⟩) (λ_ _ _=>False)) [] ⟨(p,x)::qdl 0 xs,h⟩):AYield P l [x] h R:=λm c w vs hs ha=>by
 obtain⟨hb,tm,htm,jx,oz⟩:=hs.obj _ _ hidx;have hy:=run_yield (P:=P) (args:=vs) htm (by simp[ha.1]);refine⟨fn,_,ll,body,hy,?_⟩;obtain⟨v,rfl⟩:∃v,vs = #[v]:=by
  have:=ha.1
  match vs,this with
  |⟨[v]⟩,_=>exact⟨v,rfl⟩
 have hv:Rel c x v:=ha.2 0 x v rfl rfl;have e0:((#[p]:Array Tmp).zip #[v]).foldl (λtmps (t,a)=>tmps.setIfInBounds t a) tm=tm.setIfInBounds p v:=ac;refine roundIn_of_wpIn trivial ?_;rw[e0];show ll.wpIn (WF (some l)) m P _ _ _;have hE:=vx ⟨xs.length,c,h,w⟩ rfl rfl hs.hUnder hv.bd (hv.under hs.dom) m c { tmps:=tm.setIfInBounds p v,defers:=[] } w ⟨rfl,by simp[jx],λi=>?_,hs⟩ (Ent.ok.refl _ hs)
 .refine wpIn_mono hE ?_;rintro ex a' w1 ⟨x',ub,e',c1,a0,rfl,hq,hx,s1,k1⟩;cases x' with
  |normal =>
   cases ex<;>simp only[XR]at hx;obtain⟨rfl,hr1,hq⟩:=hq;obtain⟨kr,tm1,htm1,hsz1,hrl1⟩:=s1.hs.obj _ _ hr1;refine⟨_,run_beginRound htm1 rfl,?_⟩;obtain⟨s2,k2⟩:=xbp (f':=uu .busy none fn #[p] ll body D) s1.hs k1 hr1 htm1 ⟨hsz1,hrl1⟩;refine wpIn_mono (hq m c1 a0 _ ⟨s1.defers,s1.size,s1.tmps,s2⟩ k2) ?_;rintro ex a2 w2 ⟨x',ub,e2,c2,a0,rfl,hq,hx,s3,k3⟩;cases x' with
   |normal =>
    cases ex<;>simp only[XR]at hx;obtain⟨hr3,h',hwk,hR⟩:=hq;obtain⟨hb3,tm3,htm3,hsz3,hrl3⟩:=s3.hs.obj _ _ hr3;obtain⟨s4,k4⟩:=xbp (f':=uu .ready none fn #[p] ll body D) s3.hs k3 hr3 htm3 ⟨hsz3,hrl3⟩;obtain⟨c5,s5,k5⟩:=xpn (e:=⟨[],_⟩) (e1:=⟨[],h'⟩) hwk s4 k4;exact⟨_,_,run_endRound none htm3,.ret (.val (.bool true)),h',c5,hR,.val _,s5,k5.withN 0⟩
   |ret =>
    cases ex<;>simp only[XR]at hx;obtain⟨hr3,h',hwk,hR⟩:=hq;obtain⟨hb3,tm3,htm3,hsz3,hrl3⟩:=s3.hs.obj _ _ hr3;obtain⟨s4,k4⟩:=xbp (f':=uu .done (some .ret) fn #[p] ll body D) s3.hs k3 hr3 htm3 ⟨hsz3,hrl3⟩;obtain⟨c5,s5,k5⟩:=xpn (e:=⟨[],_⟩) (e1:=⟨[],h'⟩) hwk s4 k4;exact⟨_,_,run_endRound (some .ret) htm3,.ret (.val (.bool false)),h',c5,hR,.val _,s5,k5.withN 0⟩
   |exit i=>exact hq.elim
   |panic v=>exact hq.elim
  |exit i=>exact hq.elim
  |ret=>exact hq.elim
  |panic v=>exact hq.elim
 .simp only[ji];by_cases hi:p=i
  .simp_all
  .have:(p == i)=false:=qg7;rw[this,cond_false,xdk,if_pos (dq _),Nat.sub_zero];by_cases il:i<xs.length
   .have e1:xs[i]?=some xs[i]:=bc;rw[e1];have qu0:i<tm.size:=aa;have e2:(tm.setIfInBounds p v).getD i undef=tm[i]:=ca;rw[e2];exact oz i _ _ e1 ac
   .rw[fq aa];exact .top _
def qee:List (Nat×Nat)->g9->g9
 | [],h=>h
 |p::l,h=>qee l (h.set p.1 (.raw p.2 (λ_=>.deferred none) []))
def xsg(P:Program)(rs:List ResultVar)(n0:Nat)(R:AEnd->g9->Prop):AExit->List Deferred->Env->Prop
 | .ret,ds,e| .normal,ds,e=>∃ms:List (Nat×Nat),ds=ms.map (λp=>qmy p.2)/\(ms.map (·.1)).Nodup/\(∀p,p∈ms->e.h[p.1]?=some (nu p.2))/\qvf P rs n0 R ⟨e.t,qee ms e.h⟩
 |_,_,_=>False
theorem xr0{N:Nat}:∀{ms:List (Nat×Nat)} {e:Env} {c:Ctx} {a:Act} {w:World},(ms.map (·.1)).Nodup->(∀p,p∈ms->e.h[p.1]?=some (nu p.2))->Sim N c e a w->E.ok c e.h w->∀{fn:Func} {tmps:Array Value} {R:Ending->World->Prop} {n:Nat},
  (∀w',Sim N c ⟨e.t,qee ms e.h⟩ a w'->E.ok c (qee ms e.h) w'->LeavesIn (WF none) n P fn tmps R [] .returning w')->LeavesInM (WF none) n P fn tmps R (ms.map λp=>qmy p.2) .returning w
 | [],e,c,a,w,_,_,s,k,fn,tmps,R,n,hf=>hf w s k
 |p::ms,e,c,a,w,hn,hm,s,k,fn,tmps,R,n,hf=>by
  simp only[dj,qiy]at hn;have hp:=hm p ac;obtain⟨hb,vs,hv,jx,oz⟩:=s.hs.obj _ _ hp;obtain⟨s1,k1⟩:=xbp (f':=λ_=>.deferred none) s.hs k hp hv ⟨jx,oz⟩;refine⟨ac,.inl ⟨p.2,_,rfl,run_takeDeferred hv,?_⟩⟩;refine xr0 (e:=⟨e.t,e.h.set p.1 (.raw p.2 (λ_=>.deferred none) [])⟩) hn.2 (λq hq=>?_) ⟨s.defers,s.size,s.tmps,s1⟩ k1 hf;have it:p.1≠q.1:=λh=>hn.1 af;show(e.h.set p.1 _)[q.1]?=_;rw[ct it];exact hm q qgj
theorem xc4{f:FuncId}{fn:Func}{code:Code}{args:List AV}{h:g9}{R:AEnd->g9->Prop}(hf:P.funcs[f]?=some fn)(hb:fn.body=some code)(wb:(fn.name == "runtime.NumGoroutine")=false)(hN:args.length<=fn.ntmps)
  (body:∀E:Ent,E.N=fn.ntmps->E.h=h->hUnder h.length h=true->zi args->(∀o,o∈h->o.bd)->lj h.length args=true->qf P E none code (xsg P fn.results.toList h.length R) [] ⟨qdl 0 args,h⟩):ACalls P f args h R:=by
 refine xg5 (λkr nm hb3=>?_) ⟨fn,hf,qht,wb⟩;refine⟨⟨fn,hf,qht,wb⟩,λc w vs hs ha=>?_⟩;have ok0:=Ent.ok.refl fn.ntmps hs;have s0:=xe3 (N:=fn.ntmps) hs ha hN;refine xg8.1 (callsIn_of_wp_marks (F:=WF none) (n:=0) hf hb trivial ?_);have h1:=body ⟨fn.ntmps,c,h,w⟩ rfl rfl hs.hUnder kr nm hb3 0 c _ w s0 ok0;have e0:∀a:Act,nb [] a=a:=λa=>by simp[nb]
 rw[e0]at h1;refine wpIn_mono h1 ?_;rintro ex a' w' ⟨x',ub,e',c',a0,rfl,hq,hx,jg,ok'⟩;have fin:xsg P fn.results.toList h.length R .ret ub e'->LeavesInM (WF none) 0 P fn (nb ub a0).tmps (λe w'=>∃r h' c',R r h'/\EndR c' r e/\HSim c' h' w'/\(⟨0,c,h,w⟩:Ent).ok c' h' w') (nb ub a0).defers .returning w':=by
  rintro⟨ms,rfl,hnd,hm,iu,r',h',g1,g2,g3,g4,g5,hR⟩;have hd:(nb (ms.map λp=>qmy p.2) a0).defers=ms.map λp=>qmy p.2:=by
   simp[nb,jg.defers]
  rw[hd];refine xr0 (E:=⟨fn.ntmps,c,h,w⟩) hnd hm jg ok' λw2 s2 k2=>?_;obtain⟨v,hv,hr⟩:=xel (E:=⟨fn.ntmps,c,h,w⟩) (P:=P) s2 fn iu;obtain⟨c2,q1,q2,q3⟩:=finish (E:=⟨fn.ntmps,c,h,w⟩) s2 k2 hr g1 g2 g3 g4 g5;exact⟨v,hv,.ret r',h',c2,hR,q3,q1,q2.withN 0⟩
 cases x' with
 |normal=>cases ex<;>simp only[XR]at hx;exact fin hq
 |exit i=>exact hq.elim
 |ret=>cases ex<;>simp only[XR]at hx;exact fin hq
 |panic x=>exact hq.elim
end
end Go.Abs
