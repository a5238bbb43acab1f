/- Part 17 of a proof: AbsRq, AbsSh, AbsIn, AbsIo -/
import Derived.RangeFuncIn
import Derived.RangeFuncLeaves
import Derived.RangeFuncRecord
import Derived.OrdersIn
import Derived.TacticsIn
import Derived.RangeFuncSeq
import Derived.Test.YtilhejdbiionhaaGreatDoorR02
import Derived.Test.YtilhejdbiionhaaGreatDoorR13
set_option linter.all false

namespace Go.Abs
def bysL(l:List ByteArray):List (List UInt8):=l.map (·.data.toList)
def ofBys(l:List (List UInt8)):List ByteArray:=l.map fun x=>⟨x.toArray⟩
def qdy(l:List ByteArray):List ByteArray:=ofBys ((bysL l).mergeSort fun x y=>decide (x≤y))
theorem mem_sortS{l:List ByteArray}{z:ByteArray}:z∈qdy l↔z∈l:=by
 simp[qdy,ofBys,bysL,List.mem_mergeSort];constructor
 ·rintro⟨a,⟨b,h,rfl⟩,rfl⟩;exact h
 ·intro h;exact⟨_,⟨z,h,rfl⟩,rfl⟩
theorem ble_total(a b:List UInt8):(decide (a≤b)||decide (b≤a))=true:=by
 rcases Decidable.em (a≤b)with h|h
 ·simp[h]
 ·have:=List.le_total a b;simp[h]at this;simp[this]
theorem ble_trans(a b c:List UInt8)(h1:decide (a≤b)=true)(h2:decide (b≤c)=true):decide (a≤c)=true:=decide_eq_true (List.le_trans (of_decide_eq_true h1) (of_decide_eq_true h2))
theorem sortS_pw(l:List ByteArray):((bysL l).mergeSort fun x y=>decide (x≤y)).Pairwise fun a b=>a≤b :=
 (List.pairwise_mergeSort (le:=fun x y:List UInt8=>decide (x≤y)) ble_trans ble_total (bysL l)).imp fun h=>of_decide_eq_true h
theorem sortS_perm{l l':List ByteArray}(h:l'.Perm l):qdy l'=qdy l:=by
 unfold qdy;congr 1;refine List.Perm.eq_of_pairwise (le:=fun a b:List UInt8=>a≤b) (fun a b _ _ h1 h2=>List.le_antisymm h1 h2) (sortS_pw l') (sortS_pw l) ?_;exact((List.mergeSort_perm _ _).trans (h.map _)).trans (List.mergeSort_perm _ _).symm
theorem sortS_len(l:List ByteArray):(qdy l).length=l.length:=by simp[qdy,ofBys,bysL,List.length_mergeSort]
end Go.Abs

namespace Go.Abs
theorem relL_vals{c:Ctx}{l:List Value}{vs:Array Value}(h:RelL c (l.map .val) vs):vs=l.toArray:=by
 apply Array.ext
 ·simpa using h.1
 ·intro i h1 h2;have h3:i<l.length:=by simpa using h2
  have:=h.2 i (.val l[i]) vs[i] (by simp[h3]) (by simp[h1]);simpa using this.val_inv
theorem apure_calls{P:Program}{f:FuncId}{l:List Value}{r:Value}(hr:strOk r=true)(he:Enter P f)(hc:∀w,Calls P f l.toArray w fun e w'=>e=.returned r∧w'=w):APure P f (l.map .val) (.val r):=fun h=>by
 refine⟨he,fun c w vs hs ha=>?_⟩;rw[relL_vals ha];refine(hc w).mono ?_;rintro e w' ⟨rfl,rfl⟩;exact⟨.ret (.val r),h,c,⟨rfl,rfl⟩,.val r hr,hs,.refl 0 hs⟩
end Go.Abs

namespace Go.Abs
section
variable {P:Program} {E:Ent}
theorem rawset_ok{c:Ctx}{h:qab}{w:World}(s:HSim c h w)(k:E.ok c h w){i b:Nat}{f f':Array Value→Obj}{xs:List AV}(hi:h[i]?=some (.raw b f xs)){vs:Array Value}(hv:w.heap[b]?=some (f vs))
  (hvs:vs.size=xs.length∧∀(j:Nat) (x:AV) (v:Value),xs[j]?=some x→vs[j]?=some v→Rel c x v) :
  HSim c (h.set i (.raw b f' xs)) (w.putObj b (f' vs))∧E.ok c (h.set i (.raw b f' xs)) (w.putObj b (f' vs)):=by
 obtain⟨hb,_⟩:=s.obj i _ hi;have hh:=hv;have hlt:b<w.heap.size:=(Array.getElem?_eq_some_iff.1 hh).1;have hoth:∀g,g≠b→(w.putObj b (f' vs)).heap[g]?=w.heap[g]?:=fun g hg=>World.putObj_heap_other hg;have hsame:(w.putObj b (f' vs)).heap[b]?=some (f' vs):=World.putObj_heap_same hlt;have hbo:qag c i (.raw b f xs)=some b:=hb;have hsize:(w.putObj b (f' vs)).heap.size=w.heap.size:=by simp[World.putObj]
 have holt:∀j p b',(h.set i (.raw b f' xs))[j]?=some p→qag c j p=some b'→∃o0,h[j]?=some o0∧qag c j o0=some b':=fun j p b' hj hb'=>by
  rcases qad hj with⟨rfl,rfl⟩|⟨hne,h1⟩
  ·exact⟨_,hi,hb'⟩
  ·exact⟨p,h1,hb'⟩
 constructor
 ·refine⟨fun g j v hD=>?_,fun j hj=>s.dom j (by simpa using hj),fun j p hj=>?_,fun j j' p p' b' hj hj' hb1 hb2=>?_,fun j p b' m v hj hb1 hD=>?_⟩
  ·have hg:g≠b:=fun e=>by
    subst e;exact s.sep i _ g j v hi hbo hD
   rw[World.cell?_of_block (w:=w) (hoth g hg)];exact s.data g j v hD
  ·rcases qad hj with⟨rfl,rfl⟩|⟨hne,h1⟩
   ·exact⟨hb,vs,hsame,hvs⟩
   ·refine(s.obj j p h1).keep (.refl c) (fun _=>rfl) fun b' hb'=>hoth b' fun e=>hne ?_;subst e;exact s.apart j i p _ b' h1 hi hb' hbo
  ·obtain⟨o1,h1,h1'⟩:=holt j p b' hj hb1;obtain⟨o2,h2,h2'⟩:=holt j' p' b' hj' hb2;exact s.apart j j' o1 o2 b' h1 h2 h1' h2'
  ·rcases qad hj with⟨rfl,rfl⟩|⟨hne,h1⟩
   ·have:=s.sep j (.raw b f xs) b' m v hi hb1 hD;exact this
   ·exact s.sep j p b' m v h1 hb1 hD
 ·refine⟨k.edom,k.ext,k.blk0,by simpa using k.len,k.os,k.tape,k.output,by rw[hsize];exact k.size,fun g hg hno=>?_,fun j p b' hj hb1=>?_,k.dold⟩
  ·have hne:g≠b:=fun e=>by
    subst e;rcases k.newobj i _ g hi hbo with⟨o0,h0,h1⟩|h2
    ·exact hno i o0 h0 h1
    ·omega
   rw[hoth g hne];exact k.frame g hg hno
  ·obtain⟨o1,h1,h1'⟩:=holt j p b' hj hb1;exact k.newobj j o1 b' h1 h1'
theorem newraw_ok{c:Ctx}{h:qab}{w:World}(s:HSim c h w)(k:E.ok c h w)(f:Array Value→Obj){xs:List AV}{vs:Array Value}
  (hvs:vs.size=xs.length∧∀(j:Nat) (x:AV) (v:Value),xs[j]?=some x→vs[j]?=some v→Rel c x v) :
  ∃c',c.le c'∧HSim c' (h++[.raw w.heap.size f xs]) (w.alloc (f vs))∧E.ok c' (h++[.raw w.heap.size f xs]) (w.alloc (f vs)):=by
 have hw:∀b,b<w.heap.size→(w.alloc (f vs)).heap[b]?=w.heap[b]?:=fun b hb=>by first|exact heap_alloc_old w _ b hb|exact heap_alloc_old w _ hb
 have s1:HSim c h (w.alloc (f vs)):=s.ext hw (.refl c) (fun _ _=>rfl) (fun _ _ _ h=>.inl h) s.dom;have k1:E.ok c h (w.alloc (f vs)):=k.ext' s hw (.refl c) (fun _=>rfl) rfl rfl rfl (alloc_le w _) (fun _ _ _ h=>.inl h);have hle:c.le (c.addBlk h.length w.heap.size):=Ctx.addBlk_le (s.dom h.length (Nat.le_refl _)).1;have hblk:(c.addBlk h.length w.heap.size).blk h.length=some w.heap.size:=by simp[Ctx.addBlk]
 have hb:∀b',qag (c.addBlk h.length w.heap.size) h.length (.raw w.heap.size f xs)=some b'→b'=w.heap.size:=fun b' hb'=>by
  simp only[qag,hblk,Option.some.injEq]at hb';exact hb'.symm
 exact⟨_,hle,s1.push (s.fresh (Nat.le_refl _)) (s.noD (Nat.le_refl _)) ⟨hblk,vs,heap_alloc_new w _,hvs.1,fun j x v hx hv=>(hvs.2 j x v hx hv).mono hle⟩ hb,k1.push s1 k.size hb⟩
def WF(ro:Option Nat):Fence:={ Fence.wide with round:=ro }
theorem callsIn_wf{ro:Option Nat}{n:Nat}{f:FuncId}{args:Array Value}{w:World}{R:Ending→World→Prop}:CallsIn (WF ro) n P f args w R↔Calls P f args w R :=
 (show CallsIn (WF ro) n P f args w R↔CallsIn Fence.wide n P f args w R from Iff.rfl).trans callsIn_wide
theorem rowsIn_wf{ro:Option Nat}{n:Nat}{row:String}{args:Array Value}{w:World}{R:Value→World→Prop}(h:Rows P row args w R):RowsIn (WF ro) n P row args w R:=fun c cs _=>by
 obtain⟨v,w',hR,hs⟩:=h c cs;exact⟨v,w',hR,(stepsIn_wide (P:=P)).2 hs⟩
def isDef:Op→Bool
 | .defer _=>true
 |_=>false
theorem oper_in{ro:Option Nat}{n:Nat}{o:Oper}(hd:isDef o.op=false){a:Act}{w:World}{nx:Act→World→Prop}{Q:Exit→Act→World→Prop}(h:o.wp P a w nx Q):o.wpIn (WF ro) n P a w nx Q:=by
 refine⟨fun _ _=>trivial,?_⟩;rw[Oper.semAt_eq _ _ _ (fun c hc=>by rw[hc]at hd;cases hd)];unfold Oper.wp at h;generalize(execOp a.eval o).run P w=r at h⊢;cases r with
 |ok x w' =>
  cases x with
  |value v=>exact h
  |skip=>exact h
  |defer d=>exact h
  |enter f args=>exact⟨fun h=>(by cases h),callsIn_wf.2 (h.mono fun e w'' he=>by cases e<;>exact he)⟩
  |row r args=>exact⟨fun h=>(by cases h),rowsIn_wf h⟩
  |_=>exact h.elim
 |halt x w'=>cases x<;>first|exact h|exact h.elim
theorem list_in{ro:Option Nat}{n:Nat}{ops:Array Oper}{Q:Exit→Act→World→Prop}(hQ:¬LetsOut Q):∀{l:List Oper} {a:Act} {w:World},(l.all fun o=>!isDef o.op)=true→wpList P ops Q l a w→wpListIn (WF ro) n P ops Q l a w
 | [],_,_,_,h=>h
 |o::l,a,w,hd,h=>by
  simp only[List.all_cons,Bool.and_eq_true,Bool.not_eq_true']at hd;unfold wpList at h;unfold wpListIn;split at h
  ·rename_i hw;rw[if_pos hw];rcases h with h|⟨_,h⟩
   ·exact Oper.wpIn_mono (fun a w hh=>list_in hQ hd.2 hh) (oper_in hd.1 h)
   ·exact(hQ h).elim
  ·rename_i hw;rw[if_neg hw];exact⟨fun _ _=>trivial,list_in hQ hd.2 h⟩
theorem any_in{ro:Option Nat}{n:Nat}{ops:Array Oper}{Q:Exit→Act→World→Prop}(hQ:¬LetsOut Q)(hd:∀(i:Nat) (o:Oper),ops[i]?=some o→isDef o.op=false):∀{fuel:Nat} {L:Array Bool} {a:Act} {w:World},wpAny P .any ops Q fuel L a w→wpAnyIn (WF ro) n P .any ops Q fuel L a w
 | 0,_,_,_,h=>h
 |fuel+1,L,a,w,h=>by
  refine⟨h.1,fun i hi=>?_⟩;have h1:=h.2 i hi;unfold wpOp at h1;unfold wpOpIn;split at h1
  ·rename_i ho;rw[ho];exact any_in hQ hd h1
  ·rename_i o ho;rw[ho];simp only;split at h1
   ·rename_i hw;rw[if_pos hw];rcases h1 with h1|⟨_,h1⟩
    ·exact Oper.wpIn_mono (fun a w hh=>any_in hQ hd hh) (oper_in (hd i o ho) h1)
    ·exact(hQ h1).elim
   ·rename_i hw;rw[if_neg hw];exact⟨fun _ _=>trivial,any_in hQ hd h1⟩
def concI(E:Ent)(Q:AExit→List Deferred→Env→Prop):Exit→Act→World→Prop:=fun x a w=>∃x' ds e c a0,a=ddf ds a0∧Q x' ds e∧XR c x' x∧Sim E.N c e a0 w∧E.ok c e.h w
theorem concI_lets{Q:AExit→List Deferred→Env→Prop}:¬LetsOut (concI E Q):=fun ⟨a,w,x',ds,e,c,a0,_,_,hx,_⟩=>by cases x'<;>exact hx
theorem conc_I{Q:AExit→List Deferred→Env→Prop}{ds:List Deferred}{x:Exit}{a:Act}{w:World}(h:conc E (fun x e=>Q x ds e) x a w):concI E Q x (ddf ds a) w:=by
 obtain⟨x',e,c,hq,hx,s,k⟩:=h;exact⟨x',ds,e,c,a,rfl,hq,hx,s,k⟩
def AWpI(P:Program)(E:Ent)(ro:Option Nat)(code:Code)(Q:AExit→List Deferred→Env→Prop)(ds:List Deferred)(e:Env):Prop :=
 ∀n c a w,Sim E.N c e a w→E.ok c e.h w→code.wpIn (WF ro) n P (concI E Q) (ddf ds a) w
def thenI(K:List Deferred→Env→Prop)(Q:AExit→List Deferred→Env→Prop):AExit→List Deferred→Env→Prop
 | .normal,ds,e=>K ds e
 |x,ds,e=>Q x ds e
def blockI(id:Nat)(Q:AExit→List Deferred→Env→Prop):AExit→List Deferred→Env→Prop
 | .exit i,ds,e=>if i=id then Q .normal ds e else Q (.exit i) ds e
 |x,ds,e=>Q x ds e
variable {ro:Option Nat} {Q:AExit→List Deferred→Env→Prop} {ds:List Deferred} {e:Env}
theorem awpI_mono{code:Code}{Q':AExit→List Deferred→Env→Prop}(h:AWpI P E ro code Q' ds e)(hq:∀x ds e,Q' x ds e→Q x ds e):AWpI P E ro code Q ds e:=fun n c a w s k =>
 wpIn_mono (h n c a w s k) fun _ _ _ ⟨x',ds',e',c',a0,h1,h2,h3⟩=>⟨x',ds',e',c',a0,h1,hq _ _ _ h2,h3⟩
theorem awpI_wk{code:Code}{e1:Env}(hw:Wk E e e1)(h:AWpI P E ro code Q ds e1):AWpI P E ro code Q ds e:=fun n c a w s k=>by
 obtain⟨c1,s1,k1⟩:=hw c a w s k;exact h n c1 a w s1 k1
theorem awpI_skip(h:Q .normal ds e):AWpI P E ro .skip Q ds e:=fun n c a w s k=>wpIn_skip ⟨.normal,ds,e,c,a,rfl,h,trivial,s,k⟩
theorem awpI_ret(h:Q .ret ds e):AWpI P E ro .ret Q ds e:=fun n c a w s k=>wpIn_ret ⟨.ret,ds,e,c,a,rfl,h,trivial,s,k⟩
theorem awpI_exit{id:Nat}(h:Q (.exit id) ds e):AWpI P E ro (.exit id) Q ds e:=fun n c a w s k=>wpIn_exit ⟨.exit id,ds,e,c,a,rfl,h,rfl,s,k⟩
theorem awpI_seq{x y:Code}(h:AWpI P E ro x (thenI (fun ds e=>AWpI P E ro y Q ds e) Q) ds e):AWpI P E ro (.seq x y) Q ds e:=fun n c a w s k=>by
 refine wpIn_seq (wpIn_mono (h n c a w s k) ?_);rintro ex a' w' ⟨x',ds',e',c',a0,rfl,hq,hx,hs',ok'⟩;cases x' with
 |normal=>cases ex<;>simp only[XR]at hx;exact hq n c' a0 w' hs' ok'
 |exit i=>cases ex<;>simp only[XR]at hx;exact⟨.exit i,ds',e',c',a0,rfl,hq,hx,hs',ok'⟩
 |ret=>cases ex<;>simp only[XR]at hx;exact⟨.ret,ds',e',c',a0,rfl,hq,trivial,hs',ok'⟩
 |panic v =>
  cases ex with
  |panic ch=>exact⟨.panic v,ds',e',c',a0,rfl,hq,hx,hs',ok'⟩
  |_=>simp only[XR]at hx
theorem awpI_block{id:Nat}{b:Code}(h:AWpI P E ro b (blockI id Q) ds e):AWpI P E ro (.block id b) Q ds e:=fun n c a w s k=>by
 refine wpIn_block (wpIn_mono (h n c a w s k) ?_);rintro ex a' w' ⟨x',ds',e',c',a0,rfl,hq,hx,hs',ok'⟩;cases x' with
 |normal=>cases ex<;>simp only[XR]at hx;exact⟨.normal,ds',e',c',a0,rfl,hq,trivial,hs',ok'⟩
 |exit i =>
  cases ex with
  |exit j =>
   simp only[XR]at hx;subst hx;simp only[Exit.inBlock];simp only[blockI]at hq;split
   ·rename_i hi;rw[if_pos hi]at hq;exact⟨.normal,ds',e',c',a0,rfl,hq,trivial,hs',ok'⟩
   ·rename_i hi;rw[if_neg hi]at hq;exact⟨.exit i,ds',e',c',a0,rfl,hq,rfl,hs',ok'⟩
  |_=>simp only[XR]at hx
 |ret=>cases ex<;>simp only[XR]at hx;exact⟨.ret,ds',e',c',a0,rfl,hq,trivial,hs',ok'⟩
 |panic v =>
  cases ex with
  |panic ch=>exact⟨.panic v,ds',e',c',a0,rfl,hq,hx,hs',ok'⟩
  |_=>simp only[XR]at hx
theorem awpI_cond{x:Operand}{t f:Code}{b:Bool}(hb:e.get x=.val (.bool b))(ht:b=true→AWpI P E ro t Q ds e)(hf:b=false→AWpI P E ro f Q ds e):AWpI P E ro (.cond x t f) Q ds e :=
 fun n c a w s k=>wpIn_cond_split (Rel.bool (hb▸s.eval x)) (fun h=>ht h n c a w s k) (fun h=>hf h n c a w s k)
theorem wpIn_loop_by{F:Fence}{n:Nat}{ι:Type}{c:Code}{Q:Exit→Act→World→Prop}{a:Act}{w:World}(I:ι→Act→World→Prop)(μ:ι→Nat)(i0:ι)(h₀:I i0 a w)
  (round:∀i a w,I i a w→c.wpIn F n P (Exit.then (fun a' w'=>∃j,I j a' w'∧μ j<μ i) Q) a w):(Code.loop c).wpIn F n P Q a w:=by
 intro b k cs hro hb hr;have key:∀m i a w,μ i=m→I i a w →
   ∃e a' w',Q e a' w'∧ArrivesIn (Machine.fenced P F) P (lone (b.atR a (.code c::.inLoop c::k)) cs w) b k cs e a' w':=by
  intro m
  induction m using Nat.strongRecOn with
  |_ m ih =>
   intro i a w hn hI;obtain⟨e,a₁,w₁,hq,harr⟩:=round i a w hI b (.inLoop c::k) cs hro hb hr;cases e with
   |normal =>
    obtain⟨j,hI₁,hlt⟩:=hq;obtain⟨e₂,a₂,w₂,hq₂,harr₂⟩:=ih (μ j) (hn▸hlt) j a₁ w₁ rfl hI₁;exact⟨e₂,a₂,w₂,hq₂,.of_steps (StepsIn.trans harr (.one (fenced_calm hb hr rfl) stepR_inLoop)) harr₂⟩
   |exit id=>exact⟨_,a₁,w₁,hq,.pass (x:=.inLoop c) rfl (fun _ _=>.inl (by simp)) harr⟩
   |goto l=>exact⟨_,a₁,w₁,hq,.pass (x:=.inLoop c) rfl (fun _ _=>.inl (by simp)) harr⟩
   |ret=>exact⟨_,a₁,w₁,hq,.pass (x:=.inLoop c) rfl (fun _ _=>.inl (by simp)) harr⟩
   |panic ch=>exact⟨_,a₁,w₁,hq,.pass (x:=.inLoop c) rfl (fun _ _=>.inl (by simp)) harr⟩
   |outgrown=>exact⟨_,a₁,w₁,hq,.pass (x:=.inLoop c) rfl (fun _ _=>.inl (by simp)) harr⟩
 obtain⟨e,a',w',hq,harr⟩:=key _ i0 a w rfl h₀;exact⟨e,a',w',hq,.of_steps (.one (fenced_calm hb hr rfl) stepR_loop) harr⟩
theorem awpI_loop{ι:Type}{b:Code}(I:ι→Prop)(S:ι→List Deferred×Env)(μ:ι→Nat)(i0:ι)(h0:I i0)(hd:ds=(S i0).1)(hw:Wk E e (S i0).2)
  (round:∀i,I i→AWpI P E ro b (thenI (fun ds' e'=>∃j,I j∧μ j<μ i∧ds'=(S j).1∧Wk E e' (S j).2) Q) (S i).1 (S i).2):AWpI P E ro (.loop b) Q ds e:=fun n c a w s k=>by
 subst hd;refine wpIn_loop_by (ι:=ι) (fun i a w=>I i∧∃c a0,a=ddf (S i).1 a0∧Sim E.N c (S i).2 a0 w∧E.ok c (S i).2.h w) μ i0 ?_ ?_
 ·obtain⟨c1,s1,k1⟩:=hw c a w s k;exact⟨h0,c1,a,rfl,s1,k1⟩
 ·rintro i a w ⟨hI,c,a0,rfl,s,k⟩;refine wpIn_mono (round i hI n c a0 w s k) ?_;rintro ex a' w' ⟨x',ds',e',c',a1,rfl,hq,hx,hs',ok'⟩;cases x' with
  |normal =>
   cases ex<;>simp only[XR]at hx;obtain⟨j,hj,hlt,rfl,hwk⟩:=hq;obtain⟨c2,s2,k2⟩:=hwk c' a1 w' hs' ok';exact⟨j,⟨hj,c2,a1,rfl,s2,k2⟩,hlt⟩
  |exit i=>cases ex<;>simp only[XR]at hx;exact⟨.exit i,ds',e',c',a1,rfl,hq,hx,hs',ok'⟩
  |ret=>cases ex<;>simp only[XR]at hx;exact⟨.ret,ds',e',c',a1,rfl,hq,trivial,hs',ok'⟩
  |panic v =>
   cases ex with
   |panic ch=>exact⟨.panic v,ds',e',c',a1,rfl,hq,hx,hs',ok'⟩
   |_=>simp only[XR]at hx
theorem awpI_region{id:Nat}{l:List Oper}(hd:(l.all fun o=>!isDef o.op)=true)(h:opsG P E.N (fun x e=>Q x ds e) [] l e):AWpI P E ro (.region id l.toArray false) Q ds e:=fun n c a w s k =>
 wpIn_region_list (list_in concI_lets hd (wpList_ddf (fun _ _ _ hh=>conc_I hh) (by simpa using qcf l [] e (by simp) (by simpa using h) c a w s k)))
end
end Go.Abs

namespace Go.Abs
section
variable {P:Program} {E:Ent}
def AYield(P:Program)(l:Nat)(args:List AV)(h:qab)(R:AEnd→qab→Prop):Prop :=
 ∀(m:Nat) (c:Ctx) (w:World) (vs:Array Value),HSim c h w→RelL c args vs →
  YieldAt (WF none) m P l vs w fun e w'=>∃r h' c',R r h'∧EndR c' r e∧HSim c' h' w'∧(⟨0,c,h,w⟩:Ent).ok c' h' w'
theorem run_yieldcall{o:Oper}{ev:Operand→Value}{w:World}{f:Operand}{args:Array Operand}{ts:Array TypeId}(ho:o.op=.call { callee:=.value f,args:=args,argTypes:=ts }){l:Nat}
  (hf:ev f=.func (.yield l) #[] #[]):(execOp ev o).run P w=(Instr.yield l (args.map ev)).run P w:=by
 simp[execOp,ho,resolve,hf,Deferred.ofValue,invoke,Sem.run_bind,Sem.run_pure,Result.andThen_ok]
theorem yield_in{c:Ctx}{e:Env}{a:Act}{w:World}(s:Sim E.N c e a w)(k:E.ok c e.h w){ds:List Deferred}{o:Oper}{f:Operand}{args:Array Operand}{ts:Array TypeId}(ho:o.op=.call { callee:=.value f,args:=args,argTypes:=ts })
  (hall:qaw e true (f::args.toList)) {l:Nat} (hf:e.getS f=.fn (.yield l) [] []) {R:AEnd→qab→Prop} (hy:AYield P l (qbi e.h (args.toList.map e.getS)) e.h R) {n:Nat} {nx:Act→World→Prop} {Q:Exit→Act→World→Prop}
  (hret:∀v h' c' w' u,R (.ret v) h'→c.le c'→HSim c' h' w'→E.ok c' h' w'→Rel c' v u→nx ((ddf ds a).put o.dst u) w') (hpan:∀v h',R (.panic v) h'→False):o.wpIn (WF none) n P (ddf ds a) w nx Q:=by
 have hrel:=qbe s hall;have hfr:=hrel f (by simp);rw[hf]at hfr;have hev:a.eval f=.func (.yield l) #[] #[]:=by
  generalize a.eval f=z at hfr;cases hfr with
  |data h=>cases h
  |fn f ys xs us vs hl' hl h' h =>
   simp only[List.length_nil,Array.size_eq_zero_iff]at hl hl';rw[hl,hl']
 have hargs:RelL c (args.toList.map e.getS) (args.map a.eval):=RelL.map fun x hx=>hrel x (by simp[hx]);have hlist:=hargs.norm s.hs;obtain⟨s1,k1⟩:=share_ok s.hs k;refine⟨fun _ _=>trivial,?_⟩;show o.uponIn (WF none) n P (ddf ds a) nx Q ((o.semAt none (ddf ds a).eval).run P w);have hev':(ddf ds a).eval=a.eval:=rfl;rw[Oper.semAt_none,hev',run_yieldcall ho hev];obtain⟨fn,tmps,asg,body,h1,h2⟩:=hy (n - 1) _ w _ s1 hlist;rw[h1];refine⟨fun h=>(by cases h),h2.mono ?_⟩;rintro en w' ⟨r,h',c',hR,hE,hs',hk'⟩;have hle:c.le c':=(share_le c e.h w).trans hk'.ext;have hok:E.ok c' h' w':=k1.trans hk';cases r with
 |ret x=>cases en<;>simp only[EndR]at hE;exact hret x h' c' w' _ hR hle hs' hok hE
 |panic x=>exact(hpan _ _ hR).elim
def stepY(P:Program)(N:Nat)(Q:AExit→Env→Prop)(ds:List (Option Tmp))(o:Oper)(e:Env)(K:Env→Prop):Prop :=
 match o.op with
 | .call { callee:=.value f,args,.. }=>match e.getS f with
  | .fn (.yield l) [] []=>o.guard=none∧qee N o.dst∧qaw e true (f::args.toList)∧AYield P l (qbi e.h (args.toList.map e.getS)) e.h fun r h'=>match r with
   | .ret v=>K (({ e with h:=h' }:Env).put o.dst v)
   | .panic _=>False
  |_=>stepG P N Q ds o e K
 |_=>stepG P N Q ds o e K
def opsY(P:Program)(N:Nat)(Q:AExit→Env→Prop):List (Option Tmp)→List Oper→Env→Prop
 |_,[],e=>Q .normal e
 |ds,o::l,e=>stepY P N Q ds o e (opsY P N Q (ds++[o.dst]) l)
variable {Q:AExit→List Deferred→Env→Prop} {ds:List Deferred} {e:Env}
theorem put_ddf(a:Act)(t:Option Tmp)(v:Value):(ddf ds a).put t v=ddf ds (a.put t v):=by cases t<;>rfl
theorem opsY_sound{n:Nat}{ops:Array Oper}:∀(l:List Oper) (done:List Oper) (e:Env),ops.toList=done++l→(l.all fun o=>!isDef o.op)=true→opsY P E.N (fun x e=>Q x ds e) (done.map (·.dst)) l e →
  ∀c a w,Sim E.N c e a w→E.ok c e.h w→wpListIn (WF none) n P ops (concI E Q) l (ddf ds a) w
 | [],done,e,_,_,h,c,a,w,s,k=>⟨.normal,ds,e,c,a,rfl,h,trivial,s,k⟩
 |o::l,done,e,hops,hd,h,c,a,w,s,k=>by
  simp only[List.all_cons,Bool.and_eq_true,Bool.not_eq_true']at hd;have ih:=fun e'=>opsY_sound (n:=n) (ops:=ops) l (done++[o]) e' (by simp[hops]) hd.2;simp only[List.map_append,List.map_cons,List.map_nil]at ih;simp only[opsY]at h;have plain:stepG P E.N (fun x e=>Q x ds e) (done.map (·.dst)) o e (opsY P E.N (fun x e=>Q x ds e) (done.map (·.dst)++[o.dst]) l)→wpListIn (WF none) n P ops (concI E Q) (o::l) (ddf ds a) w:=fun h=>by
   have h1:=stepF_sound (stepG_F h) (fun G hG=>wanted_eq hops s hG) s k (nx:=fun a' w'=>∃e' c',opsY P E.N (fun x e=>Q x ds e) (done.map (·.dst)++[o.dst]) l e'∧Sim E.N c' e' a' w'∧E.ok c' e'.h w') fun e' c' a' w' hK s' k'=>⟨e',c',hK,s',k'⟩
   unfold wpListIn;have e1:(ddf ds a).tmps=a.tmps:=rfl;rw[e1];split at h1
   ·rename_i hw;rw[if_pos hw];have no:¬LetsOut (conc E (fun x e=>Q x ds e)):=fun ⟨a,w,x',e,c,_,hx,_⟩=>by cases x'<;>exact hx
    rcases h1 with h1|⟨_,h1⟩
    ·refine Oper.wpIn_mono (fun a' w' hh=>?_) (oper_in hd.1 (upon_ddf (d:=ds) h1 (next':=fun a' w'=>∃a0,a'=ddf ds a0∧∃e' c',opsY P E.N (fun x e=>Q x ds e) (done.map (·.dst)++[o.dst]) l e'∧Sim E.N c' e' a0 w'∧E.ok c' e'.h w') (fun a' w' hh=>⟨a',rfl,hh⟩) (fun _ _ _ hh=>conc_I hh)))
     obtain⟨a0,rfl,e',c',hK,s',k'⟩:=hh;exact ih e' hK c' a0 w' s' k'
    ·exact(no h1).elim
   ·rename_i hw;rw[if_neg hw,put_ddf];obtain⟨e',c',hK,s',k'⟩:=h1;exact⟨fun _ _=>trivial,ih e' hK c' _ w s' k'⟩
  obtain⟨dst,op,ty,pos,after,guard⟩:=o;cases op with
  |call cl =>
   obtain⟨callee,args,ats⟩:=cl;cases callee with
   |value f =>
    unfold stepY at h;simp only at h;split at h
    ·rename_i lp hf;obtain⟨rfl,hdst,hall,hy⟩:=h;unfold wpListIn;rw[if_pos (by simp[Region.wanted])];refine yield_in s k rfl hall hf hy (fun v h' c' w' u hR hle hs' hk' hru=>?_) fun v h' hR=>hR;rw[put_ddf];exact ih _ hR c' _ w' (s.put hle hs' (dst_lt hdst) hru) (by cases dst<;>exact hk')
    ·exact plain h
   |_=>exact plain h
  |_=>exact plain h
theorem awpI_opsY{id:Nat}{l:List Oper}(hd:(l.all fun o=>!isDef o.op)=true)(h:opsY P E.N (fun x e=>Q x ds e) [] l e):AWpI P E none (.region id l.toArray false) Q ds e:=fun n c a w s k =>
 wpIn_region_list (by simpa using opsY_sound (n:=n) (ops:=l.toArray) l [] e (by simp) hd (by simpa using h) c a w s k)
def recO(st:LoopState)(pe:Option Code)(fn:FuncId)(ps:Array Tmp)(asg body:Code)(D:Nat)(tm:Array Value):Obj:=.loop { state:=st,pending:=pe,fn,tmps:=tm,params:=ps,assign:=asg,body,defers:=D }
def qd0(D:Nat):AObj:=.raw D (fun _=>.deferred (some [])) []
def coll(D:Nat):Deferred:={ target:=.collected D,args:=#[] }
def slots(N:Nat)(e:Env):List AV:=(List.range N).map (qbb e.t)
theorem slots_rel{N:Nat}{c:Ctx}{a:Act}{w:World}(s:Sim N c e a w):a.tmps.size=(slots N e).length∧∀(j:Nat) (x:AV) (v:Value),(slots N e)[j]?=some x→a.tmps[j]?=some v→Rel c x v :=
 ⟨by simp[slots,s.size],fun j x v hx hv=>by
  simp only[slots,List.getElem?_map,List.getElem?_range']at hx;rw[Option.map_eq_some_iff]at hx;obtain⟨j',h1,rfl⟩:=hx;have:j'=j:=by
   have:=List.getElem?_eq_some_iff.1 h1;simpa using this.2.symm
  subst this;have:=s.tmps j'
  rwa [Array.getD_eq_getD_getElem?,hv]at this⟩
set_option maxHeartbeats 400000 in
theorem awpI_range{g:Operand}{ps:Array Tmp}{asg body:Code}{gf:FuncId}{caps:List AV}(hg:e.get g=.fn (.func gf) [] caps)
  (h:∀(fn:FuncId) (D l:Nat),ACalls P gf (qbi (e.h++[qd0 D,.raw l (recO .ready none fn ps asg body D) (slots E.N e)]) ([.fn (.yield l) [] []]++caps)) (e.h++[qd0 D,.raw l (recO .ready none fn ps asg body D) (slots E.N e)]) fun r h' =>
   (∃v,r=.ret v)∧∃st pe,st≠.busy∧h'[e.h.length+1]?=some (.raw l (recO st pe fn ps asg body D) (slots E.N e)) ∧
    match pe with
    |none=>Q .normal (coll D::ds) ⟨e.t,h'.set (e.h.length+1) (.raw l (recO .exhausted none fn ps asg body D) (slots E.N e))⟩
    |some c=>AWpI P E none c Q (coll D::ds) ⟨e.t,h'.set (e.h.length+1) (.raw l (recO .exhausted pe fn ps asg body D) (slots E.N e))⟩) :
  AWpI P E none (.rangeFunc g ps asg body) Q ds e:=fun n c a w s k=>by
 refine wpIn_rangeFunc fun fn _=>?_;have hgr:=s.eval g;rw[hg]at hgr;obtain⟨vs,hev,hcap⟩:∃vs,a.eval g=.func (.func gf) #[] vs∧RelL c caps vs:=by
  generalize a.eval g=z at hgr;cases hgr with
  |data h=>cases h
  |fn f ys xs us vs hl' hl h' h =>
   simp only[List.length_nil,Array.size_eq_zero_iff]at hl';subst hl';exact⟨vs,rfl,⟨hl,h⟩⟩
 -- the two blocks
 obtain⟨c1,l1,s1,k1⟩:=newraw_ok s.hs k (fun _=>.deferred (some [])) (xs:=[]) (vs:=#[]) ⟨rfl,fun j x v hx=>by simp at hx⟩;have sr:=slots_rel s;obtain⟨c2,l2,s2,k2⟩:=newraw_ok s1 k1 (recO .ready none fn ps asg body w.heap.size) (xs:=slots E.N e) (vs:=a.tmps) ⟨sr.1,fun j x v hx hv=>(sr.2 j x v hx hv).mono l1⟩;have hH:e.h++[AObj.raw w.heap.size (fun _=>.deferred (some [])) []]++[AObj.raw (w.alloc (Obj.deferred (some []))).heap.size (recO .ready none fn ps asg body w.heap.size) (slots E.N e)]=e.h++[qd0 w.heap.size,.raw (w.heap.size+1) (recO .ready none fn ps asg body w.heap.size) (slots E.N e)]:=by
  simp[qd0,World.size_alloc]
 rw[hH]at s2 k2;have hle:=l1.trans l2;have hc:=h fn w.heap.size (w.heap.size+1);have hrel:RelL c2 ([.fn (.yield (w.heap.size+1)) [] []]++caps) (#[.func (.yield (w.heap.size+1)) #[] #[]]++vs):=RelL.app ⟨rfl,fun j x v hx hv=>by
  match j with
  | 0=>simp at hx hv;subst hx;subst hv;exact .fn _ [] [] #[] #[] rfl rfl (by simp) (by simp)
  |j+1=>simp at hx⟩ ⟨hcap.1,fun j x v hx hv=>(hcap.2 j x v hx hv).mono hle⟩
 have hcall:=hc.2 _ _ _ s2 (hrel.norm s2);have hen:=run_enterLoop_outer (P:=P) (w:=w) fn (ddf ds a).tmps ps asg body;obtain⟨W2,hW2⟩:∃W2,W2=(w.alloc (.deferred (some []))).alloc (recO .ready none fn ps asg body w.heap.size a.tmps):=⟨_,rfl⟩
 have hen':(Instr.enterLoop fn (ddf ds a).tmps ps asg body (WF none).round).run P w=.ok (w.heap.size+1,[coll w.heap.size]) W2:=by
  rw[hW2];exact hen
 rw[←hW2]at hcall;clear hen s2 k1 s1;have hev1:(ddf ds a).eval=a.eval:=rfl;have hres:(resolve (ddf ds a).eval (rangeCall g (w.heap.size+1)) 0).run P W2=.ok { target:=.fn (.func gf) vs,args:=#[.func (.yield (w.heap.size+1)) #[] #[]] } W2:=by
  simp only[rangeCall,resolve,hev1,hev,Deferred.ofValue,Sem.run_pure];simp[Act.eval]
 obtain⟨fnn,e1,e2,e3⟩:=hc.1;have hb:fnn.body.isNone=false:=by
  cases hbd:fnn.body with
  |none=>rw[hbd]at e2;simp at e2
  |some b=>rfl
 have hinv:(invoke (.fn (.func gf) vs) #[.func (.yield (w.heap.size+1)) #[] #[]]).run P W2=.ok (.enter gf (#[.func (.yield (w.heap.size+1)) #[] #[]]++vs)) W2:=by
  simp only[invoke,callFunc,Sem.run_bind,Sem.run_pure,Result.andThen_ok,run_program,e1,e3,hb,Bool.false_eq_true,if_false]
 rw[←hW2]at k2;refine⟨_,_,_,_,_,_,_,_,hen',hres,fun _ _=>trivial,hinv,fun h=>(by cases h),?_⟩;refine callsIn_wf.2 ?_;refine hcall.mono ?_;rintro en w3 ⟨r,h',c',⟨⟨v,rfl⟩,st,pe,hst,hrec,hQ⟩,hE,hs',hk'⟩;cases en<;>simp only[EndR]at hE;obtain⟨hb,tm,htm,hsz,hrl⟩:=hs'.obj _ _ hrec;have hend:=run_endLoop (P:=P) htm hst;have hok:E.ok c' h' w3:=k2.trans hk';have hle':c.le c':=hle.trans hk'.ext;obtain⟨s4,k4⟩:=rawset_ok (f':=recO .exhausted pe fn ps asg body w.heap.size) hs' hok hrec htm ⟨hsz,hrl⟩;have act:({ ddf ds a with defers:=[coll w.heap.size]++(ddf ds a).defers }:Act)=ddf (coll w.heap.size::ds) a:=by
  simp[ddf,s.defers]
 refine⟨pe,_,hend,?_⟩;rw[act];cases pe with
 |none=>exact⟨.normal,_,⟨e.t,_⟩,c',a,rfl,hQ,trivial,⟨s.defers,s.size,fun i=>(s.tmps i).mono hle',s4⟩,k4⟩
 |some cd=>exact hQ n c' a _ ⟨s.defers,s.size,fun i=>(s.tmps i).mono hle',s4⟩ k4
end
end Go.Abs
