/- Part 1 of a proof: AbsA, AbsB, AbsC, AbsCn -/
import Derived.Calls
import Derived.Orders
import Derived.Laws.AppendOwn
import Derived.Tactics
set_option linter.all false

namespace Go.Abs
inductive AV where
 | top
 | val (v:Value)
 | nils
 | slice (rows:List (List AV))
 | agg (cells:List AV)
 | tuple (vs:List AV)
 | ptr (i off:Nat)
 | eptr (cells:List AV)
 | mapr (i:Nat)
 | fn (f:Fn) (first caps:List AV)
 | iface (t:TypeId) (v:AV)
 | own (i n:Nat)
 | opt (g:Bool) (v:AV)
 | optr (i n sz r q:Nat)
instance:Inhabited AV:=⟨.top⟩
structure Ctx where
 D:Nat→Nat→Option Value
 blk:Nat→Option Nat
 sl:Nat→Nat→Option Value
structure Ctx.le (c c':Ctx):Prop where
 D:∀ b j v,c.D b j=some v→c'.D b j=some v
 blk:∀ i b,c.blk i=some b→c'.blk i=some b
 sl:∀ i n v,c.sl i n=some v→c'.sl i n=some v
theorem Ctx.le.refl (c:Ctx):c.le c:=⟨fun _ _ _ h=>h,fun _ _ h=>h,fun _ _ _ h=>h⟩
theorem Ctx.le.trans {a b c:Ctx} (h:a.le b) (k:b.le c):a.le c :=
 ⟨fun _ _ _ x=>k.D _ _ _ (h.D _ _ _ x),fun _ _ x=>k.blk _ _ (h.blk _ _ x),fun _ _ _ x=>k.sl _ _ _ (h.sl _ _ _ x)⟩
def strOk:Value→Bool
 | .string s=>decide (s.size≤68719476736)
 | _=>true
inductive DRel (D:Nat→Nat→Option Value):AV→Value→Prop
 | val (v:Value) (h:v.oneCell'=true) (hs:strOk v=true:=by first | rfl | assumption):DRel D (.val v) v
 | nil:DRel D (.slice []) (.slice none 0 0)
 | slice (rows:List (List AV)) (b off cap sz:Nat) (g:Nat→Nat→Value) (hsz:∀ r,r∈rows→r.length=sz) (hB:rows.length≤68719476736) (hc:rows.length≤cap)
   (hD:∀ (i j:Nat) (r:List AV) (x:AV),rows[i]?=some r→r[j]?=some x→D b (off+i * sz+j)=some (g i j))
   (h:∀ (i j:Nat) (r:List AV) (x:AV),rows[i]?=some r→r[j]?=some x→DRel D x (g i j)) :
   DRel D (.slice rows) (.slice (some ⟨b,off,none⟩) rows.length cap)
 | empty (a:Addr):DRel D (.slice []) (.slice (some a) 0 0)
theorem DRel.mono {D D':Nat→Nat→Option Value} (hD:∀ b j v,D b j=some v→D' b j=some v) {x:AV} {v:Value} (h:DRel D x v):DRel D' x v:=by
 induction h with
 | val v h hs=>exact .val v h hs
 | nil=>exact .nil
 | slice rows b off cap sz g hsz hB hc h1 h2 ih=>exact .slice rows b off cap sz g hsz hB hc (fun i j r x hr hx=>hD _ _ _ (h1 i j r x hr hx)) ih
 | empty a=>exact .empty a
theorem DRel.one {D:Nat→Nat→Option Value} {x:AV} {v:Value} (h:DRel D x v):v.oneCell'=true:=by
 cases h with
 | val v h hs=>exact h
 | nil=>rfl
 | slice=>rfl
 | empty=>rfl
inductive Rel (c:Ctx):AV→Value→Prop
 | data {x:AV} {v:Value} (h:DRel c.D x v):Rel c x v
 | top (v:Value):Rel c .top v
 | val (v:Value) (hs:strOk v=true:=by first | rfl | assumption):Rel c (.val v) v
 | nils:Rel c .nils (.slice none 0 0)
 | agg (xs:List AV) (vs:Array Value) (hl:vs.size=xs.length) (ho:∀ (j:Nat) (v:Value),vs[j]?=some v→v.oneCell'=true)
   (h:∀ (j:Nat) (x:AV) (v:Value),xs[j]?=some x→vs[j]?=some v→Rel c x v):Rel c (.agg xs) (.agg vs)
 | tuple (xs:List AV) (vs:Array Value) (hl:vs.size=xs.length)
   (h:∀ (j:Nat) (x:AV) (v:Value),xs[j]?=some x→vs[j]?=some v→Rel c x v):Rel c (.tuple xs) (.tuple vs)
 | ptr (i off b:Nat) (h:c.blk i=some b):Rel c (.ptr i off) (.pointer (some ⟨b,off,none⟩))
 | eptr (cells:List AV) (b o:Nat) (g:Nat→Value) (hD:∀ (j:Nat) (x:AV),cells[j]?=some x→c.D b (o+j)=some (g j))
   (h:∀ (j:Nat) (x:AV),cells[j]?=some x→DRel c.D x (g j)):Rel c (.eptr cells) (.pointer (some ⟨b,o,none⟩))
 | mapr (i b:Nat) (h:c.blk i=some b):Rel c (.mapr i) (.map (some b))
 | fn (f:Fn) (ys xs:List AV) (us vs:Array Value) (hl':us.size=ys.length) (hl:vs.size=xs.length)
   (h':∀ (j:Nat) (x:AV) (v:Value),ys[j]?=some x→us[j]?=some v→Rel c x v)
   (h:∀ (j:Nat) (x:AV) (v:Value),xs[j]?=some x→vs[j]?=some v→Rel c x v):Rel c (.fn f ys xs) (.func f us vs)
 | iface (t:TypeId) (x:AV) (v:Value) (h:Rel c x v):Rel c (.iface t x) (.iface t v)
 | own (i n:Nat) (v:Value) (h:c.sl i n=some v) (ho:v.oneCell'=true):Rel c (.own i n) v
 | opt (g:Bool) (x:AV) (v:Value) (h:g=true→Rel c x v) (hn:g=false→v=undef):Rel c (.opt g x) v
 | optr (i n sz r q b o len cap:Nat) (h:c.sl i n=some (.slice (some ⟨b,o,none⟩) len cap)):Rel c (.optr i n sz r q) (.pointer (some ⟨b,o+(r * sz+q),none⟩))
theorem Rel.mono {c c':Ctx} (hc:c.le c') {x:AV} {v:Value} (h:Rel c x v):Rel c' x v:=by
 induction h with
 | data h=>exact .data (h.mono hc.D)
 | top v=>exact .top v
 | val v hs=>exact .val v hs
 | nils=>exact .nils
 | agg xs vs hl ho h ih=>exact .agg xs vs hl ho ih
 | tuple xs vs hl h ih=>exact .tuple xs vs hl ih
 | ptr i off b h=>exact .ptr i off b (hc.blk _ _ h)
 | eptr cells b o g hD h=>exact .eptr cells b o g (fun j x hx=>hc.D _ _ _ (hD j x hx)) (fun j x hx=>(h j x hx).mono hc.D)
 | mapr i b h=>exact .mapr i b (hc.blk _ _ h)
 | fn f ys xs us vs hl' hl h' h ih' ih=>exact .fn f ys xs us vs hl' hl ih' ih
 | iface t x v h ih=>exact .iface t x v ih
 | own i n v h ho=>exact .own i n v (hc.sl _ _ _ h) ho
 | opt g x v h hn ih=>exact .opt g x v ih hn
 | optr i n sz r q b o len cap h=>exact .optr i n sz r q b o len cap (hc.sl _ _ _ h)
mutual
def AV.under (n:Nat):AV→Bool
 | .top | .val _ | .nils | .slice _ | .eptr _=>true
 | .agg xs | .tuple xs=>qat n xs
 | .fn _ ys xs=>qat n ys&&qat n xs
 | .ptr i _ | .mapr i | .own i _ | .optr i _ _ _ _=>i<n
 | .iface _ v=>v.under n
 | .opt g v=>!g||v.under n
def qat (n:Nat):List AV→Bool
 | []=>true
 | x::xs=>x.under n&&qat n xs
end
theorem qbv {n:Nat}:∀ {xs:List AV},qat n xs=true↔∀ x,x∈xs→x.under n=true
 | []=>by simp [qat]
 | x::xs=>by simp [qat,qbv (xs:=xs)]
def Ctx.trunc (c:Ctx) (n:Nat):Ctx:={ D:=c.D,blk:=fun i=>if i<n then c.blk i else none,sl:=fun i m=>if i<n then c.sl i m else none }
theorem Rel.trunc {c:Ctx} {n:Nat} {x:AV} {v:Value} (h:Rel c x v):x.under n=true→Rel (c.trunc n) x v:=by
 induction h with
 | data h=>exact fun _=>.data h
 | top v=>exact fun _=>.top v
 | val v hs=>exact fun _=>.val v hs
 | nils=>exact fun _=>.nils
 | agg xs vs hl ho h ih =>
  intro hb
  simp only [AV.under,qbv] at hb
  exact .agg xs vs hl ho fun j x v hx hv=>ih j x v hx hv (hb x (List.mem_of_getElem? hx))
 | tuple xs vs hl h ih =>
  intro hb
  simp only [AV.under,qbv] at hb
  exact .tuple xs vs hl fun j x v hx hv=>ih j x v hx hv (hb x (List.mem_of_getElem? hx))
 | ptr i off b h =>
  intro hb
  simp [AV.under] at hb
  exact .ptr i off b (by simp [Ctx.trunc,hb,h])
 | eptr cells b o g hD h=>exact fun _=>.eptr cells b o g hD h
 | mapr i b h =>
  intro hb
  simp [AV.under] at hb
  exact .mapr i b (by simp [Ctx.trunc,hb,h])
 | fn f ys xs us vs hl' hl h' h ih' ih =>
  intro hb
  simp only [AV.under,qbv,Bool.and_eq_true] at hb
  exact .fn f ys xs us vs hl' hl (fun j x v hx hv=>ih' j x v hx hv (hb.1 x (List.mem_of_getElem? hx))) fun j x v hx hv=>ih j x v hx hv (hb.2 x (List.mem_of_getElem? hx))
 | iface t x v h ih=>exact fun hb=>.iface t x v (ih (by simpa [AV.under] using hb))
 | own i n v h ho =>
  intro hb
  simp [AV.under] at hb
  exact .own i n v (by simp [Ctx.trunc,hb,h]) ho
 | opt g x v h hn ih=>exact fun hb=>.opt g x v (fun hg=>ih hg (by simpa [AV.under,hg] using hb)) hn
 | optr i n sz r q b o len cap h =>
  intro hb
  simp [AV.under] at hb
  exact .optr i n sz r q b o len cap (by simp [Ctx.trunc,hb,h])
theorem Rel.under {c:Ctx} {n:Nat} (hd:∀ i,n≤i→c.blk i=none∧∀ m,c.sl i m=none) {x:AV} {v:Value} (h:Rel c x v):x.under n=true:=by
 induction h with
 | data h=>cases h<;>rfl
 | top v=>rfl
 | val v hs=>rfl
 | nils=>rfl
 | fn f ys xs us vs hl' hl h' h ih' ih =>
  simp only [AV.under,qbv,Bool.and_eq_true]
  constructor
  ·
   intro x hx
   obtain ⟨j,hj⟩:=List.getElem?_of_mem hx
   have hlt:j<us.size:=by rw [hl'];exact (List.getElem?_eq_some_iff.1 hj).1
   exact ih' j x us[j] hj (by simp [hlt])
  ·
   intro x hx
   obtain ⟨j,hj⟩:=List.getElem?_of_mem hx
   have hlt:j<vs.size:=by rw [hl];exact (List.getElem?_eq_some_iff.1 hj).1
   exact ih j x vs[j] hj (by simp [hlt])
 | agg xs vs hl ho h ih | tuple xs vs hl h ih =>
  simp only [AV.under,qbv]
  intro x hx
  obtain ⟨j,hj⟩:=List.getElem?_of_mem hx
  have hlt:j<vs.size:=by rw [hl];exact (List.getElem?_eq_some_iff.1 hj).1
  exact ih j x vs[j] hj (by simp [hlt])
 | ptr i off b h | mapr i b h =>
  simp only [AV.under,decide_eq_true_eq]
  rcases Nat.lt_or_ge i n with h1 | h1
  · exact h1
  · rw [(hd i h1).1] at h;cases h
 | eptr cells b o g hD h=>rfl
 | iface t x v h ih=>exact ih
 | own i m v h ho =>
  simp only [AV.under,decide_eq_true_eq]
  rcases Nat.lt_or_ge i n with h1 | h1
  · exact h1
  · rw [(hd i h1).2] at h;cases h
 | opt g x v h hn ih =>
  cases g with
  | false=>rfl
  | true=>simpa [AV.under] using ih rfl
 | optr i m sz r q b o len cap h =>
  simp only [AV.under,decide_eq_true_eq]
  rcases Nat.lt_or_ge i n with h1 | h1
  · exact h1
  · rw [(hd i h1).2] at h;cases h
inductive AObj where
 | none
 | cells (xs:List AV)
 | map (es:List (AV×AV))
 | arr (e:TypeId) (sz:Nat) (rows:List (List AV))
 | uarr (e:TypeId) (sz:Nat) (rows:List (List AV))
 | iter (s:ByteArray) (pos:Nat)
 | raw (g:Nat) (f:Array Value→Obj) (xs:List AV)
instance:Inhabited AObj:=⟨.none⟩
abbrev qaa:=List AObj
def qah (c:Ctx) (i:Nat):AObj→Option Nat
 | .none=>Option.none
 | .cells _ | .map _ | .iter _ _ | .raw _ _ _=>c.blk i
 | .arr _ _ rows | .uarr _ _ rows=>(c.sl i rows.length).bind Value.ownBlock
def AObj.shares (o:AObj) (j:Nat):Prop :=
 match o with
 | .arr _ sz rows=>j<rows.length * sz
 | _=>False
def ObjR (c:Ctx) (w:World) (i:Nat):AObj→Prop
 | .none=>True
 | .cells xs=>∃ b vs T,c.blk i=some b∧w.heap[b]?=some (.cells vs T (0,0))∧vs.size=xs.length ∧
   ∀ (j:Nat) (x:AV) (v:Value),xs[j]?=some x→vs[j]?=some v→Rel c x v∧v.oneCell'=true
 | .map es=>∃ b ces clock,c.blk i=some b∧w.heap[b]?=some (.map ces clock)∧ces.size=es.length ∧
   ∀ (j:Nat) (k x:AV) (ce:MapEntry),es[j]?=some (k,x)→ces[j]?=some ce→Rel c k ce.key∧Rel c x ce.val
 | .iter s pos=>∃ b,c.blk i=some b∧w.heap[b]?=some (.stringIter s pos)
 | .raw g f xs=>c.blk i=some g∧∃ vs,w.heap[g]?=some (f vs)∧vs.size=xs.length∧∀ (j:Nat) (x:AV) (v:Value),xs[j]?=some x→vs[j]?=some v→Rel c x v
 | .arr e sz rows=>∃ v vs,c.sl i rows.length=some v∧v.oneCell'=true∧(∀ m,rows.length<m→c.sl i m=Option.none)∧w.ownsRow 0 e sz v rows.length vs∧rows.length≤68719476736∧(∀ r,r∈rows→r.length=sz) ∧
   (∀ (i' j:Nat) (r:List AV) (x:AV),rows[i']?=some r→r[j]?=some x→∃ u,vs[i' * sz+j]?=some u∧DRel c.D x u) ∧
   ∀ b j,v.ownBlock=some b→j<rows.length * sz→∃ u,c.D b j=some u
 | .uarr e sz rows=>∃ v vs,c.sl i rows.length=some v∧v.oneCell'=true∧(∀ m,rows.length<m→c.sl i m=Option.none)∧w.ownsRow 0 e sz v rows.length vs∧rows.length≤68719476736∧(∀ r,r∈rows→r.length=sz) ∧
   (∀ (i' j:Nat) (r:List AV) (x:AV),rows[i']?=some r→r[j]?=some x→∃ u,vs[i' * sz+j]?=some u∧DRel c.D x u)
structure HSim (c:Ctx) (h:qaa) (w:World):Prop where
 data:∀ b j v,c.D b j=some v→w.cell? ⟨b,j,none⟩=some v
 dom:∀ i,h.length≤i→c.blk i=none∧∀ m,c.sl i m=none
 obj:∀ i o,h[i]?=some o→ObjR c w i o
 apart:∀ i j o o' b,h[i]?=some o→h[j]?=some o'→qah c i o=some b→qah c j o'=some b→i=j
 sep:∀ i o b j v,h[i]?=some o→qah c i o=some b→c.D b j=some v→o.shares j
structure Ent where
 N:Nat
 c:Ctx
 h:qaa
 w:World
structure Ent.ok (E:Ent) (c:Ctx) (h:qaa) (w:World):Prop where
 edom:∀ i,E.h.length≤i→E.c.blk i=none∧∀ m,E.c.sl i m=none
 ext:E.c.le c
 blk0:∀ n,n<E.h.length→c.blk n=E.c.blk n
 len:E.h.length≤h.length
 os:w.os=E.w.os
 tape:w.tape=E.w.tape
 output:w.output=E.w.output
 size:E.w.heap.size≤w.heap.size
 frame:∀ b,b<E.w.heap.size→(∀ i o,E.h[i]?=some o→qah E.c i o≠some b)→w.heap[b]?=E.w.heap[b]?
 newobj:∀ i o b,h[i]?=some o→qah c i o=some b→(∃ o0,E.h[i]?=some o0∧qah E.c i o0=some b)∨E.w.heap.size≤b
 dold:∀ b j v,c.D b j=some v→E.c.D b j=some v∨E.w.heap.size≤b∨∃ i o,E.h[i]?=some o∧qah E.c i o=some b
theorem Ent.ok.refl {c:Ctx} {h:qaa} {w:World} (N:Nat) (hs:HSim c h w):(⟨N,c,h,w⟩:Ent).ok c h w :=
 ⟨hs.dom,.refl c,fun _ _=>rfl,Nat.le_refl _,rfl,rfl,rfl,Nat.le_refl _,fun _ _ _=>rfl,fun _ o _ ho hb=>.inl ⟨o,ho,hb⟩,fun _ _ _ h=>.inl h⟩
theorem Ent.ok.trans {E:Ent} {c c':Ctx} {h h':qaa} {w w':World} {N:Nat} (k:E.ok c h w) (k':(⟨N,c,h,w⟩:Ent).ok c' h' w'):E.ok c' h' w' where
 edom:=k.edom
 ext:=k.ext.trans k'.ext
 blk0:=fun n hn=>(k'.blk0 n (Nat.lt_of_lt_of_le hn k.len)).trans (k.blk0 n hn)
 len:=Nat.le_trans k.len k'.len
 os:=k'.os.trans k.os
 tape:=k'.tape.trans k.tape
 output:=k'.output.trans k.output
 size:=Nat.le_trans k.size k'.size
 frame:=fun b hb hno=>(k'.frame b (Nat.lt_of_lt_of_le hb k.size) fun i o ho hbk=>by
   rcases k.newobj i o b ho hbk with ⟨o0,h0,h1⟩ | h2
   · exact hno i o0 h0 h1
   · omega).trans (k.frame b hb hno)
 newobj:=fun i o b ho hb=>by
  rcases k'.newobj i o b ho hb with ⟨o0,h0,h1⟩ | h2
  ·
   rcases k.newobj i o0 b h0 h1 with h3 | h3
   · exact .inl h3
   · exact .inr h3
  · exact .inr (Nat.le_trans k.size h2)
 dold:=fun b j v hD=>by
  rcases k'.dold b j v hD with h | h | ⟨i,o,h1,h2⟩
  · exact k.dold b j v h
  · exact .inr (.inl (Nat.le_trans k.size h))
  ·
   rcases k.newobj i o b h1 h2 with ⟨o0,g0,g1⟩ | g
   · exact .inr (.inr ⟨i,o0,g0,g1⟩)
   · exact .inr (.inl g)
inductive AEnd where
 | ret (v:AV)
 | panic (v:AV)
def EndR (c:Ctx):AEnd→Ending→Prop
 | .ret x,.returned v=>Rel c x v
 | .panic x,.panicked [⟨v,false,false⟩]=>Rel c x v
 | _,_=>False
def RelL (c:Ctx) (xs:List AV) (vs:Array Value):Prop:=vs.size=xs.length∧∀ (j:Nat) (x:AV) (v:Value),xs[j]?=some x→vs[j]?=some v→Rel c x v
def Enter (P:Program) (f:FuncId):Prop:=∃ fn,P.funcs[f]?=some fn∧fn.body.isSome=true∧(fn.name == "runtime.NumGoroutine")=false
def ACalls (P:Program) (f:FuncId) (args:List AV) (h:qaa) (R:AEnd→qaa→Prop):Prop :=
 Enter P f∧∀ (c:Ctx) (w:World) (vs:Array Value),HSim c h w→RelL c args vs →
  Calls P f vs w fun e w'=>∃ r h' c',R r h'∧EndR c' r e∧HSim c' h' w'∧(⟨0,c,h,w⟩:Ent).ok c' h' w'
def APure (P:Program) (f:FuncId) (args:List AV) (r:AV):Prop:=∀ h,ACalls P f args h fun e h'=>e=.ret r∧h'=h
theorem ACalls.mono {P:Program} {f:FuncId} {args:List AV} {h:qaa} {R R':AEnd→qaa→Prop} (k:ACalls P f args h R) (hr:∀ r h',R r h'→R' r h'):ACalls P f args h R' :=
 ⟨k.1,fun c w vs hs ha=>(k.2 c w vs hs ha).mono fun _ _ ⟨r,h',c',a,b⟩=>⟨r,h',c',hr _ _ a,b⟩⟩
structure Env where
 t:List (Nat×AV)
 h:qaa
def qa5:List (Nat×AV)→Nat→AV
 | [],_=>.top
 | (j,x)::l,i=>bif j == i then x else qa5 l i
def liftC:Value→AV
 | .slice none 0 0=>.nils
 | .string s=>if s.size≤68719476736 then .val (.string s) else .top
 | v=>.val v
theorem liftC_rel (c:Ctx) (v:Value):Rel c (liftC v) v:=by
 unfold liftC
 split
 · exact .nils
 ·
  split
  · rename_i h;exact .val _ (by simp [strOk,h])
  · exact .top _
 ·
  rename_i h1 h2
  refine .val _ ?_
  unfold strOk
  split
  · exact (h2 _ rfl).elim
  · rfl
def oneList (l:List Value):Bool:=l.all (·.oneCell')
def liftK:Value→AV
 | .agg ⟨vs⟩=>match oneList vs with
  | true=>.agg (vs.map liftC)
  | false=>.val (.agg ⟨vs⟩)
 | v=>liftC v
theorem liftK_rel (c:Ctx) (v:Value):Rel c (liftK v) v:=by
 unfold liftK
 split
 ·
  rename_i vs
  split
  ·
   rename_i h
   simp only [oneList,List.all_eq_true] at h
   refine .agg _ _ (by simp) (fun j v hv=>h v (List.mem_of_getElem? (by simpa using hv))) fun j x v hx hv=>?_
   simp only [List.getElem?_map,Option.map_eq_some_iff] at hx
   obtain ⟨u,hu,rfl⟩:=hx
   have:vs[j]?=some v:=by simpa using hv
   rw [hu] at this
   cases this
   exact liftC_rel c _
  · exact .val _
 · exact liftC_rel c _
def Env.get (e:Env):Operand→AV
 | .tmp i=>qa5 e.t i
 | .const v=>liftK v
 | .global _=>.top
 | .func f=>.fn (.func f) [] []
def Env.put (e:Env):Option Tmp→AV→Env
 | some d,x=>{ e with t:=(d,x)::e.t }
 | none,_=>e
structure Sim (N:Nat) (c:Ctx) (e:Env) (a:Act) (w:World):Prop where
 defers:a.defers=[]
 size:a.tmps.size=N
 tmps:∀ i,Rel c (qa5 e.t i) (a.tmps.getD i undef)
 hs:HSim c e.h w
theorem Sim.eval {N:Nat} {c:Ctx} {e:Env} {a:Act} {w:World} (s:Sim N c e a w) (x:Operand):Rel c (e.get x) (a.eval x):=by
 cases x with
 | tmp i=>exact s.tmps i
 | const v=>exact liftK_rel c v
 | global g=>exact .top _
 | func f=>exact .fn _ [] [] #[] #[] rfl rfl (by simp) (by simp)
theorem Sim.put {N:Nat} {c c':Ctx} {e:Env} {h':qaa} {a:Act} {w w':World} (s:Sim N c e a w) (hc:c.le c') (hs:HSim c' h' w') {d:Option Tmp} (hd:∀ i,d=some i→i<N) {x:AV} {v:Value}
  (hx:Rel c' x v):Sim N c' (({ e with h:=h' }:Env).put d x) (a.put d v) w':=by
 cases d with
 | none=>exact ⟨s.defers,s.size,fun i=>(s.tmps i).mono hc,hs⟩
 | some d =>
  refine ⟨s.defers,by simp [Act.put,s.size],fun i=>?_,hs⟩
  have hd':=hd d rfl
  have hlt:d<a.tmps.size:=by rw [s.size];exact hd'
  by_cases hi:d=i
  ·
   subst hi
   simp [Env.put,qa5,Act.put,hlt,hx]
  ·
   have h1:(d == i)=false:=by simpa using hi
   simp only [Env.put,qa5,h1,cond_false,Act.put]
   have:=(s.tmps i).mono hc
   simpa [Array.getD_eq_getD_getElem?,Array.getElem?_setIfInBounds_ne hi] using this
inductive AExit where
 | normal
 | exit (id:Nat)
 | ret
 | panic (v:AV)
def XR (c:Ctx):AExit→Exit→Prop
 | .normal,.normal=>True
 | .exit i,.exit j=>i=j
 | .ret,.ret=>True
 | .panic x,.panic [⟨v,false,false⟩]=>Rel c x v
 | _,_=>False
def conc (E:Ent) (Q:AExit→Env→Prop):Exit→Act→World→Prop :=
 fun x a w=>∃ x' e c,Q x' e∧XR c x' x∧Sim E.N c e a w∧E.ok c e.h w
def AWp (P:Program) (E:Ent) (code:Code) (Q:AExit→Env→Prop) (e:Env):Prop :=
 ∀ c a w,Sim E.N c e a w→E.ok c e.h w→code.wp P (conc E Q) a w
def AOps (P:Program) (E:Ent) (ops:Array Oper) (l:List Oper) (Q:AExit→Env→Prop) (e:Env):Prop :=
 ∀ c a w,Sim E.N c e a w→E.ok c e.h w→wpList P ops (conc E Q) l a w
end Go.Abs

namespace Go.Abs
def AV.Wk (x y:AV):Prop:=∀ c v,Rel c x v→Rel c y v
theorem AV.Wk.refl (x:AV):x.Wk x:=fun _ _ h=>h
theorem AV.Wk.trans {x y z:AV} (h:x.Wk y) (k:y.Wk z):x.Wk z:=fun c v r=>k c v (h c v r)
theorem AV.Wk.top (x:AV):x.Wk .top:=fun _ v _=>.top v
theorem AV.Wk.nils:AV.nils.Wk (.slice []):=fun _ _ h=>by
 cases h with
 | data h=>cases h
 | nils=>exact .data .nil
theorem AV.Wk.opt (x:AV):(AV.opt true x).Wk x:=fun _ _ h=>by
 cases h with
 | data h=>cases h
 | opt g x v h hn=>exact h rfl
def wkL:List AV→List AV→Prop
 | [],[]=>True
 | x::xs,y::ys=>x.Wk y∧wkL xs ys
 | _,_=>False
theorem wkL.refl:∀ xs,wkL xs xs
 | []=>trivial
 | x::xs=>⟨.refl x,wkL.refl xs⟩
theorem wkL.length:∀ {xs ys:List AV},wkL xs ys→xs.length=ys.length
 | [],[],_=>rfl
 | _::_,_::_,h=>by simp [wkL.length h.2]
theorem wkL.get:∀ {xs ys:List AV},wkL xs ys→∀ (j:Nat) (y:AV),ys[j]?=some y→∃ x,xs[j]?=some x∧x.Wk y
 | [],[],_,j,y,h=>by simp at h
 | x::xs,z::ys,h,0,y,hj=>by simp at hj;subst hj;exact ⟨x,by simp,h.1⟩
 | x::xs,z::ys,h,j+1,y,hj=>by
  obtain ⟨x',h1,h2⟩:=h.2.get j y (by simpa using hj)
  exact ⟨x',by simpa using h1,h2⟩
theorem AV.Wk.agg {xs ys:List AV} (h:wkL xs ys):(AV.agg xs).Wk (.agg ys):=fun c v r=>by
 cases r with
 | data h=>cases h
 | agg xs vs hl ho hr =>
  refine .agg ys vs (by rw [hl,h.length]) ho fun j y v hy hv=>?_
  obtain ⟨x,hx,hw⟩:=h.get j y hy
  exact hw c v (hr j x v hx hv)
theorem AV.Wk.tuple {xs ys:List AV} (h:wkL xs ys):(AV.tuple xs).Wk (.tuple ys):=fun c v r=>by
 cases r with
 | data h=>cases h
 | tuple xs vs hl hr =>
  refine .tuple ys vs (by rw [hl,h.length]) fun j y v hy hv=>?_
  obtain ⟨x,hx,hw⟩:=h.get j y hy
  exact hw c v (hr j x v hx hv)
theorem AV.Wk.iface {x y:AV} (t:TypeId) (h:x.Wk y):(AV.iface t x).Wk (.iface t y):=fun c v r=>by
 cases r with
 | data h=>cases h
 | iface t x v hr=>exact .iface t y v (h c v hr)
def ObjWk:AObj→AObj→Prop
 | .cells xs,.cells ys=>wkL xs ys
 | _,.none=>True
 | o,o'=>o=o'
theorem ObjWk.refl (o:AObj):ObjWk o o:=by
 cases o<;>simp [ObjWk]
 exact wkL.refl _
def hwk:qaa→qaa→Prop
 | _,[]=>True
 | o::l,o'::l'=>ObjWk o o'∧hwk l l'
 | [],_::_=>False
theorem hwk.refl:∀ h,hwk h h
 | []=>trivial
 | o::l=>⟨.refl o,hwk.refl l⟩
theorem hwk.app {l l':qaa} (k:hwk l l'):∀ h,hwk (h++l) (h++l')
 | []=>k
 | o::h=>⟨.refl o,hwk.app k h⟩
theorem hwk.app0 {l:qaa}:∀ h,hwk (h++l) h
 | []=>by cases l<;>trivial
 | o::h=>⟨.refl o,hwk.app0 h⟩
theorem hwk.get:∀ {h h':qaa},hwk h h'→∀ (i:Nat) (o':AObj),h'[i]?=some o'→∃ o,h[i]?=some o∧ObjWk o o'
 | h,[],_,i,o',hi=>by simp at hi
 | [],_::_,k,_,_,_=>k.elim
 | o::l,p::l',k,0,o',hi=>by simp at hi;subst hi;exact ⟨o,by simp,k.1⟩
 | o::l,p::l',k,i+1,o',hi=>by
  obtain ⟨q,h1,h2⟩:=k.2.get i o' (by simpa using hi)
  exact ⟨q,by simpa using h1,h2⟩
def AObj.under (n:Nat):AObj→Bool
 | .cells xs=>qat n xs
 | .map es=>es.all fun p=>p.1.under n&&p.2.under n
 | .raw _ _ xs=>qat n xs
 | _=>true
def hUnder (n:Nat):qaa→Bool
 | []=>true
 | o::l=>o.under n&&hUnder n l
theorem hUnder_iff {n:Nat}:∀ {h:qaa},hUnder n h=true↔∀ o,o∈h→o.under n=true
 | []=>by simp [hUnder]
 | o::l=>by simp [hUnder,hUnder_iff (h:=l)]
theorem qaw {n:Nat}:∀ {h l:qaa},hUnder n (h++l)=(hUnder n h&&hUnder n l)
 | [],l=>by simp [hUnder]
 | o::h,l=>by simp [hUnder,qaw (h:=h),Bool.and_assoc]
mutual
theorem AV.under_mono {n m:Nat} (hm:n≤m):∀ (x:AV),x.under n=true→x.under m=true
 | .top,_ | .val _,_ | .nils,_ | .slice _,_ | .eptr _,_=>rfl
 | .agg xs,h | .tuple xs,h=>by simp only [AV.under] at h ⊢;exact qbq hm xs h
 | .fn _ ys xs,h=>by simp only [AV.under,Bool.and_eq_true] at h ⊢;exact ⟨qbq hm ys h.1,qbq hm xs h.2⟩
 | .ptr i _,h | .mapr i,h | .own i _,h | .optr i _ _ _ _,h=>by simp only [AV.under,decide_eq_true_eq] at h ⊢;omega
 | .iface _ v,h=>by simp only [AV.under] at h ⊢;exact AV.under_mono hm v h
 | .opt g v,h=>by
  cases g with
  | false=>rfl
  | true=>simp only [AV.under,Bool.not_true,Bool.false_or] at h ⊢;exact AV.under_mono hm v h
theorem qbq {n m:Nat} (hm:n≤m):∀ (xs:List AV),qat n xs=true→qat m xs=true
 | [],_=>rfl
 | x::xs,h=>by
  simp only [qat,Bool.and_eq_true] at h ⊢
  exact ⟨AV.under_mono hm x h.1,qbq hm xs h.2⟩
end
theorem qa1 {n m:Nat} (hm:n≤m) {h:qaa} (k:hUnder n h=true):hUnder m h=true:=by
 rw [hUnder_iff] at k ⊢
 intro o ho
 have:=k o ho
 cases o with
 | none=>rfl
 | cells xs=>exact qbq hm xs this
 | map es =>
  simp only [AObj.under,List.all_eq_true,Bool.and_eq_true] at this ⊢
  exact fun p hp=>⟨AV.under_mono hm _ (this p hp).1,AV.under_mono hm _ (this p hp).2⟩
 | arr e sz rows=>rfl
 | uarr e sz rows=>rfl
 | iter s pos=>rfl
 | raw g f xs=>exact qbq hm xs this
theorem HSim.hUnder {c:Ctx} {h:qaa} {w:World} (s:HSim c h w):Abs.hUnder h.length h=true:=by
 rw [hUnder_iff]
 intro o ho
 obtain ⟨i,hi⟩:=List.getElem?_of_mem ho
 have k:=s.obj i o hi
 cases o with
 | none=>rfl
 | arr=>rfl
 | uarr=>rfl
 | iter=>rfl
 | raw g f xs =>
  obtain ⟨h1,vs,h2,h3,h4⟩:=k
  simp only [AObj.under,qbv]
  intro x hx
  obtain ⟨j,hj⟩:=List.getElem?_of_mem hx
  have hlt:j<vs.size:=by rw [h3];exact (List.getElem?_eq_some_iff.1 hj).1
  exact (h4 j x vs[j] hj (by simp [hlt])).under s.dom
 | cells xs =>
  obtain ⟨b,vs,T,h1,h2,h3,h4⟩:=k
  simp only [AObj.under,qbv]
  intro x hx
  obtain ⟨j,hj⟩:=List.getElem?_of_mem hx
  have hlt:j<vs.size:=by rw [h3];exact (List.getElem?_eq_some_iff.1 hj).1
  exact (h4 j x vs[j] hj (by simp [hlt])).1.under s.dom
 | map es =>
  obtain ⟨b,ces,clock,h1,h2,h3,h4⟩:=k
  simp only [AObj.under,List.all_eq_true,Bool.and_eq_true]
  intro p hp
  obtain ⟨j,hj⟩:=List.getElem?_of_mem hp
  have hlt:j<ces.size:=by rw [h3];exact (List.getElem?_eq_some_iff.1 hj).1
  have:=h4 j p.1 p.2 ces[j] hj (by simp [hlt])
  exact ⟨this.1.under s.dom,this.2.under s.dom⟩
theorem objBlk_trunc {c:Ctx} {n i:Nat} (hi:i<n) (o:AObj):qah (c.trunc n) i o=qah c i o:=by
 cases o<;>simp [qah,Ctx.trunc,hi]
theorem objBlk_wk {c:Ctx} {i:Nat} {o o':AObj} (k:ObjWk o o') {b:Nat} (h:qah c i o'=some b):qah c i o=some b:=by
 cases o<;>cases o'<;>simp_all [ObjWk,qah]
theorem ObjWk.shares {o o':AObj} (k:ObjWk o o') {c:Ctx} {i b:Nat} (hb:qah c i o'=some b) (j:Nat) (h:o.shares j):o'.shares j:=by
 cases o<;>cases o'<;>simp_all [ObjWk,AObj.shares,qah]
def Wk (E:Ent) (e e1:Env):Prop:=∀ c a w,Sim E.N c e a w→E.ok c e.h w→∃ c1,Sim E.N c1 e1 a w∧E.ok c1 e1.h w
theorem Wk.refl (E:Ent) (e:Env):Wk E e e:=fun c _ _ h k=>⟨c,h,k⟩
theorem Wk.trans {E:Ent} {e e1 e2:Env} (h:Wk E e e1) (k:Wk E e1 e2):Wk E e e2:=fun c a w s o =>
 let ⟨c1,s1,o1⟩:=h c a w s o
 k c1 a w s1 o1
def wkT (n:Nat) (t:List (Nat×AV)):List (Nat×AV)→Prop
 | []=>True
 | (i,x)::l=>(qa5 t i).Wk x∧x.under n=true∧wkT n t l
theorem wkT.look {n:Nat} {t:List (Nat×AV)}:∀ {l:List (Nat×AV)},wkT n t l→∀ i,(qa5 t i).Wk (qa5 l i)∧(qa5 l i).under n=true
 | [],_,i=>⟨.top _,rfl⟩
 | (j,x)::l,h,i=>by
  by_cases hj:j=i
  · subst hj;simp only [qa5,beq_self_eq_true,cond_true];exact ⟨h.1,h.2.1⟩
  ·
   have:(j == i)=false:=by simpa using hj
   simp only [qa5,this,cond_false]
   exact wkT.look h.2.2 i
theorem Wk.mk {E:Ent} {e e1:Env} (hn:E.h.length≤e1.h.length) (hh:hwk e.h e1.h) (hu:hUnder e1.h.length e1.h=true) (ht:wkT e1.h.length e.t e1.t):Wk E e e1:=by
 intro c a w s o
 have hobj:∀ (i:Nat) (o':AObj),e1.h[i]?=some o'→i<e1.h.length:=fun i o' hi=>(List.getElem?_eq_some_iff.1 hi).1
 refine ⟨c.trunc e1.h.length,⟨s.defers,s.size,fun i=>?_,?_⟩,?_⟩
 ·
  have:=ht.look i
  exact (this.1 c _ (s.tmps i)).trunc this.2
 ·
  refine ⟨s.hs.data,fun i hi=>⟨by simp [Ctx.trunc,Nat.not_lt.2 hi],fun m=>by simp [Ctx.trunc,Nat.not_lt.2 hi]⟩,fun i o' hi=>?_,fun i j o' p b hi hj hb hb'=>?_,fun i o' b j v hi hb hD=>?_⟩
  ·
   have hlt:=hobj i o' hi
   obtain ⟨p,hp,hw⟩:=hh.get i o' hi
   have k:=s.hs.obj i p hp
   have hun:o'.under e1.h.length=true:=hUnder_iff.1 hu o' (List.mem_of_getElem? hi)
   cases o' with
   | none=>trivial
   | cells ys =>
    cases p with
    | cells xs =>
     obtain ⟨b,vs,T,h1,h2,h3,h4⟩:=k
     simp only [ObjWk] at hw
     simp only [AObj.under,qbv] at hun
     refine ⟨b,vs,T,by simp [Ctx.trunc,hlt,h1],h2,by rw [h3,hw.length],fun j y v hy hv=>?_⟩
     obtain ⟨x,hx,hwk⟩:=hw.get j y hy
     have:=h4 j x v hx hv
     exact ⟨(hwk c v this.1).trunc (hun y (List.mem_of_getElem? hy)),this.2⟩
    | _=>simp [ObjWk] at hw
   | map es =>
    have:p=.map es:=by cases p<;>simp_all [ObjWk]
    subst this
    obtain ⟨b,ces,clock,h1,h2,h3,h4⟩:=k
    simp only [AObj.under,List.all_eq_true,Bool.and_eq_true] at hun
    refine ⟨b,ces,clock,by simp [Ctx.trunc,hlt,h1],h2,h3,fun j kk x ce hy hv=>?_⟩
    have:=h4 j kk x ce hy hv
    have hm:=hun _ (List.mem_of_getElem? hy)
    exact ⟨this.1.trunc hm.1,this.2.trunc hm.2⟩
   | iter s pos =>
    have:p=.iter s pos:=by cases p<;>simp_all [ObjWk]
    subst this
    obtain ⟨b,h1,h2⟩:=k
    exact ⟨b,by simp [Ctx.trunc,hlt,h1],h2⟩
   | raw g f xs =>
    have:p=.raw g f xs:=by cases p<;>simp_all [ObjWk]
    subst this
    obtain ⟨h1,vs,h2,h3,h4⟩:=k
    simp only [AObj.under,qbv] at hun
    exact ⟨by simp [Ctx.trunc,hlt,h1],vs,h2,h3,fun j x v hx hv=>(h4 j x v hx hv).trunc (hun x (List.mem_of_getElem? hx))⟩
   | arr t sz rows =>
    have:p=.arr t sz rows:=by cases p<;>simp_all [ObjWk]
    subst this
    obtain ⟨v,vs,h1,ho,hm,h2⟩:=k
    exact ⟨v,vs,by simp [Ctx.trunc,hlt,h1],ho,fun m hm'=>by simp [Ctx.trunc,hlt,hm m hm'],h2⟩
   | uarr t sz rows =>
    have:p=.uarr t sz rows:=by cases p<;>simp_all [ObjWk]
    subst this
    obtain ⟨v,vs,h1,ho,hm,h2⟩:=k
    exact ⟨v,vs,by simp [Ctx.trunc,hlt,h1],ho,fun m hm'=>by simp [Ctx.trunc,hlt,hm m hm'],h2⟩
  ·
   obtain ⟨o1,h1,w1⟩:=hh.get i o' hi
   obtain ⟨o2,h2,w2⟩:=hh.get j p hj
   rw [objBlk_trunc (hobj i o' hi)] at hb
   rw [objBlk_trunc (hobj j p hj)] at hb'
   exact s.hs.apart i j o1 o2 b h1 h2 (objBlk_wk w1 hb) (objBlk_wk w2 hb')
  ·
   obtain ⟨o1,h1,w1⟩:=hh.get i o' hi
   rw [objBlk_trunc (hobj i o' hi)] at hb
   exact w1.shares hb j (s.hs.sep i o1 b j v h1 (objBlk_wk w1 hb) hD)
 ·
  refine ⟨o.edom,⟨o.ext.D,fun i b hb=>?_,fun i n v hv=>?_⟩,fun n hlt=>by simp only [Ctx.trunc];rw [if_pos (by omega)];exact o.blk0 n hlt,hn,o.os,o.tape,o.output,o.size,o.frame,fun i o' b hi hb=>?_,o.dold⟩
  ·
   have hi:i<e1.h.length:=by
    rcases Nat.lt_or_ge i e1.h.length with h | h
    · exact h
    · rw [(o.edom i (Nat.le_trans hn h)).1] at hb;cases hb
   simp [Ctx.trunc,hi,o.ext.blk i b hb]
  ·
   have hi:i<e1.h.length:=by
    rcases Nat.lt_or_ge i e1.h.length with h | h
    · exact h
    · rw [(o.edom i (Nat.le_trans hn h)).2] at hv;cases hv
   simp [Ctx.trunc,hi,o.ext.sl i n v hv]
  ·
   obtain ⟨o1,h1,w1⟩:=hh.get i o' hi
   rw [objBlk_trunc (hobj i o' hi)] at hb
   exact o.newobj i o1 b h1 (objBlk_wk w1 hb)
section rules
variable {P:Program} {E:Ent} {Q:AExit→Env→Prop} {e:Env}
def AExit.then (K:Env→Prop) (Q:AExit→Env→Prop):AExit→Env→Prop
 | .normal,e=>K e
 | x,e=>Q x e
def AExit.inBlock (id:Nat) (Q:AExit→Env→Prop):AExit→Env→Prop
 | .exit i,e=>if i=id then Q .normal e else Q (.exit i) e
 | x,e=>Q x e
theorem AWp.mono {c:Code} {Q':AExit→Env→Prop} (h:AWp P E c Q e) (hq:∀ x e,Q x e→Q' x e):AWp P E c Q' e :=
 fun k a w s o=>wp_mono (h k a w s o) fun _ _ _ ⟨x',e',c',q,r⟩=>⟨x',e',c',hq _ _ q,r⟩
theorem awp_skip (h:Q .normal e):AWp P E .skip Q e:=fun c _ _ s o=>wp_skip ⟨.normal,e,c,h,trivial,s,o⟩
theorem awp_ret (h:Q .ret e):AWp P E .ret Q e:=fun c _ _ s o=>wp_ret ⟨.ret,e,c,h,trivial,s,o⟩
theorem awp_exit {id:Nat} (h:Q (.exit id) e):AWp P E (.exit id) Q e:=fun c _ _ s o=>wp_exit ⟨.exit id,e,c,h,rfl,s,o⟩
theorem qa6 {x y:Code} (h:AWp P E x (AExit.then (AWp P E y Q) Q) e):AWp P E (.seq x y) Q e:=fun c a w s o=>by
 refine wp_seq (wp_mono (h c a w s o) ?_)
 rintro ex a' w' ⟨x',e',c',hq,hx,hs',ok'⟩
 cases x' with
 | normal=>cases ex<;>simp only [XR] at hx;exact hq c' a' w' hs' ok'
 | exit i=>cases ex<;>simp only [XR] at hx;exact ⟨.exit i,e',c',hq,hx,hs',ok'⟩
 | ret=>cases ex<;>simp only [XR] at hx;exact ⟨.ret,e',c',hq,trivial,hs',ok'⟩
 | panic v =>
  cases ex with
  | panic ch=>exact ⟨.panic v,e',c',hq,hx,hs',ok'⟩
  | _=>simp only [XR] at hx
theorem awp_block {id:Nat} {b:Code} (h:AWp P E b (AExit.inBlock id Q) e):AWp P E (.block id b) Q e:=fun c a w s o=>by
 refine wp_block (wp_mono (h c a w s o) ?_)
 rintro ex a' w' ⟨x',e',c',hq,hx,hs',ok'⟩
 cases x' with
 | normal=>cases ex<;>simp only [XR] at hx;exact ⟨.normal,e',c',hq,trivial,hs',ok'⟩
 | exit i =>
  cases ex with
  | exit j =>
   simp only [XR] at hx
   subst hx
   simp only [Exit.inBlock]
   simp only [AExit.inBlock] at hq
   split
   · rename_i hi;rw [if_pos hi] at hq;exact ⟨.normal,e',c',hq,trivial,hs',ok'⟩
   · rename_i hi;rw [if_neg hi] at hq;exact ⟨.exit i,e',c',hq,rfl,hs',ok'⟩
  | _=>simp only [XR] at hx
 | ret=>cases ex<;>simp only [XR] at hx;exact ⟨.ret,e',c',hq,trivial,hs',ok'⟩
 | panic v =>
  cases ex with
  | panic ch=>exact ⟨.panic v,e',c',hq,hx,hs',ok'⟩
  | _=>simp only [XR] at hx
theorem Rel.bool {c:Ctx} {b:Bool} {v:Value} (h:Rel c (.val (.bool b)) v):v=.bool b:=by
 cases h with
 | data h=>cases h;rfl
 | val=>rfl
theorem awp_cond {x:Operand} {t f:Code} {b:Bool} (hb:e.get x=.val (.bool b)) (ht:b=true→AWp P E t Q e) (hf:b=false→AWp P E f Q e):AWp P E (.cond x t f) Q e :=
 fun c a w s o=>wp_cond_split (Rel.bool (hb▸s.eval x)) (fun h=>ht h c a w s o) (fun h=>hf h c a w s o)
theorem wp_loop_by {ι:Type} {c:Code} {Q:Exit→Act→World→Prop} {a:Act} {w:World} (I:ι→Act→World→Prop) (μ:ι→Nat) (i0:ι) (h₀:I i0 a w)
  (round:∀ i a w,I i a w→c.wp P (Exit.then (fun a' w'=>∃ j,I j a' w'∧μ j<μ i) Q) a w):(Code.loop c).wp P Q a w:=by
 intro b k cs
 have key:∀ n i a w,μ i=n→I i a w→∃ e a' w',Q e a' w'∧Arrives P (lone (b.at a (.code c::.inLoop c::k)) cs w) b k cs e a' w':=by
  intro n
  induction n using Nat.strongRecOn with
  | _ n ih =>
   intro i a w hn hI
   obtain ⟨e,a₁,w₁,hq,harr⟩:=round i a w hI b (.inLoop c::k) cs
   cases e with
   | normal =>
    obtain ⟨j,hI₁,hlt⟩:=hq
    obtain ⟨e₂,a₂,w₂,hq₂,harr₂⟩:=ih (μ j) (hn▸hlt) j a₁ w₁ rfl hI₁
    exact ⟨e₂,a₂,w₂,hq₂,.of_steps (Steps.trans harr (.one step_inLoop)) harr₂⟩
   | exit id=>exact ⟨_,a₁,w₁,hq,.pass (x:=.inLoop c) rfl (fun _ _=>.inl (by simp)) harr⟩
   | goto l=>exact ⟨_,a₁,w₁,hq,.pass (x:=.inLoop c) rfl (fun _ _=>.inl (by simp)) harr⟩
   | ret=>exact ⟨_,a₁,w₁,hq,.pass (x:=.inLoop c) rfl (fun _ _=>.inl (by simp)) harr⟩
   | panic ch=>exact ⟨_,a₁,w₁,hq,.pass (x:=.inLoop c) rfl (fun _ _=>.inl (by simp)) harr⟩
   | outgrown=>exact ⟨_,a₁,w₁,hq,.pass (x:=.inLoop c) rfl (fun _ _=>.inl (by simp)) harr⟩
 obtain ⟨e,a',w',hq,harr⟩:=key _ i0 a w rfl h₀
 exact ⟨e,a',w',hq,.of_steps (.one step_loop) harr⟩
theorem awp_loop {ι:Type} {b:Code} (I:ι→Prop) (S:ι→Env) (μ:ι→Nat) (i0:ι) (h0:I i0) (hw:Wk E e (S i0))
  (round:∀ i,I i→AWp P E b (AExit.then (fun e'=>∃ j,I j∧μ j<μ i∧Wk E e' (S j)) Q) (S i)):AWp P E (.loop b) Q e:=fun c a w s o=>by
 refine wp_loop_by (ι:=ι) (fun i a w=>I i∧∃ c,Sim E.N c (S i) a w∧E.ok c (S i).h w) μ i0 ⟨h0,hw c a w s o⟩ ?_
 rintro i a w ⟨hI,c,s,o⟩
 refine wp_mono (round i hI c a w s o) ?_
 rintro ex a' w' ⟨x',e',c',hq,hx,hs',ok'⟩
 cases x' with
 | normal =>
  cases ex<;>simp only [XR] at hx
  obtain ⟨j,hj,hlt,hwk⟩:=hq
  exact ⟨j,⟨hj,hwk c' a' w' hs' ok'⟩,hlt⟩
 | exit i=>cases ex<;>simp only [XR] at hx;exact ⟨.exit i,e',c',hq,hx,hs',ok'⟩
 | ret=>cases ex<;>simp only [XR] at hx;exact ⟨.ret,e',c',hq,trivial,hs',ok'⟩
 | panic v =>
  cases ex with
  | panic ch=>exact ⟨.panic v,e',c',hq,hx,hs',ok'⟩
  | _=>simp only [XR] at hx
theorem awp_region {id:Nat} {ops:Array Oper} (h:AOps P E ops ops.toList Q e):AWp P E (.region id ops false) Q e :=
 fun c a w s o=>wp_region_list (h c a w s o)
theorem aops_nil {ops:Array Oper} (h:Q .normal e):AOps P E ops [] Q e:=fun c _ _ s o=>⟨.normal,e,c,h,trivial,s,o⟩
end rules
end Go.Abs

namespace Go.Abs
theorem ObjR.lt {c:Ctx} {w:World} {i:Nat} {o:AObj} (k:ObjR c w i o) {b:Nat} (hb:qah c i o=some b):b<w.heap.size:=by
 cases o with
 | none=>simp [qah] at hb
 | cells xs =>
  obtain ⟨b',vs,T,h1,h2,_⟩:=k
  simp only [qah,h1,Option.some.injEq] at hb
  subst hb
  exact (Array.getElem?_eq_some_iff.1 h2).1
 | map es =>
  obtain ⟨b',vs,T,h1,h2,_⟩:=k
  simp only [qah,h1,Option.some.injEq] at hb
  subst hb
  exact (Array.getElem?_eq_some_iff.1 h2).1
 | iter s pos =>
  obtain ⟨b',h1,h2⟩:=k
  simp only [qah,h1,Option.some.injEq] at hb
  subst hb
  exact (Array.getElem?_eq_some_iff.1 h2).1
 | raw g f xs =>
  obtain ⟨h1,vs,h2,_⟩:=k
  simp only [qah,h1,Option.some.injEq] at hb
  subst hb
  exact (Array.getElem?_eq_some_iff.1 h2).1
 | arr e sz rows =>
  obtain ⟨v,vs,h1,_,_,h2,_⟩:=k
  simp only [qah,h1,Option.bind_some] at hb
  exact (h2.lt b hb).2
 | uarr e sz rows =>
  obtain ⟨v,vs,h1,_,_,h2,_⟩:=k
  simp only [qah,h1,Option.bind_some] at hb
  exact (h2.lt b hb).2
theorem ObjR.blk {c c':Ctx} {w:World} {i:Nat} {o:AObj} (k:ObjR c w i o) (hc:c.le c'):qah c' i o=qah c i o:=by
 cases o with
 | none=>rfl
 | cells xs=>obtain ⟨b',vs,T,h1,h2,_⟩:=k;simp [qah,h1,hc.blk _ _ h1]
 | map es=>obtain ⟨b',vs,T,h1,h2,_⟩:=k;simp [qah,h1,hc.blk _ _ h1]
 | iter s pos=>obtain ⟨b',h1,h2⟩:=k;simp [qah,h1,hc.blk _ _ h1]
 | raw g f xs=>obtain ⟨h1,h2⟩:=k;simp [qah,h1,hc.blk _ _ h1]
 | arr e sz rows=>obtain ⟨v,vs,h1,_⟩:=k;simp [qah,h1,hc.sl _ _ _ h1]
 | uarr e sz rows=>obtain ⟨v,vs,h1,_⟩:=k;simp [qah,h1,hc.sl _ _ _ h1]
theorem ObjR.keep {c c':Ctx} {w w':World} {i:Nat} {o:AObj} (k:ObjR c w i o) (hc:c.le c') (hsl:∀ m,c'.sl i m=c.sl i m) (hw:∀ b,qah c i o=some b→w'.heap[b]?=w.heap[b]?):ObjR c' w' i o:=by
 cases o with
 | none=>trivial
 | cells xs =>
  obtain ⟨b',vs,T,h1,h2,h3,h4⟩:=k
  exact ⟨b',vs,T,hc.blk _ _ h1,by rw [hw b' (by simp [qah,h1]),h2],h3,fun j x v hx hv=>⟨(h4 j x v hx hv).1.mono hc,(h4 j x v hx hv).2⟩⟩
 | map es =>
  obtain ⟨b',ces,clock,h1,h2,h3,h4⟩:=k
  exact ⟨b',ces,clock,hc.blk _ _ h1,by rw [hw b' (by simp [qah,h1]),h2],h3,fun j k x ce hx hv=>⟨(h4 j k x ce hx hv).1.mono hc,(h4 j k x ce hx hv).2.mono hc⟩⟩
 | iter s pos =>
  obtain ⟨b',h1,h2⟩:=k
  exact ⟨b',hc.blk _ _ h1,by rw [hw b' (by simp [qah,h1]),h2]⟩
 | raw g f xs =>
  obtain ⟨h1,vs,h2,h3,h4⟩:=k
  exact ⟨hc.blk _ _ h1,vs,by rw [hw g (by simp [qah,h1]),h2],h3,fun j x v hx hv=>(h4 j x v hx hv).mono hc⟩
 | arr e sz rows =>
  obtain ⟨v,vs,h1,ho,hm,h2,h3,h4,h5,h6⟩:=k
  refine ⟨v,vs,hc.sl _ _ _ h1,ho,fun m hm'=>by rw [hsl,hm m hm'],⟨h2.1,?_⟩,h3,h4,fun i' j r x hr hx=>?_,fun b j hb hj=>(h6 b j hb hj).imp fun u hu=>hc.D _ _ _ hu⟩
  ·
   rcases h2.2 with hn | ⟨g,cap,cur,hv,hg,hh,rest⟩
   · exact .inl hn
   · exact .inr ⟨g,cap,cur,hv,hg,by rw [hw g (by simp [qah,h1,hv,Value.ownBlock]),hh],rest⟩
  ·
   obtain ⟨u,hu,hd⟩:=h5 i' j r x hr hx
   exact ⟨u,hu,hd.mono hc.D⟩
 | uarr e sz rows =>
  obtain ⟨v,vs,h1,ho,hm,h2,h3,h4,h5⟩:=k
  refine ⟨v,vs,hc.sl _ _ _ h1,ho,fun m hm'=>by rw [hsl,hm m hm'],⟨h2.1,?_⟩,h3,h4,fun i' j r x hr hx=>?_⟩
  ·
   rcases h2.2 with hn | ⟨g,cap,cur,hv,hg,hh,rest⟩
   · exact .inl hn
   · exact .inr ⟨g,cap,cur,hv,hg,by rw [hw g (by simp [qah,h1,hv,Value.ownBlock]),hh],rest⟩
  ·
   obtain ⟨u,hu,hd⟩:=h5 i' j r x hr hx
   exact ⟨u,hu,hd.mono hc.D⟩
theorem HSim.ext {c c':Ctx} {h:qaa} {w w':World} (s:HSim c h w) (hw:∀ b,b<w.heap.size→w'.heap[b]?=w.heap[b]?) (hc:c.le c') (hsl:∀ i m,c'.sl i m=c.sl i m)
  (hD:∀ b j v,c'.D b j=some v→c.D b j=some v∨(w.heap.size≤b∧w'.cell? ⟨b,j,none⟩=some v))
  (hdom:∀ i,h.length≤i→c'.blk i=none∧∀ m,c'.sl i m=none):HSim c' h w' where
 data:=fun b j v hv=>by
  rcases hD b j v hv with h1 | h1
  ·
   have h2:=s.data b j v h1
   have hb:b<w.heap.size:=World.block_lt_of_cell? w ⟨b,j,none⟩ h2
   rw [World.cell?_of_block (w:=w) (hw b hb)]
   exact h2
  · exact h1.2
 dom:=hdom
 obj:=fun i o ho=>(s.obj i o ho).keep hc (hsl i) fun b hb=>hw b ((s.obj i o ho).lt hb)
 apart:=fun i j o o' b hi hj hb hb'=>by
  rw [(s.obj i o hi).blk hc] at hb
  rw [(s.obj j o' hj).blk hc] at hb'
  exact s.apart i j o o' b hi hj hb hb'
 sep:=fun i o b j v hi hb hv=>by
  rw [(s.obj i o hi).blk hc] at hb
  rcases hD b j v hv with h1 | h1
  · exact s.sep i o b j v hi hb h1
  · have:=(s.obj i o hi).lt hb;omega
theorem Ent.ok.ext' {E:Ent} {c c':Ctx} {h:qaa} {w w':World} (k:E.ok c h w) (s:HSim c h w) (hw:∀ b,b<w.heap.size→w'.heap[b]?=w.heap[b]?) (hc:c.le c') (hbk:∀ n,c'.blk n=c.blk n)
  (hos:w'.os=w.os) (ht:w'.tape=w.tape) (hou:w'.output=w.output) (hsz:w.heap.size≤w'.heap.size)
  (hDo:∀ b j v,c'.D b j=some v→c.D b j=some v∨w.heap.size≤b∨∃ i o,h[i]?=some o∧qah c i o=some b):E.ok c' h w' where
 edom:=k.edom
 ext:=k.ext.trans hc
 blk0:=fun n hn=>(hbk n).trans (k.blk0 n hn)
 len:=k.len
 os:=hos.trans k.os
 tape:=ht.trans k.tape
 output:=hou.trans k.output
 size:=Nat.le_trans k.size hsz
 frame:=fun b hb hno=>(hw b (Nat.lt_of_lt_of_le hb k.size)).trans (k.frame b hb hno)
 newobj:=fun i o b hi hb=>by
  rw [(s.obj i o hi).blk hc] at hb
  exact k.newobj i o b hi hb
 dold:=fun b j v hD=>by
  rcases hDo b j v hD with h | h | ⟨i,o,h1,h2⟩
  · exact k.dold b j v h
  · exact .inr (.inl (Nat.le_trans k.size h))
  ·
   rcases k.newobj i o b h1 h2 with ⟨o0,g0,g1⟩ | g
   · exact .inr (.inr ⟨i,o0,g0,g1⟩)
   · exact .inr (.inl g)
def Ctx.addBlk (c:Ctx) (n b:Nat):Ctx:={ c with blk:=fun i=>if i=n then some b else c.blk i }
theorem Ctx.addBlk_le {c:Ctx} {n b:Nat} (h:c.blk n=none):c.le (c.addBlk n b) :=
 ⟨fun _ _ _ h=>h,fun i b' hb=>by
  simp only [Ctx.addBlk]
  split
  · rename_i hi;rw [hi,h] at hb;cases hb
  · exact hb,fun _ _ _ h=>h⟩
theorem qal {α:Type} {l:List α} {x y:α} {i:Nat} (h:(l++[x])[i]?=some y):l[i]?=some y∨(i=l.length∧y=x):=by
 rw [List.getElem?_append] at h
 split at h
 · exact .inl h
 ·
  rename_i hi
  have:i - l.length=0:=by
   rcases Nat.eq_zero_or_pos (i - l.length) with h' | h'
   · exact h'
   · rw [List.getElem?_eq_none (by simp;omega)] at h;cases h
  rw [this] at h
  simp at h
  exact .inr ⟨by omega,h.symm⟩
theorem HSim.push {c:Ctx} {h:qaa} {w:World} (s:HSim c h w) {b:Nat} {o:AObj} (hfresh:∀ i o,h[i]?=some o→qah c i o≠some b) (hnoD:∀ j,c.D b j=none)
  (hobj:ObjR (c.addBlk h.length b) w h.length o) (hb:∀ b',qah (c.addBlk h.length b) h.length o=some b'→b'=b):HSim (c.addBlk h.length b) (h++[o]) w where
 data:=s.data
 dom:=fun i hi=>by
  simp only [List.length_append,List.length_cons,List.length_nil] at hi
  have:=s.dom i (by omega)
  refine ⟨?_,this.2⟩
  simp only [Ctx.addBlk]
  rw [if_neg (by omega)]
  exact this.1
 obj:=fun i p hp=>by
  rcases qal hp with h1 | ⟨rfl,rfl⟩
  · exact (s.obj i p h1).keep (Ctx.addBlk_le (s.dom _ (Nat.le_refl _)).1) (fun _=>rfl) fun _ _=>rfl
  · exact hobj
 apart:=fun i j p q b' hi hj hbi hbj=>by
  have hle:=Ctx.addBlk_le (b:=b) (s.dom _ (Nat.le_refl h.length)).1
  rcases qal hi with h1 | ⟨rfl,rfl⟩<;>rcases qal hj with h2 | ⟨rfl,rfl⟩
  ·
   rw [(s.obj i p h1).blk hle] at hbi
   rw [(s.obj j q h2).blk hle] at hbj
   exact s.apart i j p q b' h1 h2 hbi hbj
  ·
   rw [(s.obj i p h1).blk hle] at hbi
   have:=hb b' hbj
   subst this
   exact (hfresh i p h1 hbi).elim
  ·
   rw [(s.obj j q h2).blk hle] at hbj
   have:=hb b' hbi
   subst this
   exact (hfresh j q h2 hbj).elim
  · rfl
 sep:=fun i p b' j v hi hbi hD=>by
  have hle:=Ctx.addBlk_le (b:=b) (s.dom _ (Nat.le_refl h.length)).1
  rcases qal hi with h1 | ⟨rfl,rfl⟩
  ·
   rw [(s.obj i p h1).blk hle] at hbi
   exact s.sep i p b' j v h1 hbi hD
  ·
   have:=hb b' hbi
   subst this
   have hD':c.D b' j=some v:=hD
   rw [hnoD j] at hD';cases hD'
theorem Ent.ok.push {E:Ent} {c:Ctx} {h:qaa} {w:World} (k:E.ok c h w) (s:HSim c h w) {b:Nat} {o:AObj} (hE:E.w.heap.size≤b)
  (hb:∀ b',qah (c.addBlk h.length b) h.length o=some b'→b'=b):E.ok (c.addBlk h.length b) (h++[o]) w where
 edom:=k.edom
 ext:=k.ext.trans (Ctx.addBlk_le (s.dom _ (Nat.le_refl _)).1)
 blk0:=fun n hn=>by
  have:=k.len
  simp only [Ctx.addBlk]
  rw [if_neg (by omega)]
  exact k.blk0 n hn
 len:=by have:=k.len;simp;omega
 os:=k.os
 tape:=k.tape
 output:=k.output
 size:=k.size
 frame:=k.frame
 newobj:=fun i p b' hi hbi=>by
  have hle:=Ctx.addBlk_le (b:=b) (s.dom _ (Nat.le_refl h.length)).1
  rcases qal hi with h1 | ⟨rfl,rfl⟩
  ·
   rw [(s.obj i p h1).blk hle] at hbi
   exact k.newobj i p b' h1 hbi
  ·
   have:=hb b' hbi
   subst this
   exact .inr hE
 dold:=k.dold
theorem HSim.noD {c:Ctx} {h:qaa} {w:World} (s:HSim c h w) {b:Nat} (hb:w.heap.size≤b) (j:Nat):c.D b j=none:=by
 cases hD:c.D b j with
 | none=>rfl
 | some v=>have:b<w.heap.size:=World.block_lt_of_cell? w ⟨b,j,none⟩ (s.data b j v hD);omega
theorem HSim.fresh {c:Ctx} {h:qaa} {w:World} (s:HSim c h w) {b:Nat} (hb:w.heap.size≤b):∀ i o,h[i]?=some o→qah c i o≠some b:=fun i o hi he=>by
 have:=(s.obj i o hi).lt he;omega
theorem alloc_le (w:World) (o:Obj):w.heap.size≤(w.alloc o).heap.size:=by
 show w.heap.size≤(w.heap.push o).size
 simp
theorem alloc_ok {E:Ent} {c:Ctx} {h:qaa} {w:World} (s:HSim c h w) (k:E.ok c h w) {xs:List AV} {vs:Array Value} (T:TypeId) (hl:vs.size=xs.length)
  (hr:∀ (j:Nat) (x:AV) (v:Value),xs[j]?=some x→vs[j]?=some v→Rel c x v∧v.oneCell'=true) :
  ∃ c',c.le c'∧HSim c' (h++[.cells xs]) (w.alloc (.cells vs T))∧E.ok c' (h++[.cells xs]) (w.alloc (.cells vs T))∧c'.blk h.length=some w.heap.size:=by
 have hw:∀ b,b<w.heap.size→(w.alloc (.cells vs T)).heap[b]?=w.heap[b]?:=fun b hb=>heap_alloc_old w _ b hb
 have s1:HSim c h (w.alloc (.cells vs T)):=s.ext hw (.refl c) (fun _ _=>rfl) (fun _ _ _ h=>.inl h) s.dom
 have k1:E.ok c h (w.alloc (.cells vs T)):=k.ext' s hw (.refl c) (fun _=>rfl) rfl rfl rfl (alloc_le w _) (fun _ _ _ h=>.inl h)
 have hle:c.le (c.addBlk h.length w.heap.size):=Ctx.addBlk_le (s.dom _ (Nat.le_refl _)).1
 have hblk:(c.addBlk h.length w.heap.size).blk h.length=some w.heap.size:=by simp [Ctx.addBlk]
 have hb:∀ b',qah (c.addBlk h.length w.heap.size) h.length (.cells xs)=some b'→b'=w.heap.size:=fun b' hb'=>by
  simp only [qah,hblk,Option.some.injEq] at hb';exact hb'.symm
 refine ⟨_,hle,s1.push (s.fresh (Nat.le_refl _)) (s.noD (Nat.le_refl _)) ⟨_,vs,T,hblk,heap_alloc_new w _,hl,fun j x v hx hv=>⟨(hr j x v hx hv).1.mono hle,(hr j x v hx hv).2⟩⟩ hb,k1.push s1 (k.size) hb,hblk⟩
theorem data_ok {E:Ent} {c:Ctx} {h:qaa} {w:World} (s:HSim c h w) (k:E.ok c h w) (vs:Array Value) (T:TypeId) :
  ∃ c',c.le c'∧HSim c' h (w.alloc (.cells vs T))∧E.ok c' h (w.alloc (.cells vs T))∧∀ (j:Nat) (v:Value),vs[j]?=some v→c'.D w.heap.size j=some v:=by
 have hw:∀ b,b<w.heap.size→(w.alloc (.cells vs T)).heap[b]?=w.heap[b]?:=fun b hb=>heap_alloc_old w _ b hb
 let c':Ctx:={ c with D:=fun b j=>if b=w.heap.size then vs[j]? else c.D b j }
 have hle:c.le c':=⟨fun b j v hv=>by
  have hne:b≠w.heap.size:=fun e=>by rw [e,s.noD (Nat.le_refl _)] at hv;cases hv
  simp [c',hne,hv],fun _ _ h=>h,fun _ _ _ h=>h⟩
 refine ⟨c',hle,s.ext hw hle (fun _ _=>rfl) (fun b j v hv=>?_) s.dom,k.ext' s hw hle (fun _=>rfl) rfl rfl rfl (alloc_le w _) (fun b j v hv=>by
  by_cases hb:b=w.heap.size
  · exact .inr (.inl (by omega))
  · exact .inl (by simpa [c',hb] using hv)),fun j v hv=>by simp [c',hv]⟩
 by_cases hb:b=w.heap.size
 ·
  subst hb
  simp only [c',if_true] at hv
  refine .inr ⟨Nat.le_refl _,?_⟩
  rw [cell_of_row _ _ j vs T (0,0) (heap_alloc_new w _)]
  exact hv
 ·
  simp only [c',hb,if_false] at hv
  exact .inl hv
theorem qae {α:Type} {l:List α} {i j:Nat} {x y:α} (h:(l.set i x)[j]?=some y):(j=i∧y=x)∨(j≠i∧l[j]?=some y):=by
 rw [List.getElem?_set] at h
 split at h
 ·
  rename_i hij
  split at h
  · simp at h;exact .inl ⟨hij.symm,h.symm⟩
  · cases h
 · rename_i hij;exact .inr ⟨fun e=>hij e.symm,h⟩
theorem store_ok {E:Ent} {c:Ctx} {h:qaa} {w:World} (s:HSim c h w) (k:E.ok c h w) {i b:Nat} {xs xs':List AV} {vs vs':Array Value} {T:TypeId}
  (hi:h[i]?=some (.cells xs)) (hb:c.blk i=some b) (hh:w.heap[b]?=some (.cells vs T (0,0))) (hl:vs'.size=xs'.length)
  (hr:∀ (j:Nat) (x:AV) (v:Value),xs'[j]?=some x→vs'[j]?=some v→Rel c x v∧v.oneCell'=true) :
  HSim c (h.set i (.cells xs')) (w.setRow b vs')∧E.ok c (h.set i (.cells xs')) (w.setRow b vs'):=by
 have hoth:∀ g,g≠b→(w.setRow b vs').heap[g]?=w.heap[g]?:=fun g hg=>setRow_other w b g vs' hg
 have hbo:qah c i (.cells xs)=some b:=hb
 have hsize:(w.setRow b vs').heap.size=w.heap.size:=by simp [World.setRow]
 have holt:∀ j o b',(h.set i (.cells xs'))[j]?=some o→qah c j o=some b'→∃ o0,h[j]?=some o0∧qah c j o0=some b':=fun j o b' hj hb'=>by
  rcases qae hj with ⟨rfl,rfl⟩ | ⟨hne,h1⟩
  · exact ⟨_,hi,hb'⟩
  · exact ⟨o,h1,hb'⟩
 constructor
 ·
  refine ⟨fun g j v hD=>?_,fun j hj=>s.dom j (by simpa using hj),fun j o hj=>?_,fun j j' o o' b' hj hj' hb1 hb2=>?_,fun j o b' m v hj hb1 hD=>?_⟩
  ·
   have hg:g≠b:=fun e=>by
    subst e
    exact s.sep i _ g j v hi hbo hD
   rw [World.cell?_of_block (w:=w) (hoth g hg)]
   exact s.data g j v hD
  ·
   rcases qae hj with ⟨rfl,rfl⟩ | ⟨hne,h1⟩
   · exact ⟨b,vs',T,hb,setRow_heap w b vs vs' T (0,0) hh,hl,hr⟩
   ·
    refine (s.obj j o h1).keep (.refl c) (fun _=>rfl) fun b' hb'=>hoth b' fun e=>hne ?_
    subst e
    exact s.apart j i o _ b' h1 hi hb' hbo
  ·
   obtain ⟨o1,h1,h1'⟩:=holt j o b' hj hb1
   obtain ⟨o2,h2,h2'⟩:=holt j' o' b' hj' hb2
   exact s.apart j j' o1 o2 b' h1 h2 h1' h2'
  ·
   rcases qae hj with ⟨rfl,rfl⟩ | ⟨hne,h1⟩
   · have:=s.sep j (.cells xs) b' m v hi hb1 hD;exact this
   · exact s.sep j o b' m v h1 hb1 hD
 ·
  refine ⟨k.edom,k.ext,k.blk0,by simpa using k.len,k.os,k.tape,k.output,by rw [hsize];exact k.size,fun g hg hno=>?_,fun j o b' hj hb1=>?_,k.dold⟩
  ·
   have hne:g≠b:=fun e=>by
    subst e
    rcases k.newobj i _ g hi hbo with ⟨o0,h0,h1⟩ | h2
    · exact hno i o0 h0 h1
    · omega
   rw [hoth g hne]
   exact k.frame g hg hno
  ·
   obtain ⟨o1,h1,h1'⟩:=holt j o b' hj hb1
   exact k.newobj j o1 b' h1 h1'
end Go.Abs

namespace Go.Abs
mutual
def AV.norm (h:qaa):AV→AV
 | .nils=>.slice []
 | .own i n=>match h[i]? with
  | some (.arr _ _ rows)=>if rows.length=n then .slice rows else .own i n
  | _=>.own i n
 | .agg xs=>.agg (qa4 h xs)
 | .tuple xs=>.tuple (qa4 h xs)
 | .iface t v=>.iface t (v.norm h)
 | .opt g v=>.opt g v
 | .top=>.top
 | .val v=>.val v
 | .slice r=>.slice r
 | .ptr i o=>.ptr i o
 | .eptr c=>.eptr c
 | .mapr i=>.mapr i
 | .fn f a b=>.fn f a b
 | .optr i n sz r q=>.optr i n sz r q
def qa4 (h:qaa):List AV→List AV
 | []=>[]
 | x::xs=>x.norm h::qa4 h xs
end
theorem normL_eq (h:qaa):∀ xs,qa4 h xs=xs.map (AV.norm h)
 | []=>rfl
 | x::xs=>by simp [qa4,normL_eq h xs]
def Ctx.share (c:Ctx) (_:qaa) (_:World):Ctx:=c
theorem share_le (c:Ctx) (h:qaa) (w:World):c.le (c.share h w):=.refl c
theorem share_ok {E:Ent} {c:Ctx} {h:qaa} {w:World} (s:HSim c h w) (k:E.ok c h w):HSim (c.share h w) h w∧E.ok (c.share h w) h w:=⟨s,k⟩
theorem own_data {c:Ctx} {h:qaa} {w:World} (s:HSim c h w) {i:Nat} {e sz:Nat} {rows:List (List AV)} (hi:h[i]?=some (.arr e sz rows)) {v:Value} (hv:c.sl i rows.length=some v) :
  DRel (c.share h w).D (.slice rows) v:=by
 obtain ⟨v',vs,h1,ho,_,h2,h3,h4,h5,h6⟩:=s.obj i _ hi
 rw [hv] at h1
 cases h1
 rcases h2.2 with ⟨rfl,hn⟩ | ⟨g,cap,cur,rfl,hg,hh,hnc,hcm,hcs,htake⟩
 ·
  have:rows=[]:=List.eq_nil_of_length_eq_zero hn
  subst this
  exact .nil
 ·
  have hcell:∀ (i' j:Nat) (r:List AV) (x:AV),rows[i']?=some r→r[j]?=some x→∃ u,vs[i' * sz+j]?=some u∧DRel c.D x u∧(c.share h w).D g (0+i' * sz+j)=some u:=by
   intro i' j r x hr hx
   obtain ⟨u,hu,hd⟩:=h5 i' j r x hr hx
   have hrl:=h4 r (List.mem_of_getElem? hr)
   have hj:j<sz:=by rw [← hrl];exact (List.getElem?_eq_some_iff.1 hx).1
   have hi':i'<rows.length:=(List.getElem?_eq_some_iff.1 hr).1
   have hlt:i' * sz+j<rows.length * sz:=by
    have:(i'+1) * sz≤rows.length * sz:=Nat.mul_le_mul_right _ hi'
    rw [Nat.add_mul] at this
    omega
   refine ⟨u,hu,hd,?_⟩
   rw [Nat.zero_add]
   obtain ⟨u',hu'⟩:=h6 g (i' * sz+j) rfl hlt
   have hw:=s.data _ _ _ hu'
   rw [cell_of_row w g _ cur e (0,0) hh] at hw
   rw [← htake,List.getElem?_take,if_pos hlt] at hu
   have:u'=u:=by
    rw [Array.getElem?_toList] at hu
    rw [hu] at hw
    exact (Option.some.inj hw).symm
   rw [← this];exact hu'
  exact .slice rows g 0 cap sz (fun i' j=>(vs[i' * sz+j]?).getD undef) h4 h3 hnc (fun i' j r x hr hx=>by
   obtain ⟨u,hu,hd,hD⟩:=hcell i' j r x hr hx
   rw [hu];exact hD) fun i' j r x hr hx=>by
   obtain ⟨u,hu,hd,hD⟩:=hcell i' j r x hr hx
   rw [hu];exact hd.mono (share_le c h w).D
theorem norm_rel {c:Ctx} {h:qaa} {w:World} (s:HSim c h w) {x:AV} {v:Value} (hr:Rel c x v):Rel (c.share h w) (x.norm h) v:=by
 have hle:=share_le c h w
 induction hr with
 | data hd =>
  cases hd with
  | val _ _ hs=>exact Rel.val _ hs
  | nil=>exact .data .nil
  | empty a=>exact .data (.empty a)
  | slice rows b off cap sz g hsz hB hc hD hh=>exact (Rel.data (.slice rows b off cap sz g hsz hB hc hD hh)).mono hle
 | top v=>exact .top v
 | val v hs=>exact .val v hs
 | nils=>exact .data .nil
 | agg xs vs hl ho h ih =>
  simp only [AV.norm,normL_eq]
  refine .agg _ vs (by simp [hl]) ho fun j x v hx hv=>?_
  simp only [List.getElem?_map,Option.map_eq_some_iff] at hx
  obtain ⟨y,hy,rfl⟩:=hx
  exact ih j y v hy hv
 | tuple xs vs hl h ih =>
  simp only [AV.norm,normL_eq]
  refine .tuple _ vs (by simp [hl]) fun j x v hx hv=>?_
  simp only [List.getElem?_map,Option.map_eq_some_iff] at hx
  obtain ⟨y,hy,rfl⟩:=hx
  exact ih j y v hy hv
 | ptr i off b h=>exact .ptr i off b h
 | eptr cells b o g hD h=>exact (Rel.eptr cells b o g hD h).mono hle
 | mapr i b h=>exact .mapr i b h
 | fn f ys xs us vs hl' hl h' h ih' ih=>exact (Rel.fn f ys xs us vs hl' hl h' h).mono hle
 | iface t x v h ih=>exact .iface t _ v ih
 | own i n v hv ho =>
  simp only [AV.norm]
  split
  ·
   rename_i e sz rows hi
   split
   ·
    rename_i hn
    subst hn
    exact .data (own_data s hi hv)
   · exact (Rel.own i n v hv ho).mono hle
  · exact (Rel.own i n v hv ho).mono hle
 | opt g x v h hn ih=>exact (Rel.opt g x v h hn).mono hle
 | optr i n sz r q b o len cap h=>exact .optr i n sz r q b o len cap h
end Go.Abs
