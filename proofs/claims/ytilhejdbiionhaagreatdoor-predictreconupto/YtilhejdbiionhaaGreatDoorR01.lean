/- Part 1 of a proof: AbsA, AbsB -/
import Derived.Calls
import Derived.Orders
import Derived.Laws.AppendOwn
import Derived.Tactics
set_option linter.all false

namespace Go.Abs
inductive AV where
 |top
 |val (v:Value)
 |nils
 |slice (rows:List (List AV))
 |agg (cells:List AV)
 |tuple (vs:List AV)
 |ptr (i off:Nat)
 |eptr (cells:List AV)
 |mapr (i:Nat)
 |fn (f:Fn) (first caps:List AV)
 |iface (t:TypeId) (v:AV)
 |own (i n:Nat)
 |opt (g:Bool) (v:AV)
 |optr (i n sz r q:Nat)
 |lit (cells:List AV)
instance:Inhabited AV:=⟨.top⟩
structure Ctx where
 D:Nat→Nat→Option Value
 blk:Nat→Option Nat
 sl:Nat→Nat→Option Value
structure Ctx.le(c c':Ctx):Prop where
 D:∀b j v,c.D b j=some v→c'.D b j=some v
 blk:∀i b,c.blk i=some b→c'.blk i=some b
 sl:∀i n v,c.sl i n=some v→c'.sl i n=some v
theorem Ctx.le.refl(c:Ctx):c.le c:=⟨fun _ _ _ h=>h,fun _ _ h=>h,fun _ _ _ h=>h⟩
theorem Ctx.le.trans{a b c:Ctx}(h:a.le b)(k:b.le c):a.le c :=
 ⟨fun _ _ _ x=>k.D _ _ _ (h.D _ _ _ x),fun _ _ x=>k.blk _ _ (h.blk _ _ x),fun _ _ _ x=>k.sl _ _ _ (h.sl _ _ _ x)⟩
def strOk:Value→Bool
 | .string s=>decide (s.size≤68719476736)
 |_=>true
inductive DRel(D:Nat→Nat→Option Value):AV→Value→Prop
 |val (v:Value) (h:v.oneCell'=true) (hs:strOk v=true:=by first|rfl|assumption):DRel D (.val v) v
 |nil:DRel D (.slice []) (.slice none 0 0)
 |slice (rows:List (List AV)) (b off cap sz:Nat) (g:Nat→Nat→Value) (hsz:∀r,r∈rows→r.length=sz) (hB:rows.length≤68719476736) (hc:rows.length≤cap)
   (hD:∀(i j:Nat) (r:List AV) (x:AV),rows[i]?=some r→r[j]?=some x→D b (off+i * sz+j)=some (g i j))
   (h:∀(i j:Nat) (r:List AV) (x:AV),rows[i]?=some r→r[j]?=some x→DRel D x (g i j)) :
   DRel D (.slice rows) (.slice (some ⟨b,off,none⟩) rows.length cap)
 |empty (a:Addr):DRel D (.slice []) (.slice (some a) 0 0)
theorem DRel.mono{D D':Nat→Nat→Option Value}(hD:∀b j v,D b j=some v→D' b j=some v){x:AV}{v:Value}(h:DRel D x v):DRel D' x v:=by
 induction h with
 |val v h hs=>exact .val v h hs
 |nil=>exact .nil
 |slice rows b off cap sz g hsz hB hc h1 h2 ih=>exact .slice rows b off cap sz g hsz hB hc (fun i j r x hr hx=>hD _ _ _ (h1 i j r x hr hx)) ih
 |empty a=>exact .empty a
theorem DRel.one{D:Nat→Nat→Option Value}{x:AV}{v:Value}(h:DRel D x v):v.oneCell'=true:=by
 cases h with
 |val v h hs=>exact h
 |nil=>rfl
 |slice=>rfl
 |empty=>rfl
inductive Rel(c:Ctx):AV→Value→Prop
 |data {x:AV} {v:Value} (h:DRel c.D x v):Rel c x v
 |top (v:Value):Rel c .top v
 |val (v:Value) (hs:strOk v=true:=by first|rfl|assumption):Rel c (.val v) v
 |nils:Rel c .nils (.slice none 0 0)
 |agg (xs:List AV) (vs:Array Value) (hl:vs.size=xs.length) (ho:∀(j:Nat) (v:Value),vs[j]?=some v→v.oneCell'=true)
   (h:∀(j:Nat) (x:AV) (v:Value),xs[j]?=some x→vs[j]?=some v→Rel c x v):Rel c (.agg xs) (.agg vs)
 |tuple (xs:List AV) (vs:Array Value) (hl:vs.size=xs.length)
   (h:∀(j:Nat) (x:AV) (v:Value),xs[j]?=some x→vs[j]?=some v→Rel c x v):Rel c (.tuple xs) (.tuple vs)
 |ptr (i off b:Nat) (h:c.blk i=some b):Rel c (.ptr i off) (.pointer (some ⟨b,off,none⟩))
 |eptr (cells:List AV) (b o:Nat) (g:Nat→Value) (hD:∀(j:Nat) (x:AV),cells[j]?=some x→c.D b (o+j)=some (g j))
   (h:∀(j:Nat) (x:AV),cells[j]?=some x→DRel c.D x (g j)):Rel c (.eptr cells) (.pointer (some ⟨b,o,none⟩))
 |mapr (i b:Nat) (h:c.blk i=some b):Rel c (.mapr i) (.map (some b))
 |fn (f:Fn) (ys xs:List AV) (us vs:Array Value) (hl':us.size=ys.length) (hl:vs.size=xs.length)
   (h':∀(j:Nat) (x:AV) (v:Value),ys[j]?=some x→us[j]?=some v→Rel c x v)
   (h:∀(j:Nat) (x:AV) (v:Value),xs[j]?=some x→vs[j]?=some v→Rel c x v):Rel c (.fn f ys xs) (.func f us vs)
 |iface (t:TypeId) (x:AV) (v:Value) (h:Rel c x v):Rel c (.iface t x) (.iface t v)
 |own (i n:Nat) (v:Value) (h:c.sl i n=some v) (ho:v.oneCell'=true):Rel c (.own i n) v
 |opt (g:Bool) (x:AV) (v:Value) (h:g=true→Rel c x v) (hn:g=false→v=undef):Rel c (.opt g x) v
 |optr (i n sz r q b o len cap:Nat) (h:c.sl i n=some (.slice (some ⟨b,o,none⟩) len cap)):Rel c (.optr i n sz r q) (.pointer (some ⟨b,o+(r * sz+q),none⟩))
 |lit (cells:List AV) (b o cap:Nat) (g:Nat→Value) (hD:∀(j:Nat) (x:AV),cells[j]?=some x→c.D b (o+j)=some (g j))
   (h:∀(j:Nat) (x:AV),cells[j]?=some x→Rel c x (g j)) (ho:∀(j:Nat) (x:AV),cells[j]?=some x→(g j).oneCell'=true):Rel c (.lit cells) (.slice (some ⟨b,o,none⟩) 1 cap)
theorem Rel.mono{c c':Ctx}(hc:c.le c'){x:AV}{v:Value}(h:Rel c x v):Rel c' x v:=by
 induction h with
 |data h=>exact .data (h.mono hc.D)
 |top v=>exact .top v
 |val v hs=>exact .val v hs
 |nils=>exact .nils
 |agg xs vs hl ho h ih=>exact .agg xs vs hl ho ih
 |tuple xs vs hl h ih=>exact .tuple xs vs hl ih
 |ptr i off b h=>exact .ptr i off b (hc.blk _ _ h)
 |eptr cells b o g hD h=>exact .eptr cells b o g (fun j x hx=>hc.D _ _ _ (hD j x hx)) (fun j x hx=>(h j x hx).mono hc.D)
 |mapr i b h=>exact .mapr i b (hc.blk _ _ h)
 |fn f ys xs us vs hl' hl h' h ih' ih=>exact .fn f ys xs us vs hl' hl ih' ih
 |iface t x v h ih=>exact .iface t x v ih
 |own i n v h ho=>exact .own i n v (hc.sl _ _ _ h) ho
 |opt g x v h hn ih=>exact .opt g x v ih hn
 |optr i n sz r q b o len cap h=>exact .optr i n sz r q b o len cap (hc.sl _ _ _ h)
 |lit cells b o cap g hD h ho ih=>exact .lit cells b o cap g (fun j x hx=>hc.D _ _ _ (hD j x hx)) ih ho
mutual
def AV.under(n:Nat):AV→Bool
 | .top| .val _| .nils| .slice _| .eptr _=>true
 | .agg xs| .tuple xs| .lit xs=>qao n xs
 | .fn _ ys xs=>qao n ys&&qao n xs
 | .ptr i _| .mapr i| .own i _| .optr i _ _ _ _=>i<n
 | .iface _ v=>v.under n
 | .opt g v=>!g||v.under n
def qao(n:Nat):List AV→Bool
 | []=>true
 |x::xs=>x.under n&&qao n xs
end
theorem qbk{n:Nat}:∀{xs:List AV},qao n xs=true↔∀x,x∈xs→x.under n=true
 | []=>by simp[qao]
 |x::xs=>by simp[qao,qbk (xs:=xs)]
def Ctx.trunc(c:Ctx)(n:Nat):Ctx:={ D:=c.D,blk:=fun i=>if i<n then c.blk i else none,sl:=fun i m=>if i<n then c.sl i m else none }
theorem Rel.trunc{c:Ctx}{n:Nat}{x:AV}{v:Value}(h:Rel c x v):x.under n=true→Rel (c.trunc n) x v:=by
 induction h with
 |data h=>exact fun _=>.data h
 |top v=>exact fun _=>.top v
 |val v hs=>exact fun _=>.val v hs
 |nils=>exact fun _=>.nils
 |agg xs vs hl ho h ih =>
  intro hb;simp only[AV.under,qbk]at hb;exact .agg xs vs hl ho fun j x v hx hv=>ih j x v hx hv (hb x (List.mem_of_getElem? hx))
 |tuple xs vs hl h ih =>
  intro hb;simp only[AV.under,qbk]at hb;exact .tuple xs vs hl fun j x v hx hv=>ih j x v hx hv (hb x (List.mem_of_getElem? hx))
 |ptr i off b h =>
  intro hb;simp[AV.under]at hb;exact .ptr i off b (by simp[Ctx.trunc,hb,h])
 |eptr cells b o g hD h=>exact fun _=>.eptr cells b o g hD h
 |mapr i b h =>
  intro hb;simp[AV.under]at hb;exact .mapr i b (by simp[Ctx.trunc,hb,h])
 |fn f ys xs us vs hl' hl h' h ih' ih =>
  intro hb;simp only[AV.under,qbk,Bool.and_eq_true]at hb;exact .fn f ys xs us vs hl' hl (fun j x v hx hv=>ih' j x v hx hv (hb.1 x (List.mem_of_getElem? hx))) fun j x v hx hv=>ih j x v hx hv (hb.2 x (List.mem_of_getElem? hx))
 |iface t x v h ih=>exact fun hb=>.iface t x v (ih (by simpa[AV.under]using hb))
 |own i n v h ho =>
  intro hb;simp[AV.under]at hb;exact .own i n v (by simp[Ctx.trunc,hb,h]) ho
 |opt g x v h hn ih=>exact fun hb=>.opt g x v (fun hg=>ih hg (by simpa[AV.under,hg]using hb)) hn
 |optr i n sz r q b o len cap h =>
  intro hb;simp[AV.under]at hb;exact .optr i n sz r q b o len cap (by simp[Ctx.trunc,hb,h])
 |lit cells b o cap g hD h ho ih =>
  intro hb;simp only[AV.under,qbk]at hb;exact .lit cells b o cap g hD (fun j x hx=>ih j x hx (hb x (List.mem_of_getElem? hx))) ho
theorem Rel.under{c:Ctx}{n:Nat}(hd:∀i,n≤i→c.blk i=none∧∀m,c.sl i m=none){x:AV}{v:Value}(h:Rel c x v):x.under n=true:=by
 induction h with
 |data h=>cases h<;>rfl
 |top v=>rfl
 |val v hs=>rfl
 |nils=>rfl
 |fn f ys xs us vs hl' hl h' h ih' ih =>
  simp only[AV.under,qbk,Bool.and_eq_true];constructor
  ·intro x hx;obtain⟨j,hj⟩:=List.getElem?_of_mem hx;have hlt:j<us.size:=by rw[hl'];exact(List.getElem?_eq_some_iff.1 hj).1
   exact ih' j x us[j] hj (by simp[hlt])
  ·intro x hx;obtain⟨j,hj⟩:=List.getElem?_of_mem hx;have hlt:j<vs.size:=by rw[hl];exact(List.getElem?_eq_some_iff.1 hj).1
   exact ih j x vs[j] hj (by simp[hlt])
 |agg xs vs hl ho h ih|tuple xs vs hl h ih =>
  simp only[AV.under,qbk];intro x hx;obtain⟨j,hj⟩:=List.getElem?_of_mem hx;have hlt:j<vs.size:=by rw[hl];exact(List.getElem?_eq_some_iff.1 hj).1
  exact ih j x vs[j] hj (by simp[hlt])
 |ptr i off b h|mapr i b h =>
  simp only[AV.under,decide_eq_true_eq];rcases Nat.lt_or_ge i n with h1|h1
  ·exact h1
  ·rw[(hd i h1).1]at h;cases h
 |eptr cells b o g hD h=>rfl
 |iface t x v h ih=>exact ih
 |own i m v h ho =>
  simp only[AV.under,decide_eq_true_eq];rcases Nat.lt_or_ge i n with h1|h1
  ·exact h1
  ·rw[(hd i h1).2]at h;cases h
 |opt g x v h hn ih =>
  cases g with
  |false=>rfl
  |true=>simpa[AV.under]using ih rfl
 |optr i m sz r q b o len cap h =>
  simp only[AV.under,decide_eq_true_eq];rcases Nat.lt_or_ge i n with h1|h1
  ·exact h1
  ·rw[(hd i h1).2]at h;cases h
 |lit cells b o cap g hD h ho ih =>
  simp only[AV.under,qbk];intro x hx;obtain⟨j,hj⟩:=List.getElem?_of_mem hx;exact ih j x hj
inductive AObj where
 |none
 |cells (xs:List AV)
 |map (es:List (AV×AV))
 |arr (e:TypeId) (sz:Nat) (rows:List (List AV))
 |uarr (e:TypeId) (sz:Nat) (rows:List (List AV))
 |oarr (e:TypeId) (sz:Nat) (rows:List (List AV))
 |iter (s:ByteArray) (pos:Nat)
 |raw (g:Nat) (f:Array Value→Obj) (xs:List AV)
instance:Inhabited AObj:=⟨.none⟩
abbrev qab:=List AObj
def qag(c:Ctx)(i:Nat):AObj→Option Nat
 | .none=>Option.none
 | .cells _| .map _| .iter _ _| .raw _ _ _=>c.blk i
 | .arr _ _ rows| .uarr _ _ rows| .oarr _ _ rows=>(c.sl i rows.length).bind Value.ownBlock
def AObj.shares(o:AObj)(j:Nat):Prop :=
 match o with
 | .arr _ sz rows=>j<rows.length * sz
 |_=>False
def mapClk(ces:Array MapEntry)(clock:Nat):Prop:=(∀e,e∈ces.toList→e.born<clock)∧ces.toList.Pairwise fun a b=>a.born≠b.born
def ObjR(c:Ctx)(w:World)(i:Nat):AObj→Prop
 | .none=>True
 | .cells xs=>∃b vs T,c.blk i=some b∧w.heap[b]?=some (.cells vs T (0,0))∧vs.size=xs.length ∧
   ∀(j:Nat) (x:AV) (v:Value),xs[j]?=some x→vs[j]?=some v→Rel c x v∧v.oneCell'=true
 | .map es=>∃b ces clock,c.blk i=some b∧w.heap[b]?=some (.map ces clock)∧ces.size=es.length ∧
   (∀(j:Nat) (k x:AV) (ce:MapEntry),es[j]?=some (k,x)→ces[j]?=some ce→Rel c k ce.key∧Rel c x ce.val)∧mapClk ces clock
 | .iter s pos=>∃b,c.blk i=some b∧w.heap[b]?=some (.stringIter s pos)
 | .raw g f xs=>c.blk i=some g∧∃vs,w.heap[g]?=some (f vs)∧vs.size=xs.length∧∀(j:Nat) (x:AV) (v:Value),xs[j]?=some x→vs[j]?=some v→Rel c x v
 | .arr e sz rows=>∃v vs,c.sl i rows.length=some v∧v.oneCell'=true∧(∀m,rows.length<m→c.sl i m=Option.none)∧w.ownsRow 0 e sz v rows.length vs∧rows.length≤68719476736∧(∀r,r∈rows→r.length=sz) ∧
   (∀(i' j:Nat) (r:List AV) (x:AV),rows[i']?=some r→r[j]?=some x→∃u,vs[i' * sz+j]?=some u∧DRel c.D x u) ∧
   ∀b j,v.ownBlock=some b→j<rows.length * sz→∃u,c.D b j=some u
 | .uarr e sz rows=>∃v vs,c.sl i rows.length=some v∧v.oneCell'=true∧(∀m,rows.length<m→c.sl i m=Option.none)∧w.ownsRow 0 e sz v rows.length vs∧rows.length≤68719476736∧(∀r,r∈rows→r.length=sz) ∧
   (∀(i' j:Nat) (r:List AV) (x:AV),rows[i']?=some r→r[j]?=some x→∃u,vs[i' * sz+j]?=some u∧DRel c.D x u)
 | .oarr e sz rows=>∃v vs,c.sl i rows.length=some v∧v.oneCell'=true∧(∀m,rows.length<m→c.sl i m=Option.none)∧w.ownsRow 0 e sz v rows.length vs∧rows.length≤68719476736∧(∀r,r∈rows→r.length=sz) ∧
   (∀(i' j:Nat) (r:List AV) (x:AV),rows[i']?=some r→r[j]?=some x→∃u,vs[i' * sz+j]?=some u∧Rel c x u∧u.oneCell'=true)
structure HSim(c:Ctx)(h:qab)(w:World):Prop where
 data:∀b j v,c.D b j=some v→w.cell? ⟨b,j,none⟩=some v
 dom:∀i,h.length≤i→c.blk i=none∧∀m,c.sl i m=none
 obj:∀i o,h[i]?=some o→ObjR c w i o
 apart:∀i j o o' b,h[i]?=some o→h[j]?=some o'→qag c i o=some b→qag c j o'=some b→i=j
 sep:∀i o b j v,h[i]?=some o→qag c i o=some b→c.D b j=some v→o.shares j
structure Ent where
 N:Nat
 c:Ctx
 h:qab
 w:World
structure Ent.ok(E:Ent)(c:Ctx)(h:qab)(w:World):Prop where
 edom:∀i,E.h.length≤i→E.c.blk i=none∧∀m,E.c.sl i m=none
 ext:E.c.le c
 blk0:∀n,n<E.h.length→c.blk n=E.c.blk n
 len:E.h.length≤h.length
 os:w.os=E.w.os
 tape:w.tape=E.w.tape
 output:w.output=E.w.output
 size:E.w.heap.size≤w.heap.size
 frame:∀b,b<E.w.heap.size→(∀i o,E.h[i]?=some o→qag E.c i o≠some b)→w.heap[b]?=E.w.heap[b]?
 newobj:∀i o b,h[i]?=some o→qag c i o=some b→(∃o0,E.h[i]?=some o0∧qag E.c i o0=some b)∨E.w.heap.size≤b
 dold:∀b j v,c.D b j=some v→E.c.D b j=some v∨E.w.heap.size≤b∨∃i o,E.h[i]?=some o∧qag E.c i o=some b
theorem Ent.ok.refl{c:Ctx}{h:qab}{w:World}(N:Nat)(hs:HSim c h w):(⟨N,c,h,w⟩:Ent).ok c h w :=
 ⟨hs.dom,.refl c,fun _ _=>rfl,Nat.le_refl _,rfl,rfl,rfl,Nat.le_refl _,fun _ _ _=>rfl,fun _ o _ ho hb=>.inl ⟨o,ho,hb⟩,fun _ _ _ h=>.inl h⟩
theorem Ent.ok.trans{E:Ent}{c c':Ctx}{h h':qab}{w w':World}{N:Nat}(k:E.ok c h w)(k':(⟨N,c,h,w⟩:Ent).ok c' h' w'):E.ok c' h' w' where
 edom:=k.edom
 ext:=k.ext.trans k'.ext
 blk0:=fun n hn=>(k'.blk0 n (Nat.lt_of_lt_of_le hn k.len)).trans (k.blk0 n hn)
 len:=Nat.le_trans k.len k'.len
 os:=k'.os.trans k.os
 tape:=k'.tape.trans k.tape
 output:=k'.output.trans k.output
 size:=Nat.le_trans k.size k'.size
 frame:=fun b hb hno=>(k'.frame b (Nat.lt_of_lt_of_le hb k.size) fun i o ho hbk=>by
   rcases k.newobj i o b ho hbk with⟨o0,h0,h1⟩|h2
   ·exact hno i o0 h0 h1
   ·omega).trans (k.frame b hb hno)
 newobj:=fun i o b ho hb=>by
  rcases k'.newobj i o b ho hb with⟨o0,h0,h1⟩|h2
  ·rcases k.newobj i o0 b h0 h1 with h3|h3
   ·exact .inl h3
   ·exact .inr h3
  ·exact .inr (Nat.le_trans k.size h2)
 dold:=fun b j v hD=>by
  rcases k'.dold b j v hD with h|h|⟨i,o,h1,h2⟩
  ·exact k.dold b j v h
  ·exact .inr (.inl (Nat.le_trans k.size h))
  ·rcases k.newobj i o b h1 h2 with⟨o0,g0,g1⟩|g
   ·exact .inr (.inr ⟨i,o0,g0,g1⟩)
   ·exact .inr (.inl g)
inductive AEnd where
 |ret (v:AV)
 |panic (v:AV)
def EndR(c:Ctx):AEnd→Ending→Prop
 | .ret x,.returned v=>Rel c x v
 | .panic x,.panicked [⟨v,false,false⟩]=>Rel c x v
 |_,_=>False
def RelL(c:Ctx)(xs:List AV)(vs:Array Value):Prop:=vs.size=xs.length∧∀(j:Nat) (x:AV) (v:Value),xs[j]?=some x→vs[j]?=some v→Rel c x v
def Enter(P:Program)(f:FuncId):Prop:=∃fn,P.funcs[f]?=some fn∧fn.body.isSome=true∧(fn.name == "runtime.NumGoroutine")=false
def ACalls(P:Program)(f:FuncId)(args:List AV)(h:qab)(R:AEnd→qab→Prop):Prop :=
 Enter P f∧∀(c:Ctx) (w:World) (vs:Array Value),HSim c h w→RelL c args vs →
  Calls P f vs w fun e w'=>∃r h' c',R r h'∧EndR c' r e∧HSim c' h' w'∧(⟨0,c,h,w⟩:Ent).ok c' h' w'
def APure(P:Program)(f:FuncId)(args:List AV)(r:AV):Prop:=∀h,ACalls P f args h fun e h'=>e=.ret r∧h'=h
theorem ACalls.mono{P:Program}{f:FuncId}{args:List AV}{h:qab}{R R':AEnd→qab→Prop}(k:ACalls P f args h R)(hr:∀r h',R r h'→R' r h'):ACalls P f args h R' :=
 ⟨k.1,fun c w vs hs ha=>(k.2 c w vs hs ha).mono fun _ _ ⟨r,h',c',a,b⟩=>⟨r,h',c',hr _ _ a,b⟩⟩
structure Env where
 t:List (Nat×AV)
 h:qab
def qbb:List (Nat×AV)→Nat→AV
 | [],_=>.top
 |(j,x)::l,i=>bif j == i then x else qbb l i
def liftC:Value→AV
 | .slice none 0 0=>.nils
 | .string s=>if s.size≤68719476736 then .val (.string s)else .top
 |v=>.val v
theorem liftC_rel(c:Ctx)(v:Value):Rel c (liftC v) v:=by
 unfold liftC;split
 ·exact .nils
 ·split
  ·rename_i h;exact .val _ (by simp[strOk,h])
  ·exact .top _
 ·rename_i h1 h2;refine .val _ ?_;unfold strOk;split
  ·exact(h2 _ rfl).elim
  ·rfl
def oneList(l:List Value):Bool:=l.all (·.oneCell')
def liftK:Value→AV
 | .agg ⟨vs⟩=>match oneList vs with
  |true=>.agg (vs.map liftC)
  |false=>.val (.agg ⟨vs⟩)
 |v=>liftC v
theorem liftK_rel(c:Ctx)(v:Value):Rel c (liftK v) v:=by
 unfold liftK;split
 ·rename_i vs;split
  ·rename_i h;simp only[oneList,List.all_eq_true]at h;refine .agg _ _ (by simp) (fun j v hv=>h v (List.mem_of_getElem? (by simpa using hv))) fun j x v hx hv=>?_;simp only[List.getElem?_map,Option.map_eq_some_iff]at hx;obtain⟨u,hu,rfl⟩:=hx;have:vs[j]?=some v:=by simpa using hv
   rw[hu]at this;cases this;exact liftC_rel c _
  ·exact .val _
 ·exact liftC_rel c _
def Env.get(e:Env):Operand→AV
 | .tmp i=>qbb e.t i
 | .const v=>liftK v
 | .global _=>.top
 | .func f=>.fn (.func f) [] []
def Env.put(e:Env):Option Tmp→AV→Env
 |some d,x=>{ e with t:=(d,x)::e.t }
 |none,_=>e
structure Sim(N:Nat)(c:Ctx)(e:Env)(a:Act)(w:World):Prop where
 defers:a.defers=[]
 size:a.tmps.size=N
 tmps:∀i,Rel c (qbb e.t i) (a.tmps.getD i undef)
 hs:HSim c e.h w
theorem Sim.eval{N:Nat}{c:Ctx}{e:Env}{a:Act}{w:World}(s:Sim N c e a w)(x:Operand):Rel c (e.get x) (a.eval x):=by
 cases x with
 |tmp i=>exact s.tmps i
 |const v=>exact liftK_rel c v
 |global g=>exact .top _
 |func f=>exact .fn _ [] [] #[] #[] rfl rfl (by simp) (by simp)
theorem Sim.put{N:Nat}{c c':Ctx}{e:Env}{h':qab}{a:Act}{w w':World}(s:Sim N c e a w)(hc:c.le c')(hs:HSim c' h' w'){d:Option Tmp}(hd:∀i,d=some i→i<N){x:AV}{v:Value}
  (hx:Rel c' x v):Sim N c' (({ e with h:=h' }:Env).put d x) (a.put d v) w':=by
 cases d with
 |none=>exact⟨s.defers,s.size,fun i=>(s.tmps i).mono hc,hs⟩
 |some d =>
  refine⟨s.defers,by simp[Act.put,s.size],fun i=>?_,hs⟩;have hd':=hd d rfl;have hlt:d<a.tmps.size:=by rw[s.size];exact hd'
  by_cases hi:d=i
  ·subst hi;simp[Env.put,qbb,Act.put,hlt,hx]
  ·have h1:(d == i)=false:=by simpa using hi
   simp only[Env.put,qbb,h1,cond_false,Act.put];have:=(s.tmps i).mono hc;simpa[Array.getD_eq_getD_getElem?,Array.getElem?_setIfInBounds_ne hi]using this
inductive AExit where
 |normal
 |exit (id:Nat)
 |ret
 |panic (v:AV)
def XR(c:Ctx):AExit→Exit→Prop
 | .normal,.normal=>True
 | .exit i,.exit j=>i=j
 | .ret,.ret=>True
 | .panic x,.panic [⟨v,false,false⟩]=>Rel c x v
 |_,_=>False
def conc(E:Ent)(Q:AExit→Env→Prop):Exit→Act→World→Prop :=
 fun x a w=>∃x' e c,Q x' e∧XR c x' x∧Sim E.N c e a w∧E.ok c e.h w
def AWp(P:Program)(E:Ent)(code:Code)(Q:AExit→Env→Prop)(e:Env):Prop :=
 ∀c a w,Sim E.N c e a w→E.ok c e.h w→code.wp P (conc E Q) a w
def AOps(P:Program)(E:Ent)(ops:Array Oper)(l:List Oper)(Q:AExit→Env→Prop)(e:Env):Prop :=
 ∀c a w,Sim E.N c e a w→E.ok c e.h w→wpList P ops (conc E Q) l a w
end Go.Abs

namespace Go.Abs
def AV.Wk(x y:AV):Prop:=∀c v,Rel c x v→Rel c y v
theorem AV.Wk.refl(x:AV):x.Wk x:=fun _ _ h=>h
theorem AV.Wk.trans{x y z:AV}(h:x.Wk y)(k:y.Wk z):x.Wk z:=fun c v r=>k c v (h c v r)
theorem AV.Wk.top(x:AV):x.Wk .top:=fun _ v _=>.top v
theorem AV.Wk.nils:AV.nils.Wk (.slice []):=fun _ _ h=>by
 cases h with
 |data h=>cases h
 |nils=>exact .data .nil
theorem AV.Wk.opt(x:AV):(AV.opt true x).Wk x:=fun _ _ h=>by
 cases h with
 |data h=>cases h
 |opt g x v h hn=>exact h rfl
def wkL:List AV→List AV→Prop
 | [],[]=>True
 |x::xs,y::ys=>x.Wk y∧wkL xs ys
 |_,_=>False
theorem wkL.refl:∀xs,wkL xs xs
 | []=>trivial
 |x::xs=>⟨.refl x,wkL.refl xs⟩
theorem wkL.length:∀{xs ys:List AV},wkL xs ys→xs.length=ys.length
 | [],[],_=>rfl
 |_::_,_::_,h=>by simp[wkL.length h.2]
theorem wkL.get:∀{xs ys:List AV},wkL xs ys→∀(j:Nat) (y:AV),ys[j]?=some y→∃x,xs[j]?=some x∧x.Wk y
 | [],[],_,j,y,h=>by simp at h
 |x::xs,z::ys,h,0,y,hj=>by simp at hj;subst hj;exact⟨x,by simp,h.1⟩
 |x::xs,z::ys,h,j+1,y,hj=>by
  obtain⟨x',h1,h2⟩:=h.2.get j y (by simpa using hj);exact⟨x',by simpa using h1,h2⟩
theorem AV.Wk.agg{xs ys:List AV}(h:wkL xs ys):(AV.agg xs).Wk (.agg ys):=fun c v r=>by
 cases r with
 |data h=>cases h
 |agg xs vs hl ho hr =>
  refine .agg ys vs (by rw[hl,h.length]) ho fun j y v hy hv=>?_;obtain⟨x,hx,hw⟩:=h.get j y hy;exact hw c v (hr j x v hx hv)
theorem AV.Wk.tuple{xs ys:List AV}(h:wkL xs ys):(AV.tuple xs).Wk (.tuple ys):=fun c v r=>by
 cases r with
 |data h=>cases h
 |tuple xs vs hl hr =>
  refine .tuple ys vs (by rw[hl,h.length]) fun j y v hy hv=>?_;obtain⟨x,hx,hw⟩:=h.get j y hy;exact hw c v (hr j x v hx hv)
theorem AV.Wk.iface{x y:AV}(t:TypeId)(h:x.Wk y):(AV.iface t x).Wk (.iface t y):=fun c v r=>by
 cases r with
 |data h=>cases h
 |iface t x v hr=>exact .iface t y v (h c v hr)
def ObjWk:AObj→AObj→Prop
 | .cells xs,.cells ys=>wkL xs ys
 |_,.none=>True
 |o,o'=>o=o'
theorem ObjWk.refl(o:AObj):ObjWk o o:=by
 cases o<;>simp[ObjWk];exact wkL.refl _
def hwk:qab→qab→Prop
 |_,[]=>True
 |o::l,o'::l'=>ObjWk o o'∧hwk l l'
 | [],_::_=>False
theorem hwk.refl:∀h,hwk h h
 | []=>trivial
 |o::l=>⟨.refl o,hwk.refl l⟩
theorem hwk.app{l l':qab}(k:hwk l l'):∀h,hwk (h++l) (h++l')
 | []=>k
 |o::h=>⟨.refl o,hwk.app k h⟩
theorem hwk.app0{l:qab}:∀h,hwk (h++l) h
 | []=>by cases l<;>trivial
 |o::h=>⟨.refl o,hwk.app0 h⟩
theorem hwk.get:∀{h h':qab},hwk h h'→∀(i:Nat) (o':AObj),h'[i]?=some o'→∃o,h[i]?=some o∧ObjWk o o'
 |h,[],_,i,o',hi=>by simp at hi
 | [],_::_,k,_,_,_=>k.elim
 |o::l,p::l',k,0,o',hi=>by simp at hi;subst hi;exact⟨o,by simp,k.1⟩
 |o::l,p::l',k,i+1,o',hi=>by
  obtain⟨q,h1,h2⟩:=k.2.get i o' (by simpa using hi);exact⟨q,by simpa using h1,h2⟩
def AObj.under(n:Nat):AObj→Bool
 | .cells xs=>qao n xs
 | .map es=>es.all fun p=>p.1.under n&&p.2.under n
 | .raw _ _ xs=>qao n xs
 | .oarr _ _ rows=>rows.all fun r=>qao n r
 |_=>true
def hUnder(n:Nat):qab→Bool
 | []=>true
 |o::l=>o.under n&&hUnder n l
theorem hUnder_iff{n:Nat}:∀{h:qab},hUnder n h=true↔∀o,o∈h→o.under n=true
 | []=>by simp[hUnder]
 |o::l=>by simp[hUnder,hUnder_iff (h:=l)]
theorem qar{n:Nat}:∀{h l:qab},hUnder n (h++l)=(hUnder n h&&hUnder n l)
 | [],l=>by simp[hUnder]
 |o::h,l=>by simp[hUnder,qar (h:=h),Bool.and_assoc]
mutual
theorem AV.under_mono{n m:Nat}(hm:n≤m):∀(x:AV),x.under n=true→x.under m=true
 | .top,_| .val _,_| .nils,_| .slice _,_| .eptr _,_=>rfl
 | .agg xs,h| .tuple xs,h| .lit xs,h=>by simp only[AV.under]at h⊢;exact qci hm xs h
 | .fn _ ys xs,h=>by simp only[AV.under,Bool.and_eq_true]at h⊢;exact⟨qci hm ys h.1,qci hm xs h.2⟩
 | .ptr i _,h| .mapr i,h| .own i _,h| .optr i _ _ _ _,h=>by simp only[AV.under,decide_eq_true_eq]at h⊢;omega
 | .iface _ v,h=>by simp only[AV.under]at h⊢;exact AV.under_mono hm v h
 | .opt g v,h=>by
  cases g with
  |false=>rfl
  |true=>simp only[AV.under,Bool.not_true,Bool.false_or]at h⊢;exact AV.under_mono hm v h
theorem qci{n m:Nat}(hm:n≤m):∀(xs:List AV),qao n xs=true→qao m xs=true
 | [],_=>rfl
 |x::xs,h=>by
  simp only[qao,Bool.and_eq_true]at h⊢;exact⟨AV.under_mono hm x h.1,qci hm xs h.2⟩
end
theorem qau{n m:Nat}(hm:n≤m){h:qab}(k:hUnder n h=true):hUnder m h=true:=by
 rw[hUnder_iff]at k⊢;intro o ho;have:=k o ho;cases o with
 |none=>rfl
 |cells xs=>exact qci hm xs this
 |map es =>
  simp only[AObj.under,List.all_eq_true,Bool.and_eq_true]at this⊢;exact fun p hp=>⟨AV.under_mono hm _ (this p hp).1,AV.under_mono hm _ (this p hp).2⟩
 |arr e sz rows=>rfl
 |uarr e sz rows=>rfl
 |oarr e sz rows =>
  simp only[AObj.under,List.all_eq_true]at this⊢;exact fun r hr=>qci hm r (this r hr)
 |iter s pos=>rfl
 |raw g f xs=>exact qci hm xs this
theorem HSim.hUnder{c:Ctx}{h:qab}{w:World}(s:HSim c h w):Abs.hUnder h.length h=true:=by
 rw[hUnder_iff];intro o ho;obtain⟨i,hi⟩:=List.getElem?_of_mem ho;have k:=s.obj i o hi;cases o with
 |none=>rfl
 |arr=>rfl
 |uarr=>rfl
 |iter=>rfl
 |oarr e sz rows =>
  obtain⟨v,vs,h1,ho1,hm,h2,h3,h4,h5⟩:=k;simp only[AObj.under,List.all_eq_true,qbk];intro r hr x hx;obtain⟨i',hi'⟩:=List.getElem?_of_mem hr;obtain⟨j,hj⟩:=List.getElem?_of_mem hx;obtain⟨u,_,hu,_⟩:=h5 i' j r x hi' hj;exact hu.under s.dom
 |raw g f xs =>
  obtain⟨h1,vs,h2,h3,h4⟩:=k;simp only[AObj.under,qbk];intro x hx;obtain⟨j,hj⟩:=List.getElem?_of_mem hx;have hlt:j<vs.size:=by rw[h3];exact(List.getElem?_eq_some_iff.1 hj).1
  exact(h4 j x vs[j] hj (by simp[hlt])).under s.dom
 |cells xs =>
  obtain⟨b,vs,T,h1,h2,h3,h4⟩:=k;simp only[AObj.under,qbk];intro x hx;obtain⟨j,hj⟩:=List.getElem?_of_mem hx;have hlt:j<vs.size:=by rw[h3];exact(List.getElem?_eq_some_iff.1 hj).1
  exact(h4 j x vs[j] hj (by simp[hlt])).1.under s.dom
 |map es =>
  obtain⟨b,ces,clock,h1,h2,h3,h4,h5⟩:=k;simp only[AObj.under,List.all_eq_true,Bool.and_eq_true];intro p hp;obtain⟨j,hj⟩:=List.getElem?_of_mem hp;have hlt:j<ces.size:=by rw[h3];exact(List.getElem?_eq_some_iff.1 hj).1
  have:=h4 j p.1 p.2 ces[j] hj (by simp[hlt]);exact⟨this.1.under s.dom,this.2.under s.dom⟩
theorem objBlk_trunc{c:Ctx}{n i:Nat}(hi:i<n)(o:AObj):qag (c.trunc n) i o=qag c i o:=by
 cases o<;>simp[qag,Ctx.trunc,hi]
theorem objBlk_wk{c:Ctx}{i:Nat}{o o':AObj}(k:ObjWk o o'){b:Nat}(h:qag c i o'=some b):qag c i o=some b:=by
 cases o<;>cases o'<;>simp_all[ObjWk,qag]
theorem ObjWk.shares{o o':AObj}(k:ObjWk o o'){c:Ctx}{i b:Nat}(hb:qag c i o'=some b)(j:Nat)(h:o.shares j):o'.shares j:=by
 cases o<;>cases o'<;>simp_all[ObjWk,AObj.shares,qag]
def Wk(E:Ent)(e e1:Env):Prop:=∀c a w,Sim E.N c e a w→E.ok c e.h w→∃c1,Sim E.N c1 e1 a w∧E.ok c1 e1.h w
theorem Wk.refl(E:Ent)(e:Env):Wk E e e:=fun c _ _ h k=>⟨c,h,k⟩
theorem Wk.trans{E:Ent}{e e1 e2:Env}(h:Wk E e e1)(k:Wk E e1 e2):Wk E e e2:=fun c a w s o =>
 let ⟨c1,s1,o1⟩:=h c a w s o
 k c1 a w s1 o1
def wkT(n:Nat)(t:List (Nat×AV)):List (Nat×AV)→Prop
 | []=>True
 |(i,x)::l=>(qbb t i).Wk x∧x.under n=true∧wkT n t l
theorem wkT.look{n:Nat}{t:List (Nat×AV)}:∀{l:List (Nat×AV)},wkT n t l→∀i,(qbb t i).Wk (qbb l i)∧(qbb l i).under n=true
 | [],_,i=>⟨.top _,rfl⟩
 |(j,x)::l,h,i=>by
  by_cases hj:j=i
  ·subst hj;simp only[qbb,beq_self_eq_true,cond_true];exact⟨h.1,h.2.1⟩
  ·have:(j == i)=false:=by simpa using hj
   simp only[qbb,this,cond_false];exact wkT.look h.2.2 i
theorem Wk.mk{E:Ent}{e e1:Env}(hn:E.h.length≤e1.h.length)(hh:hwk e.h e1.h)(hu:hUnder e1.h.length e1.h=true)(ht:wkT e1.h.length e.t e1.t):Wk E e e1:=by
 intro c a w s o;have hobj:∀(i:Nat) (o':AObj),e1.h[i]?=some o'→i<e1.h.length:=fun i o' hi=>(List.getElem?_eq_some_iff.1 hi).1;refine⟨c.trunc e1.h.length,⟨s.defers,s.size,fun i=>?_,?_⟩,?_⟩
 ·have:=ht.look i;exact(this.1 c _ (s.tmps i)).trunc this.2
 ·refine⟨s.hs.data,fun i hi=>⟨by simp[Ctx.trunc,Nat.not_lt.2 hi],fun m=>by simp[Ctx.trunc,Nat.not_lt.2 hi]⟩,fun i o' hi=>?_,fun i j o' p b hi hj hb hb'=>?_,fun i o' b j v hi hb hD=>?_⟩
  ·have hlt:=hobj i o' hi;obtain⟨p,hp,hw⟩:=hh.get i o' hi;have k:=s.hs.obj i p hp;have hun:o'.under e1.h.length=true:=hUnder_iff.1 hu o' (List.mem_of_getElem? hi);cases o' with
   |none=>trivial
   |cells ys =>
    cases p with
    |cells xs =>
     obtain⟨b,vs,T,h1,h2,h3,h4⟩:=k;simp only[ObjWk]at hw;simp only[AObj.under,qbk]at hun;refine⟨b,vs,T,by simp[Ctx.trunc,hlt,h1],h2,by rw[h3,hw.length],fun j y v hy hv=>?_⟩;obtain⟨x,hx,hwk⟩:=hw.get j y hy;have:=h4 j x v hx hv;exact⟨(hwk c v this.1).trunc (hun y (List.mem_of_getElem? hy)),this.2⟩
    |_=>simp[ObjWk]at hw
   |map es =>
    have:p=.map es:=by cases p<;>simp_all[ObjWk]
    subst this;obtain⟨b,ces,clock,h1,h2,h3,h4,h5⟩:=k;simp only[AObj.under,List.all_eq_true,Bool.and_eq_true]at hun;refine⟨b,ces,clock,by simp[Ctx.trunc,hlt,h1],h2,h3,fun j kk x ce hy hv=>?_,h5⟩;have:=h4 j kk x ce hy hv;have hm:=hun _ (List.mem_of_getElem? hy);exact⟨this.1.trunc hm.1,this.2.trunc hm.2⟩
   |iter s pos =>
    have:p=.iter s pos:=by cases p<;>simp_all[ObjWk]
    subst this;obtain⟨b,h1,h2⟩:=k;exact⟨b,by simp[Ctx.trunc,hlt,h1],h2⟩
   |raw g f xs =>
    have:p=.raw g f xs:=by cases p<;>simp_all[ObjWk]
    subst this;obtain⟨h1,vs,h2,h3,h4⟩:=k;simp only[AObj.under,qbk]at hun;exact⟨by simp[Ctx.trunc,hlt,h1],vs,h2,h3,fun j x v hx hv=>(h4 j x v hx hv).trunc (hun x (List.mem_of_getElem? hx))⟩
   |arr t sz rows =>
    have:p=.arr t sz rows:=by cases p<;>simp_all[ObjWk]
    subst this;obtain⟨v,vs,h1,ho,hm,h2⟩:=k;exact⟨v,vs,by simp[Ctx.trunc,hlt,h1],ho,fun m hm'=>by simp[Ctx.trunc,hlt,hm m hm'],h2⟩
   |uarr t sz rows =>
    have:p=.uarr t sz rows:=by cases p<;>simp_all[ObjWk]
    subst this;obtain⟨v,vs,h1,ho,hm,h2⟩:=k;exact⟨v,vs,by simp[Ctx.trunc,hlt,h1],ho,fun m hm'=>by simp[Ctx.trunc,hlt,hm m hm'],h2⟩
   |oarr t sz rows =>
    have:p=.oarr t sz rows:=by cases p<;>simp_all[ObjWk]
    subst this;obtain⟨v,vs,h1,ho,hm,h2,h3,h4,h5⟩:=k;simp only[AObj.under,List.all_eq_true,qbk]at hun;refine⟨v,vs,by simp[Ctx.trunc,hlt,h1],ho,fun m hm'=>by simp[Ctx.trunc,hlt,hm m hm'],h2,h3,h4,fun i' j r x hr hx=>?_⟩;obtain⟨u,g1,g2,g3⟩:=h5 i' j r x hr hx;exact⟨u,g1,g2.trunc (hun r (List.mem_of_getElem? hr) x (List.mem_of_getElem? hx)),g3⟩
  ·obtain⟨o1,h1,w1⟩:=hh.get i o' hi;obtain⟨o2,h2,w2⟩:=hh.get j p hj;rw[objBlk_trunc (hobj i o' hi)]at hb;rw[objBlk_trunc (hobj j p hj)]at hb';exact s.hs.apart i j o1 o2 b h1 h2 (objBlk_wk w1 hb) (objBlk_wk w2 hb')
  ·obtain⟨o1,h1,w1⟩:=hh.get i o' hi;rw[objBlk_trunc (hobj i o' hi)]at hb;exact w1.shares hb j (s.hs.sep i o1 b j v h1 (objBlk_wk w1 hb) hD)
 ·refine⟨o.edom,⟨o.ext.D,fun i b hb=>?_,fun i n v hv=>?_⟩,fun n hlt=>by simp only[Ctx.trunc];rw[if_pos (by omega)];exact o.blk0 n hlt,hn,o.os,o.tape,o.output,o.size,o.frame,fun i o' b hi hb=>?_,o.dold⟩
  ·have hi:i<e1.h.length:=by
    rcases Nat.lt_or_ge i e1.h.length with h|h
    ·exact h
    ·rw[(o.edom i (Nat.le_trans hn h)).1]at hb;cases hb
   simp[Ctx.trunc,hi,o.ext.blk i b hb]
  ·have hi:i<e1.h.length:=by
    rcases Nat.lt_or_ge i e1.h.length with h|h
    ·exact h
    ·rw[(o.edom i (Nat.le_trans hn h)).2]at hv;cases hv
   simp[Ctx.trunc,hi,o.ext.sl i n v hv]
  ·obtain⟨o1,h1,w1⟩:=hh.get i o' hi;rw[objBlk_trunc (hobj i o' hi)]at hb;exact o.newobj i o1 b h1 (objBlk_wk w1 hb)
section rules
variable {P:Program} {E:Ent} {Q:AExit→Env→Prop} {e:Env}
def AExit.then(K:Env→Prop)(Q:AExit→Env→Prop):AExit→Env→Prop
 | .normal,e=>K e
 |x,e=>Q x e
def AExit.inBlock(id:Nat)(Q:AExit→Env→Prop):AExit→Env→Prop
 | .exit i,e=>if i=id then Q .normal e else Q (.exit i) e
 |x,e=>Q x e
theorem AWp.mono{c:Code}{Q':AExit→Env→Prop}(h:AWp P E c Q e)(hq:∀x e,Q x e→Q' x e):AWp P E c Q' e :=
 fun k a w s o=>wp_mono (h k a w s o) fun _ _ _ ⟨x',e',c',q,r⟩=>⟨x',e',c',hq _ _ q,r⟩
theorem AWp.wk{c:Code}{e1:Env}(hw:Wk E e e1)(h:AWp P E c Q e1):AWp P E c Q e :=
 fun k a w s o=>let ⟨c1,s1,o1⟩:=hw k a w s o;h c1 a w s1 o1
theorem awp_skip(h:Q .normal e):AWp P E .skip Q e:=fun c _ _ s o=>wp_skip ⟨.normal,e,c,h,trivial,s,o⟩
theorem awp_ret(h:Q .ret e):AWp P E .ret Q e:=fun c _ _ s o=>wp_ret ⟨.ret,e,c,h,trivial,s,o⟩
theorem awp_exit{id:Nat}(h:Q (.exit id) e):AWp P E (.exit id) Q e:=fun c _ _ s o=>wp_exit ⟨.exit id,e,c,h,rfl,s,o⟩
theorem qbj{x y:Code}(h:AWp P E x (AExit.then (AWp P E y Q) Q) e):AWp P E (.seq x y) Q e:=fun c a w s o=>by
 refine wp_seq (wp_mono (h c a w s o) ?_);rintro ex a' w' ⟨x',e',c',hq,hx,hs',ok'⟩;cases x' with
 |normal=>cases ex<;>simp only[XR]at hx;exact hq c' a' w' hs' ok'
 |exit i=>cases ex<;>simp only[XR]at hx;exact⟨.exit i,e',c',hq,hx,hs',ok'⟩
 |ret=>cases ex<;>simp only[XR]at hx;exact⟨.ret,e',c',hq,trivial,hs',ok'⟩
 |panic v =>
  cases ex with
  |panic ch=>exact⟨.panic v,e',c',hq,hx,hs',ok'⟩
  |_=>simp only[XR]at hx
theorem awp_block{id:Nat}{b:Code}(h:AWp P E b (AExit.inBlock id Q) e):AWp P E (.block id b) Q e:=fun c a w s o=>by
 refine wp_block (wp_mono (h c a w s o) ?_);rintro ex a' w' ⟨x',e',c',hq,hx,hs',ok'⟩;cases x' with
 |normal=>cases ex<;>simp only[XR]at hx;exact⟨.normal,e',c',hq,trivial,hs',ok'⟩
 |exit i =>
  cases ex with
  |exit j =>
   simp only[XR]at hx;subst hx;simp only[Exit.inBlock];simp only[AExit.inBlock]at hq;split
   ·rename_i hi;rw[if_pos hi]at hq;exact⟨.normal,e',c',hq,trivial,hs',ok'⟩
   ·rename_i hi;rw[if_neg hi]at hq;exact⟨.exit i,e',c',hq,rfl,hs',ok'⟩
  |_=>simp only[XR]at hx
 |ret=>cases ex<;>simp only[XR]at hx;exact⟨.ret,e',c',hq,trivial,hs',ok'⟩
 |panic v =>
  cases ex with
  |panic ch=>exact⟨.panic v,e',c',hq,hx,hs',ok'⟩
  |_=>simp only[XR]at hx
theorem Rel.bool{c:Ctx}{b:Bool}{v:Value}(h:Rel c (.val (.bool b)) v):v=.bool b:=by
 cases h with
 |data h=>cases h;rfl
 |val=>rfl
theorem awp_cond{x:Operand}{t f:Code}{b:Bool}(hb:e.get x=.val (.bool b))(ht:b=true→AWp P E t Q e)(hf:b=false→AWp P E f Q e):AWp P E (.cond x t f) Q e :=
 fun c a w s o=>wp_cond_split (Rel.bool (hb▸s.eval x)) (fun h=>ht h c a w s o) (fun h=>hf h c a w s o)
theorem wp_loop_by{ι:Type}{c:Code}{Q:Exit→Act→World→Prop}{a:Act}{w:World}(I:ι→Act→World→Prop)(μ:ι→Nat)(i0:ι)(h₀:I i0 a w)
  (round:∀i a w,I i a w→c.wp P (Exit.then (fun a' w'=>∃j,I j a' w'∧μ j<μ i) Q) a w):(Code.loop c).wp P Q a w:=by
 intro b k cs;have key:∀n i a w,μ i=n→I i a w→∃e a' w',Q e a' w'∧Arrives P (lone (b.at a (.code c::.inLoop c::k)) cs w) b k cs e a' w':=by
  intro n
  induction n using Nat.strongRecOn with
  |_ n ih =>
   intro i a w hn hI;obtain⟨e,a₁,w₁,hq,harr⟩:=round i a w hI b (.inLoop c::k) cs;cases e with
   |normal =>
    obtain⟨j,hI₁,hlt⟩:=hq;obtain⟨e₂,a₂,w₂,hq₂,harr₂⟩:=ih (μ j) (hn▸hlt) j a₁ w₁ rfl hI₁;exact⟨e₂,a₂,w₂,hq₂,.of_steps (Steps.trans harr (.one step_inLoop)) harr₂⟩
   |exit id=>exact⟨_,a₁,w₁,hq,.pass (x:=.inLoop c) rfl (fun _ _=>.inl (by simp)) harr⟩
   |goto l=>exact⟨_,a₁,w₁,hq,.pass (x:=.inLoop c) rfl (fun _ _=>.inl (by simp)) harr⟩
   |ret=>exact⟨_,a₁,w₁,hq,.pass (x:=.inLoop c) rfl (fun _ _=>.inl (by simp)) harr⟩
   |panic ch=>exact⟨_,a₁,w₁,hq,.pass (x:=.inLoop c) rfl (fun _ _=>.inl (by simp)) harr⟩
   |outgrown=>exact⟨_,a₁,w₁,hq,.pass (x:=.inLoop c) rfl (fun _ _=>.inl (by simp)) harr⟩
 obtain⟨e,a',w',hq,harr⟩:=key _ i0 a w rfl h₀;exact⟨e,a',w',hq,.of_steps (.one step_loop) harr⟩
theorem awp_loop{ι:Type}{b:Code}(I:ι→Prop)(S:ι→Env)(μ:ι→Nat)(i0:ι)(h0:I i0)(hw:Wk E e (S i0))
  (round:∀i,I i→AWp P E b (AExit.then (fun e'=>∃j,I j∧μ j<μ i∧Wk E e' (S j)) Q) (S i)):AWp P E (.loop b) Q e:=fun c a w s o=>by
 refine wp_loop_by (ι:=ι) (fun i a w=>I i∧∃c,Sim E.N c (S i) a w∧E.ok c (S i).h w) μ i0 ⟨h0,hw c a w s o⟩ ?_;rintro i a w ⟨hI,c,s,o⟩;refine wp_mono (round i hI c a w s o) ?_;rintro ex a' w' ⟨x',e',c',hq,hx,hs',ok'⟩;cases x' with
 |normal =>
  cases ex<;>simp only[XR]at hx;obtain⟨j,hj,hlt,hwk⟩:=hq;exact⟨j,⟨hj,hwk c' a' w' hs' ok'⟩,hlt⟩
 |exit i=>cases ex<;>simp only[XR]at hx;exact⟨.exit i,e',c',hq,hx,hs',ok'⟩
 |ret=>cases ex<;>simp only[XR]at hx;exact⟨.ret,e',c',hq,trivial,hs',ok'⟩
 |panic v =>
  cases ex with
  |panic ch=>exact⟨.panic v,e',c',hq,hx,hs',ok'⟩
  |_=>simp only[XR]at hx
theorem qd7{id:Nat}{ops:Array Oper}(h:AOps P E ops ops.toList Q e):AWp P E (.region id ops false) Q e :=
 fun c a w s o=>wp_region_list (h c a w s o)
theorem aops_nil{ops:Array Oper}(h:Q .normal e):AOps P E ops [] Q e:=fun c _ _ s o=>⟨.normal,e,c,h,trivial,s,o⟩
end rules
end Go.Abs
