/- Part 18 of a proof: AbsZo -/
import Derived.Test.YtcjolkgjhcdhcaaGreatDoorR12
import Derived.Test.YtcjolkgjhcdhcaaGreatDoorR17
set_option linter.all false

namespace Go.Abs
section
variable {P:Program} {E:Ent}
theorem uarr_put {c:Ctx} {h:qab} {w:World} (s:HSim c h w) (k:E.ok c h w) {e:TypeId} {sz n b:Nat} {cur:Array Value} {rows:List (List AV)} (hb0:E.w.heap.size≤b) (hheap:w.heap[b]?=some (.cells cur e))
  (hfresh:∀ i o,h[i]?=some o→qal c i o≠some b) (hnoD:∀ j,c.D b j=none) (hn:rows.length=n) (hlen:n≤68719476736) (hrow:∀ r,r∈rows→r.length=sz) (hsize:cur.size=n * sz)
  (hus:∀ (i' j:Nat) (r:List AV) (x:AV),rows[i']?=some r→r[j]?=some x→∃ u,(cur.toList.take (n * sz))[i' * sz+j]?=some u∧DRel c.D x u) :
  c.le (c.addSl h.length n (.slice (some ⟨b,0,none⟩) n n))∧HSim (c.addSl h.length n (.slice (some ⟨b,0,none⟩) n n)) (h++[.uarr e sz rows]) w∧E.ok (c.addSl h.length n (.slice (some ⟨b,0,none⟩) n n)) (h++[.uarr e sz rows]) w:=by
 obtain ⟨v0,hv0⟩:∃ v0,v0=Value.slice (some ⟨b,0,none⟩) n n:=⟨_,rfl⟩
 rw [← hv0];have hle:c.le (c.addSl h.length n v0):=Ctx.addSl_le ((s.dom _ (Nat.le_refl _)).2 n);have hsl:∀ i,i<h.length→∀ m,(c.addSl h.length n v0).sl i m=c.sl i m:=fun i hi m=>by
  simp only [Ctx.addSl];rw [if_neg (by omega)]
 have hlt:∀ {i:Nat} {o:AObj},h[i]?=some o→i<h.length:=fun hi=>(List.getElem?_eq_some_iff.1 hi).1;have hnew:qal (c.addSl h.length n v0) h.length (.uarr e sz rows)=some b:=by simp [qal,Ctx.addSl,hv0,hn,Value.ownBlock]
 refine ⟨hle,⟨s.data,fun i hi=>?_,fun i o hi=>?_,fun i j o o' b' hi hj hb hb'=>?_,fun i o b' j v hi hb hD=>?_⟩,⟨k.edom,k.ext.trans hle,k.blk0,by have:=k.len;simp;omega,k.os,k.tape,k.output,k.size,k.frame,fun i o b' hi hb=>?_,k.dold⟩⟩
 ·
  simp only [List.length_append,List.length_cons,List.length_nil] at hi;have:=s.dom i (by omega);refine ⟨this.1,fun m=>?_⟩;simp only [Ctx.addSl];rw [if_neg (by omega)];exact this.2 m
 ·
  rcases qam hi with h1 | ⟨rfl,rfl⟩
  · exact (s.obj i o h1).keep hle (hsl i (hlt h1)) fun _ _=>rfl
  ·
   refine ⟨v0,cur.toList.take (n * sz),by simp [Ctx.addSl,hn],by rw [hv0];rfl,fun m hm=>?_,?_,by omega,hrow,hus⟩
   ·
    simp only [Ctx.addSl];rw [if_neg (by omega)];exact (s.dom _ (Nat.le_refl _)).2 m
   ·
    rw [hv0,hn];refine ⟨?_,.inr ⟨b,n,cur,rfl,Nat.zero_le _,hheap,Nat.le_refl _,by unfold maxLen;omega,hsize,rfl⟩⟩;rw [List.length_take,Array.length_toList,hsize];exact Nat.min_eq_left (Nat.le_refl _)
 ·
  rcases qam hi with h1 | ⟨rfl,rfl⟩<;>rcases qam hj with h2 | ⟨rfl,rfl⟩
  ·
   rw [(s.obj i o h1).blk hle] at hb;rw [(s.obj j o' h2).blk hle] at hb';exact s.apart i j o o' b' h1 h2 hb hb'
  ·
   rw [hnew] at hb';rw [(s.obj i o h1).blk hle] at hb;cases hb';exact (hfresh i o h1 hb).elim
  ·
   rw [hnew] at hb;rw [(s.obj j o' h2).blk hle] at hb';cases hb;exact (hfresh j o' h2 hb').elim
  · rfl
 ·
  have hD':c.D b' j=some v:=hD;rcases qam hi with h1 | ⟨rfl,rfl⟩
  ·
   rw [(s.obj i o h1).blk hle] at hb;exact s.sep i o b' j v h1 hb hD'
  ·
   rw [hnew] at hb;cases hb;rw [hnoD] at hD';cases hD'
 ·
  rcases qam hi with h1 | ⟨rfl,rfl⟩
  ·
   rw [(s.obj i o h1).blk hle] at hb;exact k.newobj i o b' h1 hb
  ·
   rw [hnew] at hb;cases hb;exact .inr hb0
inductive MK where
 | val
 | arr (el sz n:Nat) (zr:List AV)
 | cell (xs:List AV)
 | copy (t:Tmp)
def MK.made:MK→Bool
 | .val=>false
 | .copy _=>false
 | _=>true
def stepM (P:Program) (N:Nat) (o:Oper) (e:Env) (K:MK→DR→Prop):Prop :=
 o.guard=none∧dstOk N o.dst∧match o.op with
 | .makeSlice T x y=>(x=y∧o.dst.isSome=true)∧match qak P T,e.getS x with
  | .slice el sz,.val (.int .i64 n)=>qak P el≠.other∧qau P el=sz∧0<sz∧qap P el≤2048∧(∀ x,x∈qa1 P el→x≠.top)∧qax e true [x]∧0≤n∧n≤68719476736∧K (.arr el sz n.toNat ((qa1 P el).map nilz)) ⟨o.dst,.top,.quiet none⟩
  | _,_=>False
 | .alloc T=>(qak P T≠.other∧o.dst.isSome=true)∧K (.cell (qa1 P T)) ⟨o.dst,.top,.quiet none⟩
 | .pick ..=>False
 | .assign (.tmp t)=>match qa8 e.t t with
  | .top=>o.dst.isSome=true∧K (.copy t) ⟨o.dst,.top,.quiet none⟩
  | _=>qax e true [.tmp t]∧(qbf P e.getS e.h (.assign (.tmp t))).side∧K .val ⟨o.dst,(qbf P e.getS e.h (.assign (.tmp t))).val,.quiet none⟩
 | op=>isEff op=false∧qax e true op.operands.toList∧(qbf P e.getS e.h op).side∧K .val ⟨o.dst,(qbf P e.getS e.h op).val,.quiet none⟩
def opsM (P:Program) (N:Nat):List Oper→Env→List MK→(List MK→Env→Prop)→Prop
 | [],e,acc,K=>K acc e
 | o::l,e,acc,K=>stepM P N o e fun m r=>opsM P N l (e.put r.dst r.res) (acc++[m]) K
def finS (e:Env) (o:Oper):MK→Env
 | .val=>e
 | .arr el sz n zr=>({ e with h:=e.h++[.uarr el sz (List.replicate n zr)] }:Env).put o.dst (.own e.h.length n)
 | .cell xs=>({ e with h:=e.h++[.cells xs] }:Env).put o.dst (.ptr e.h.length 0)
 | .copy t=>e.put o.dst (qa8 e.t t)
def finE:List Oper→List MK→Env→Env
 | o::l,m::ms,e=>finE l ms (finS e o m)
 | _,_,e=>e
theorem stepM_wit {N:Nat} {o:Oper} {e:Env} {K:MK→DR→Prop} (h:stepM P N o e K):∃ m r,stepM P N o e (fun m' r'=>m'=m∧r'=r)∧K m r:=by
 unfold stepM at h ⊢;obtain ⟨hg,hd,h⟩:=h;split at h
 ·
  obtain ⟨hx,h⟩:=h;split at h
  ·
   rename_i el sz n h1 h2;obtain ⟨a1,a2,a3,a4,a5,a6,a7,a8,a9⟩:=h;exact ⟨_,_,⟨hg,hd,hx,by simp only [h1,h2];exact ⟨a1,a2,a3,a4,a5,a6,a7,a8,trivial,trivial⟩⟩,a9⟩
  · exact h.elim
 · exact ⟨_,_,⟨hg,hd,h.1,rfl,rfl⟩,h.2⟩
 · exact h.elim
 ·
  split at h
  ·
   rename_i ht;exact ⟨_,_,⟨hg,hd,⟨h.1,rfl,rfl⟩⟩,h.2⟩
  ·
   rename_i ht;exact ⟨_,_,⟨hg,hd,⟨h.1,h.2.1,rfl,rfl⟩⟩,h.2.2⟩
 · exact ⟨_,_,⟨hg,hd,h.1,h.2.1,h.2.2.1,rfl,rfl⟩,h.2.2.2⟩
theorem stepM_quiet {N:Nat} {o:Oper} {e:Env} {m:MK} {r:DR} (h:stepM P N o e (fun m' r'=>m'=m∧r'=r)):r.k=.quiet none∧r.dst=o.dst:=by
 unfold stepM at h;obtain ⟨hg,hd,h⟩:=h;split at h
 ·
  obtain ⟨hx,h⟩:=h;split at h
  · obtain ⟨a1,a2,a3,a4,a5,a6,a7,a8,a9,rfl⟩:=h;exact ⟨rfl,rfl⟩
  · exact h.elim
 · obtain ⟨_,_,rfl⟩:=h;exact ⟨rfl,rfl⟩
 · exact h.elim
 ·
  split at h
  · obtain ⟨_,_,rfl⟩:=h;exact ⟨rfl,rfl⟩
  · obtain ⟨_,_,_,rfl⟩:=h;exact ⟨rfl,rfl⟩
 · obtain ⟨_,_,_,_,rfl⟩:=h;exact ⟨rfl,rfl⟩
theorem stepM_copy {N:Nat} {o:Oper} {e:Env} {t:Tmp} {r:DR} (h:stepM P N o e (fun m' r'=>m'=.copy t∧r'=r)):o.op=.assign (.tmp t):=by
 unfold stepM at h;obtain ⟨hg,hd,h⟩:=h;split at h
 ·
  obtain ⟨hx,h⟩:=h;split at h
  · obtain ⟨a1,a2,a3,a4,a5,a6,a7,a8,a9,_⟩:=h;cases a9
  · exact h.elim
 · obtain ⟨_,h,_⟩:=h;cases h
 · exact h.elim
 ·
  rename_i t' ho;split at h
  · obtain ⟨_,h,_⟩:=h;cases h;exact ho
  · obtain ⟨_,_,h,_⟩:=h;cases h
 · obtain ⟨_,_,_,h,_⟩:=h;cases h
def copyB (l:List Oper):Bool:=(List.range l.length).all fun k=>match l[k]? with
 | some o=>match o.op with
  | .assign (.tmp t)=>(List.range l.length).all fun j=>match l[j]? with
   | some o'=>o'.dst != some t||decide (j<k)
   | none=>true
  | _=>true
 | none=>true
theorem copyB_of {l:List Oper} (h:copyB l=true) {k j:Nat} {o o':Oper} {t:Tmp} (hk:l[k]?=some o) (ho:o.op=.assign (.tmp t)) (hj:l[j]?=some o') (hd:o'.dst=some t):j<k:=by
 unfold copyB at h;rw [List.all_eq_true] at h;have h1:=h k (List.mem_range.2 (List.getElem?_eq_some_iff.1 hk).1);simp only [hk,ho] at h1;rw [List.all_eq_true] at h1;have h2:=h1 j (List.mem_range.2 (List.getElem?_eq_some_iff.1 hj).1);simp only [hj,hd] at h2;simpa using h2
theorem next_quietM {r:DR} {e:Env} (h:r.k=.quiet none):r.next e=e.put r.dst r.res:=by unfold DR.next;rw [h]
theorem opsM_wit {N:Nat}:∀ {l:List Oper} {e:Env} {acc:List MK} {K:List MK→Env→Prop},opsM P N l e acc K →
  ∃ (R:List DR) (ms:List MK),R.length=l.length∧ms.length=l.length∧(∀ (k:Nat) (o:Oper),l[k]?=some o→∃ m r,ms[k]?=some m∧R[k]?=some r∧stepM P N o (qao e (R.take k)) fun m' r'=>m'=m∧r'=r)∧K (acc++ms) (qao e R)
 | [],e,acc,K,h=>⟨[],[],rfl,rfl,by simp,by simpa [qao,opsM] using h⟩
 | o::l,e,acc,K,h=>by
  obtain ⟨m,r,h1,h2⟩:=stepM_wit h;obtain ⟨R,ms,hl,hm,hk,hK⟩:=opsM_wit h2;have hq:=next_quietM (e:=e) (stepM_quiet h1).1;refine ⟨r::R,m::ms,by simp [hl],by simp [hm],fun k o' ho=>?_,?_⟩
  ·
   cases k with
   | zero =>
    simp at ho;subst ho;exact ⟨m,r,rfl,rfl,by simpa [qao] using h1⟩
   | succ k =>
    obtain ⟨m',r',g1,g2,g3⟩:=hk k o' (by simpa using ho);exact ⟨m',r',by simpa using g1,by simpa using g2,by simpa [qao,hq] using g3⟩
  · simpa [qao,hq] using hK
def MadeAt (c:Ctx) (w:World) (s0:Nat):MK→Nat→Value→Prop
 | .val,_,_=>True
 | .arr el sz n zr,b,v=>v=.slice (some ⟨b,0,none⟩) n n∧s0≤b∧n≤68719476736∧zr.length=sz∧∃ cur,w.heap[b]?=some (.cells cur el)∧cur.size=n * sz ∧
   ∀ (i' j:Nat) (r:List AV) (x:AV),(List.replicate n zr)[i']?=some r→r[j]?=some x→∃ u,(cur.toList.take (n * sz))[i' * sz+j]?=some u∧DRel c.D x u
 | .copy _,_,_=>True
 | .cell xs,b,v=>v=.pointer (some ⟨b,0,none⟩)∧s0≤b∧∃ vs T,w.heap[b]?=some (.cells vs T)∧CellsR c xs vs
theorem MadeAt.lt {c:Ctx} {w:World} {s0 b:Nat} {m:MK} {v:Value} (hm:m.made=true) (h:MadeAt c w s0 m b v):b<w.heap.size∧s0≤b:=by
 cases m with
 | val=>cases hm
 | copy t=>cases hm
 | arr el sz n zr =>
  obtain ⟨_,h0,_,_,cur,h1,_⟩:=h;exact ⟨(Array.getElem?_eq_some_iff.1 h1).1,h0⟩
 | cell xs =>
  obtain ⟨_,h0,vs,T,h1,_⟩:=h;exact ⟨(Array.getElem?_eq_some_iff.1 h1).1,h0⟩
theorem MadeAt.keep {c:Ctx} {w w':World} {s0 b:Nat} {m:MK} {v:Value} (h:MadeAt c w s0 m b v) (hw:∀ b,b<w.heap.size→w'.heap[b]?=w.heap[b]?):MadeAt c w' s0 m b v:=by
 cases m with
 | val=>trivial
 | copy t=>trivial
 | arr el sz n zr =>
  have hl:=(MadeAt.lt rfl h).1;obtain ⟨a,b',d,e,cur,h1,h2⟩:=h;exact ⟨a,b',d,e,cur,by rw [hw _ hl];exact h1,h2⟩
 | cell xs =>
  have hl:=(MadeAt.lt rfl h).1;obtain ⟨a,b',vs,T,h1,h2⟩:=h;exact ⟨a,b',vs,T,by rw [hw _ hl];exact h1,h2⟩
structure MReg (P:Program) (E:Ent) (l:List Oper) (e0:Env) (R:List DR) (ms:List MK):Prop where
 ok:DrawOk l
 len:R.length=l.length
 mlen:ms.length=l.length
 step:∀ (k:Nat) (o:Oper),l[k]?=some o→∃ m r,ms[k]?=some m∧R[k]?=some r∧stepM P E.N o (qao e0 (R.take k)) fun m' r'=>m'=m∧r'=r
structure MInv (E:Ent) (s0:Nat) (e0:Env) (l:List Oper) (R:List DR) (ms:List MK) (c:Ctx) (X:Nat→Bool) (a:Act) (w:World):Prop where
 defers:a.defers=[]
 size:a.tmps.size=E.N
 tmps:∀ t,Rel c (slotX X t 0 R (qa8 e0.t t)) (a.tmps.getD t undef)
 hs:HSim c e0.h w
 ok:E.ok c e0.h w
 copies:∀ k o t d,X k=true→l[k]?=some o→ms[k]?=some (.copy t)→o.dst=some d→(∀ j o',l[j]?=some o'→o'.dst=some t→j<k)→a.tmps.getD d undef=a.tmps.getD t undef
 made:∃ B:Nat→Nat,(∀ k o m d,X k=true→l[k]?=some o→ms[k]?=some m→m.made=true→o.dst=some d→MadeAt c w s0 m (B k) (a.tmps.getD d undef)) ∧
  (∀ k k' o o' m m',X k=true→X k'=true→l[k]?=some o→l[k']?=some o'→ms[k]?=some m→ms[k']?=some m'→m.made=true→m'.made=true→o.dst≠none→o'.dst≠none→B k=B k'→k=k')
theorem HSim.alloc {c:Ctx} {h:qab} {w:World} (s:HSim c h w) (o:Obj):HSim c h (w.alloc o):=s.ext (fun _ hb=>heap_alloc_old w _ hb) (.refl c) (fun _ _=>rfl) (fun _ _ _ h=>.inl h) s.dom
theorem Ent.ok.alloc {c:Ctx} {h:qab} {w:World} (k:E.ok c h w) (s:HSim c h w) (o:Obj):E.ok c h (w.alloc o):=k.ext' s (fun _ hb=>heap_alloc_old w _ hb) (.refl c) (fun _=>rfl) rfl rfl rfl (qd1 w _) (fun _ _ _ h=>.inl h)
theorem draw_stepM {s0:Nat} {l:List Oper} {e0:Env} {R:List DR} {ms:List MK} (d:MReg P E l e0 R ms) {c:Ctx} {X:Nat→Bool} (hcl:Closed l X) {a:Act} {w:World} (hs0:s0≤w.heap.size) (inv:MInv E s0 e0 l R ms c X a w) {i:Nat} {o:Oper} (hi:l[i]?=some o) (hXi:X i=false)
  (hdep:∀ e,e∈o.after→Region.binds .any e=true→X e.on=true) {Q:Exit→Act→World→Prop} :
  wpOp P l.toArray Q i (fun a' w'=>s0≤w'.heap.size∧MInv E s0 e0 l R ms c (fun j=>if j=i then true else X j) a' w') a w:=by
 obtain ⟨m,r,hm,hr,hst⟩:=d.step i o hi;obtain ⟨hrk,hrd⟩:=stepM_quiet hst;have hdst:∀ {k:Nat} {r:DR},R[k]?=some r→∃ o,l[k]?=some o∧r.dst=o.dst:=fun {k r} hk=>by
  have hlt:k<l.length:=by rw [← d.len];exact (List.getElem?_eq_some_iff.1 hk).1
  obtain ⟨_,r',_,h2,h3⟩:=d.step k l[k] (by simp [hlt]);rw [hk] at h2;cases h2;exact ⟨l[k],by simp [hlt],(stepM_quiet h3).2⟩
 have hslot:∀ t,t∈tmpsOf o.op.operands.toList++guardSlot l o→Rel c (qa8 (qao e0 (R.take i)).t t) (a.tmps.getD t undef):=by
  intro t ht;have:=inv.tmps t;rw [lookT_envAt,slotX_take];rw [qc1 (Y:=X)]
  · exact this
  ·
   intro j r' hr' hd;simp only [Nat.zero_add,Bool.and_true];obtain ⟨o',ho',hd'⟩:=hdst hr';rw [hd'] at hd;rcases d.ok.temps i o t j o' hi ht ho' hd with rfl | hord
   · simp [hXi]
   ·
    rcases Nat.lt_trichotomy j i with h | h | h
    ·
     rw [Nat.min_eq_right (Nat.le_of_lt h),Nat.max_eq_left (Nat.le_of_lt h)] at hord;rw [ord_in hcl i j o hi hdep hord,decide_eq_true h]
    · subst h;simp [hXi]
    ·
     rw [Nat.min_eq_left (Nat.le_of_lt h),Nat.max_eq_right (Nat.le_of_lt h)] at hord;have hXj:X j=false:=by
      cases hX:X j with
      | false=>rfl
      | true=>have:=ord_in hcl j i o' ho' (hcl j o' hX ho') hord;rw [hXi] at this;cases this
     rw [hXj,decide_eq_false (by omega)]
 have hops:∀ x,x∈o.op.operands.toList→Rel c ((qao e0 (R.take i)).get x) (a.eval x):=by
  intro x hx;cases x with
  | tmp t=>exact hslot t (List.mem_append_left _ (by simp only [tmpsOf,List.mem_filterMap];exact ⟨.tmp t,hx,rfl⟩))
  | const v=>exact liftK_rel c v
  | global g=>exact .top _
  | func f=>exact .fn _ [] [] #[] #[] rfl rfl (by simp) (by simp)
 have hopsS:∀ L:List Operand,(∀ x,x∈L→x∈o.op.operands.toList)→qax (qao e0 (R.take i)) true L→∀ x,x∈L→Rel c ((qao e0 (R.take i)).getS x) (a.eval x):=fun L hL hall x hx =>
  strip_rel (hops x (hL x hx)) (haveAll_mem hall x hx)
 have hh0:(qao e0 (R.take i)).h=e0.h:=by
  have:∀ (R:List DR) (e:Env),(∀ r∈R,r.k=.quiet none)→(qao e R).h=e.h:=fun R=>by
   induction R with
   | nil=>intro e _;rfl
   | cons r R ih =>
    intro e h;show (qao (r.next e) R).h=e.h;rw [ih _ fun r hr=>h r (by simp [hr]),next_quietM (h r (by simp))];cases r.dst<;>rfl
  refine this _ _ fun r hr=>?_;obtain ⟨k,hk⟩:=List.getElem?_of_mem (List.mem_of_mem_take hr);obtain ⟨o',ho',_⟩:=hdst hk;obtain ⟨_,r',_,h2,h3⟩:=d.step k o' ho';rw [hk] at h2;cases h2;exact (stepM_quiet h3).1
 obtain ⟨hg,hdok,hop⟩:=hst;have hget:(l.toArray)[i]?=some o:=by simpa using hi
 -- the slots behind a value
 have tm:∀ (u:Value),Rel c r.res u→∀ t,Rel c (slotX (fun j=>if j=i then true else X j) t 0 R (qa8 e0.t t)) ((a.put o.dst u).tmps.getD t undef):=fun u hu t=>by
  have h1:=slotX_add (X:=X) (t:=t) (k:=0) (x:=qa8 e0.t t) hr (fun j r' hr' hd hn=>by
   obtain ⟨o',ho',hd'⟩:=hdst hr';exact d.ok.uniq i o j o' hi ho' (by rw [← hrd];exact hn) (by rw [← hrd,← hd',hd]))
  simp only [Nat.zero_add] at h1;rw [h1];cases hdst:o.dst with
  | none =>
   rw [hrd,hdst,if_neg (by simp)];exact inv.tmps t
  | some dd =>
   have hlt:dd<a.tmps.size:=by rw [inv.size];rw [hdst] at hdok;exact hdok
   rw [hrd,hdst];by_cases hdt:dd=t
   · subst hdt;rw [if_pos rfl];simpa [Act.put,hlt] using hu
   ·
    rw [if_neg (by simpa using hdt)];have:=inv.tmps t;simpa [Act.put,Array.getD_eq_getD_getElem?,Array.getElem?_setIfInBounds_ne hdt] using this
 have slotOld:∀ (u:Value) (k:Nat) (o':Oper) (dd:Nat),k≠i→l[k]?=some o'→o'.dst=some dd→(a.put o.dst u).tmps.getD dd undef=a.tmps.getD dd undef:=fun u k o' dd hk ho' hd'=>by
  cases hdst:o.dst with
  | none=>rfl
  | some d2 =>
   have:d2≠dd:=fun e=>hk (d.ok.uniq i o k o' hi ho' (by rw [hdst];simp) (by rw [hdst,hd',e]));simp [Act.put,Array.getD_eq_getD_getElem?,Array.getElem?_setIfInBounds_ne this]
 have slotNew:∀ (u:Value) (dd:Nat),o.dst=some dd→(a.put o.dst u).tmps.getD dd undef=u:=fun u dd hd'=>by
  have hlt:dd<a.tmps.size:=by rw [inv.size];rw [hd'] at hdok;exact hdok
  rw [hd'];simp [Act.put,hlt]
 have pd:∀ u:Value,(a.put o.dst u).defers=[]:=fun u=>by cases o.dst<;>exact inv.defers
 have ps:∀ u:Value,(a.put o.dst u).tmps.size=E.N:=fun u=>by cases o.dst<;>simp [Act.put,inv.size]
 obtain ⟨B,hB1,hB2⟩:=inv.made;have cp:∀ u:Value,(∀ t,m=.copy t→u=a.tmps.getD t undef)→∀ k o' t dd,(if k=i then true else X k)=true→l[k]?=some o'→ms[k]?=some (.copy t)→o'.dst=some dd→(∀ j o2,l[j]?=some o2→o2.dst=some t→j<k)→(a.put o.dst u).tmps.getD dd undef=(a.put o.dst u).tmps.getD t undef:=fun u hu k o' t dd hX ho' hm' hd' hst=>by
  have other:o.dst≠some t→(a.put o.dst u).tmps.getD t undef=a.tmps.getD t undef:=fun hne=>by
   cases hdst:o.dst with
   | none=>rfl
   | some d2 =>
    have:d2≠t:=fun e=>hne (by rw [hdst,e]);simp [Act.put,Array.getD_eq_getD_getElem?,Array.getElem?_setIfInBounds_ne this]
  by_cases hk:k=i
  ·
   subst hk;rw [hi] at ho';cases ho';rw [hm] at hm';cases hm';rw [slotNew u dd hd',other (fun h=>Nat.lt_irrefl _ (hst _ _ hi h))];exact hu t rfl
  ·
   rw [if_neg hk] at hX;rw [slotOld u k o' dd hk ho' hd'];have hne:o.dst≠some t:=fun h=>by
    have hik:=hst _ _ hi h;obtain ⟨m3,r3,g1,_,g3⟩:=d.step k o' ho';rw [hm'] at g1;cases g1;have hasg:=stepM_copy g3;have ht:t∈tmpsOf o'.op.operands.toList++guardSlot l o':=by
     rw [hasg];exact List.mem_append_left _ (by simp [tmpsOf,Op.operands])
    rcases d.ok.temps k o' t i o ho' ht hi h with e | hord
    · exact hk e.symm
    ·
     rw [Nat.min_eq_right (Nat.le_of_lt hik),Nat.max_eq_left (Nat.le_of_lt hik)] at hord;have:=ord_in hcl k i o' ho' (hcl k o' hX ho') hord;rw [hXi] at this;cases this
   rw [other hne];exact inv.copies k o' t dd hX ho' hm' hd' hst
 -- an operation that makes something
 have mk:∀ (u:Value) (ob:Obj),m.made=true→r.res=.top→(execOp a.eval o).run P w=.ok (.value u) (w.alloc ob)→MadeAt c (w.alloc ob) s0 m w.heap.size u →
   wpOp P l.toArray Q i (fun a' w'=>s0≤w'.heap.size∧MInv E s0 e0 l R ms c (fun j=>if j=i then true else X j) a' w') a w:=fun u ob hmm hres hrun hat=>by
  unfold wpOp;simp only [hget];rw [if_pos (by simp [Region.wanted,hg])];refine .inl (qb4 hrun ⟨Nat.le_trans hs0 (qd1 w _),pd u,ps u,tm u (by rw [hres];exact .top _),inv.hs.alloc _,inv.ok.alloc inv.hs _,cp u (fun t e=>by rw [e] at hmm;cases hmm),fun k=>if k=i then w.heap.size else B k,fun k o' m' dd hX ho' hm' hmd hd'=>?_,fun k k' o1 o2 m1 m2 hX hX' ho1 ho2 hm1 hm2 hmd1 hmd2 hn1 hn2 he=>?_⟩)
  ·
   by_cases hk:k=i
   ·
    subst hk;rw [hi] at ho';cases ho';rw [hm] at hm';cases hm';simp only [if_pos];rw [slotNew u dd hd'];exact hat
   ·
    simp only [if_neg hk] at hX ⊢;rw [slotOld u k o' dd hk ho' hd'];exact (hB1 k o' m' dd hX ho' hm' hmd hd').keep fun _ hb=>heap_alloc_old w _ hb
  ·
   have blt:∀ k o' m',k≠i→(if k=i then true else X k)=true→l[k]?=some o'→ms[k]?=some m'→m'.made=true→o'.dst≠none→B k<w.heap.size:=fun k o' m' hk hX ho' hm' hmd hn=>by
    rw [if_neg hk] at hX;obtain ⟨dd,hdd⟩:=Option.ne_none_iff_exists'.1 hn;exact ((hB1 k o' m' dd hX ho' hm' hmd hdd).lt hmd).1
   by_cases hk:k=i
   ·
    by_cases hk':k'=i
    · rw [hk,hk']
    ·
     simp only [if_pos hk,if_neg hk'] at he;have:=blt k' o2 m2 hk' hX' ho2 hm2 hmd2 hn2;omega
   ·
    by_cases hk':k'=i
    ·
     simp only [if_neg hk,if_pos hk'] at he;have:=blt k o1 m1 hk hX ho1 hm1 hmd1 hn1;omega
    ·
     simp only [if_neg hk,if_neg hk'] at he hX hX';exact hB2 k k' o1 o2 m1 m2 hX hX' ho1 ho2 hm1 hm2 hmd1 hmd2 hn1 hn2 he
 have still:∀ (u:Value),m.made=false→(execOp a.eval o).run P w=.ok (.value u) w→Rel c r.res u→(∀ t,m=.copy t→u=a.tmps.getD t undef) →
   wpOp P l.toArray Q i (fun a' w'=>s0≤w'.heap.size∧MInv E s0 e0 l R ms c (fun j=>if j=i then true else X j) a' w') a w:=fun u hmf hrun hu hcu=>by
  unfold wpOp;simp only [hget];rw [if_pos (by simp [Region.wanted,hg])];refine .inl (qb4 hrun ⟨hs0,pd u,ps u,tm u hu,inv.hs,inv.ok,cp u hcu,B,fun k o' m' dd hX ho' hm' hmd hd'=>?_,fun k k' o1 o2 m1 m2 hX hX' ho1 ho2 hm1 hm2 hmd1 hmd2 hn1 hn2 he=>?_⟩)
  ·
   by_cases hk:k=i
   ·
    subst hk;rw [hm] at hm';cases hm';rw [hmf] at hmd;cases hmd
   ·
    simp only [if_neg hk] at hX;rw [slotOld u k o' dd hk ho' hd'];exact hB1 k o' m' dd hX ho' hm' hmd hd'
  ·
   have hki:k≠i:=fun e=>by subst e;rw [hm] at hm1;cases hm1;rw [hmf] at hmd1;cases hmd1
   have hki':k'≠i:=fun e=>by subst e;rw [hm] at hm2;cases hm2;rw [hmf] at hmd2;cases hmd2
   simp only [if_neg hki,if_neg hki'] at hX hX';exact hB2 k k' o1 o2 m1 m2 hX hX' ho1 ho2 hm1 hm2 hmd1 hmd2 hn1 hn2 he
 split at hop
 ·
  rename_i T x y hopx;obtain ⟨⟨rfl,_⟩,hop⟩:=hop;split at hop
  ·
   rename_i el sz n hT hxv;obtain ⟨hel,hsize,hpos,hbytes,hzt,hall,hn0,hn1,rfl,rfl⟩:=hop;obtain ⟨n,rfl⟩:=Int.eq_ofNat_of_zero_le hn0;have hrx:=hopsS [x] (by rw [hopx];simp [Op.operands]) hall x (by simp);rw [hxv] at hrx;have hvx:a.eval x=.int .i64 n:=hrx.val_inv;obtain ⟨iT,dT,zT,_,hund,_,hkd,_⟩:=qat hT (by simp);obtain ⟨rfl,ie,hie,hies⟩:=qbv hkd;obtain ⟨ie',de,ze,hie',_,hze,hke,hts,htz,hzs,hz1⟩:=qat (P:=P) (t:=el) rfl hel;rw [hie] at hie';cases hie';subst hies;have hb:ie.bytes≤2048:=by
    have:qap P el=ie.bytes:=by
     unfold qap;have hne:=hel;unfold qak at hne;split at hne
     ·
      rename_i x hx;obtain ⟨i2,d2,z2,g1,_,_,rfl,_⟩:=ti_spec hx;rw [hie] at g1;cases g1;simp [hx]
     · exact (hne rfl).elim
    omega
   have hzall:∀ v,v∈ze.cells.toList→zCell v=nilz (liftC v)∧zOk v=true:=fun v hv=>by
    have h1:liftC v≠.top:=hzt _ (by rw [htz];exact List.mem_map_of_mem hv);obtain ⟨h2,h3⟩:=zCell_lift h1;exact ⟨h2,h3 (hz1 v hv)⟩
   have hrow:(qa1 P el).map nilz=ze.cells.toList.map zCell:=by
    rw [htz,List.map_map];exact List.map_congr_left fun v hv=>(hzall v hv).1.symm
   have hn2:n≤68719476736:=by omega
   have hbb:ie.bytes * n≤2048 * 68719476736:=Nat.mul_le_mul hb hn2;have hrun:=run_make (P:=P) w T el ie ze hund hie hze .i64 .i64 (n:Int) (n:Int) (by omega) (Int.le_refl _) (by
    have:(ie.bytes:Int) * (n:Int)=((ie.bytes * n:Nat):Int):=by simp
    omega) (by omega)
   simp only [Int.toNat_natCast] at hrun;have hget2:∀ m,m<n * ie.size→(madeCells ze.cells (n * ie.size))[m]?=ze.cells[m % ie.size]?:=fun m hm=>by
    unfold madeCells;rw [Array.getElem?_map];simp only [Array.getElem?_range,hm,if_true,Option.map_some,hzs];have:m % ie.size<ze.cells.size:=by rw [hzs];exact Nat.mod_lt _ hpos
    rw [Array.getElem?_eq_getElem this,getElem!_pos ze.cells (m % ie.size) this]
   refine mk (.slice (some ⟨w.heap.size,0,none⟩) n n) (.cells (madeCells ze.cells (n * ie.size)) el) rfl rfl (by simp only [execOp,hopx,hvx,Sem.run_bind,hrun,Result.andThen_ok,Sem.run_pure]) ?_;simp only [Int.ofNat_eq_natCast,Int.toNat_natCast];refine ⟨rfl,hs0,hn2,by rw [hrow];simp [hzs],_,heap_alloc_new w _,by simp [madeCells],?_⟩;intro i' j r x' hr hx';have hin:i'<n:=by
    have:=(List.getElem?_eq_some_iff.1 hr).1;simpa using this
   rw [List.getElem?_replicate,if_pos hin] at hr;cases hr;rw [hrow,List.getElem?_map] at hx';obtain ⟨u,hu,rfl⟩:=Option.map_eq_some_iff.1 hx';have hj:j<ie.size:=by
    have:=(List.getElem?_eq_some_iff.1 hu).1;simpa [hzs] using this
   have hlt:i' * ie.size+j<n * ie.size:=by
    have:(i'+1) * ie.size≤n * ie.size:=Nat.mul_le_mul_right _ hin;rw [Nat.succ_mul] at this;omega
   refine ⟨u,?_,zRel (hzall u (List.mem_of_getElem? hu)).2⟩;rw [List.getElem?_take,if_pos hlt,Array.getElem?_toList,hget2 _ hlt];have:(i' * ie.size+j) % ie.size=j:=by
    rw [Nat.mul_comm,Nat.mul_add_mod];exact Nat.mod_eq_of_lt hj
   rw [this,← Array.getElem?_toList];exact hu
  · exact hop.elim
 ·
  rename_i T hopx;obtain ⟨⟨hk,_⟩,rfl,rfl⟩:=hop;obtain ⟨iT,dT,z,h1,h2,h3,h4,h5,h6,h7,h8⟩:=qat (P:=P) (t:=T) rfl hk;have hzv:(zeroValue T).run P w=.ok z w:=by simp [zeroValue,run_typeInfo _ h1,h3]
  refine mk (.pointer (some ⟨w.heap.size,0,none⟩)) (.cells z.cells T) rfl rfl (by simp only [execOp,hopx,Instr.alloc,newVar,newRow,Sem.run_bind,hzv,qc2,Sem.run_pure,Result.andThen_ok]) ?_;exact ⟨rfl,hs0,_,T,heap_alloc_new w _,by rw [h6];exact zero_cells c h8⟩
 · exact hop.elim
 ·
  rename_i t hopx;split at hop
  ·
   obtain ⟨_,rfl,rfl⟩:=hop;have hrun:(execOp a.eval o).run P w=.ok (.value (a.tmps.getD t undef)) w:=by simp only [execOp,hopx,Sem.run_pure];rfl
   exact still _ rfl hrun (.top _) (fun t' e=>by cases e;rfl)
  ·
   obtain ⟨hall,hside,rfl,rfl⟩:=hop;have hrel:=hopsS [.tmp t] (by rw [hopx];simp [Op.operands]) hall;rw [hh0] at hside;obtain ⟨u,hrun,hu⟩:=still_ok (o:=o) inv.hs (by rw [hopx];simpa [Op.operands] using hrel) (by rw [hopx];exact hside);exact still u rfl hrun (by rw [hh0];rw [hopx] at hu;exact hu) (fun t' e=>by cases e)
 ·
  obtain ⟨heff,hall,hside,rfl,rfl⟩:=hop;have hrel:=hopsS _ (fun x hx=>hx) hall;rw [hh0] at hside;obtain ⟨u,hrun,hu⟩:=still_ok inv.hs hrel hside;exact still u rfl hrun (by rw [hh0];exact hu) (fun t' e=>by cases e)
theorem stepM_dst {N:Nat} {o:Oper} {e:Env} {m:MK} {r:DR} (h:stepM P N o e (fun m' r'=>m'=m∧r'=r)) (hm:m.made=true):o.dst≠none:=by
 unfold stepM at h;obtain ⟨hg,hd,h⟩:=h;split at h
 · intro e;have:=h.1.2;rw [e] at this;cases this
 · intro e;have:=h.1.2;rw [e] at this;cases this
 · exact h.elim
 ·
  split at h
  · obtain ⟨_,rfl,_⟩:=h;cases hm
  · obtain ⟨_,_,rfl,_⟩:=h;cases hm
 · obtain ⟨_,_,_,rfl,_⟩:=h;cases hm
theorem any_gen {l:List Oper} {m:Nat} (hm:m≤l.length) (t:TailOk m l) (hgd:∀ (i:Nat) (o:Oper) (j:Nat) (want:Bool),(l.take m)[i]?=some o→o.guard=some (j,want)→j<i) {Q:Exit→Act→World→Prop} (Inv:(Nat→Bool)→Act→World→Prop)
  (hstep:∀ X a w i o,Closed (l.take m) X→Inv X a w→(l.take m)[i]?=some o→X i=false→(∀ e,e∈o.after→Region.binds .any e=true→X e.on=true)→wpOp P (l.take m).toArray Q i (fun a' w'=>Inv (fun j=>if j=i then true else X j) a' w') a w)
  (hQ:∀ X a w,(∀ j,j<m→X j=true)→Inv X a w→wpList P l.toArray Q (l.drop m) a w) :
  ∀ (fuel:Nat) (L:Array Bool),L.size=l.length→(∀ j,m≤j→L.getD j false=false)→L.toList.count false≤fuel→Closed l (fun j=>L.getD j false)→∀ (a:Act) (w:World),Inv (fun j=>L.getD j false) a w→wpAny P .any l.toArray Q fuel L a w:=by
 intro fuel;have hiff:∀ (L:Array Bool),(∀ j,m≤j→L.getD j false=false)→(∀ j,j<m→L.getD j false=true)→∀ j,j<l.length→(L.getD j false=true↔j<m):=fun L hge hall j _=>by
  refine ⟨fun h=>?_,hall j⟩;rcases Nat.lt_or_ge j m with h1 | h1
  · exact h1
  · rw [hge j h1] at h;cases h
 have hcount:∀ (k:Nat) (L:Array Bool),L.size=l.length→(∀ j,k≤j→L.getD j false=false)→k≤l.length→l.length - k≤L.toList.count false:=fun k L hL hk hkl=>by
  have h1:(L.toList.drop k).count false=l.length - k:=by
   have h2:(L.toList.drop k).count false=(L.toList.drop k).length:=List.count_eq_length.2 fun b hb=>by
    obtain ⟨j,hj⟩:=List.getElem?_of_mem hb;rw [List.getElem?_drop] at hj;have:=hk (k+j) (by omega);simp only [Array.getD_eq_getD_getElem?] at this;rw [← Array.getElem?_toList,hj] at this;simpa using this.symm
   rw [h2];simp [hL]
  have h3:(L.toList.drop k).Sublist L.toList:=List.drop_sublist _ _;have:=h3.count_le false;omega
 induction fuel with
 | zero =>
  intro L hL hge hc hcl a w inv;by_cases hall:∀ j,j<m→L.getD j false=true
  ·
   have:=hcount m L hL hge hm;exact tail_any t 0 m L (Nat.le_refl _) hm hL (hiff L hge hall) (by omega) a w (hQ _ a w hall inv)
  ·
   obtain ⟨i,h1,h2,_⟩:=least_out hall;have:=count_ne (L:=L) (i:=i) (by omega) h2;omega
 | succ fuel ih =>
  intro L hL hge hc hcl a w inv;by_cases hall:∀ j,j<m→L.getD j false=true
  ·
   have:=hcount m L hL hge hm;exact tail_any t (fuel+1) m L (Nat.le_refl _) hm hL (hiff L hge hall) (by omega) a w (hQ _ a w hall inv)
  ·
   obtain ⟨i0,g1,g2,g3⟩:=least_out hall;refine ⟨fun hr=>?_,fun i hi=>?_⟩
   ·
    have:=ready_min t.after hL (i:=i0) (by omega) g2 g3;rw [hr] at this;cases this
   ·
    obtain ⟨o,h1,h2,h3⟩:=ready_mem hi;have hlt:i<L.size:=by rw [hL];exact (List.getElem?_eq_some_iff.1 h1).1
    have hLi:L.getD i false=false:=by simpa [Array.getD,hlt] using h2
    have him:i<m:=by
     rcases Nat.lt_or_ge i m with h4 | h4
     · exact h4
     ·
      have:=ord_in hcl i i0 o h1 h3 (t.ord i i0 h4 (by omega) (by omega));rw [show L.getD i0 false=false from g2] at this;cases this
    have h1':(l.take m)[i]?=some o:=by rw [List.getElem?_take,if_pos him];exact h1
    have hcl':Closed (l.take m) fun j=>L.getD j false:=fun j o' hj ho' e he hb=>by
     have hjm:j<m:=by have:=(List.getElem?_eq_some_iff.1 ho').1;simp at this;omega
     rw [List.getElem?_take,if_pos hjm] at ho';exact hcl j o' hj ho' e he hb
    refine wpOp_take him (fun o' j want ho' hg=>?_) (wpOp_mono ?_ (hstep _ a w i o hcl' inv h1' hLi h3))
    ·
     rw [h1] at ho';cases ho';have:=hgd i o j want h1' hg;omega
    ·
     rintro a' w' inv';rw [set_fun hlt] at inv';refine ih _ (by simpa using hL) (fun j hj=>?_) ?_ (closed_set hlt h1 h3 hcl) a' w' inv'
     ·
      have hf:=congrFun (set_fun hlt) j;rw [← hf,if_neg (by omega)];exact hge j hj
     ·
      have:=count_set_lt hlt hLi;omega
theorem finE_snoc {o:Oper} {m:MK}:∀ {l:List Oper} {ms:List MK} {e:Env},ms.length=l.length→finE (l++[o]) (ms++[m]) e=finS (finE l ms e) o m
 | [],[],e,_=>rfl
 | _::_,[],_,h=>by cases h
 | [],_::_,_,h=>by cases h
 | o'::l,m'::ms,e,h=>by
  simp only [List.cons_append,finE];exact finE_snoc (by simpa using h)
theorem fin_ok {s0:Nat} {l:List Oper} {e0:Env} {R:List DR} {ms:List MK} (d:MReg P E l e0 R ms) {c:Ctx} {X:Nat→Bool} (hall:∀ j,j<l.length→X j=true) {a:Act} {w:World} (inv:MInv E s0 e0 l R ms c X a w)
  (hE0:E.w.heap.size≤s0) (hbase:∀ i o b,e0.h[i]?=some o→qal c i o=some b→b<s0) (hD:∀ b j v,c.D b j=some v→b<s0) (hcB:copyB l=true) :
  ∃ c',Sim E.N c' (finE l ms (qao e0 R)) a w∧E.ok c' (finE l ms (qao e0 R)).h w:=by
 obtain ⟨B,hB1,hB2⟩:=inv.made;have hq:∀ r∈R,r.k=.quiet none:=fun r hr=>by
  obtain ⟨k,hk⟩:=List.getElem?_of_mem hr;have hlt:k<l.length:=by rw [← d.len];exact (List.getElem?_eq_some_iff.1 hk).1
  obtain ⟨_,r',_,h2,h3⟩:=d.step k l[k] (by simp [hlt]);rw [hk] at h2;cases h2;exact (stepM_quiet h3).1
 have hh0:(qao e0 R).h=e0.h:=by
  have:∀ (R:List DR) (e:Env),(∀ r∈R,r.k=.quiet none)→(qao e R).h=e.h:=fun R=>by
   induction R with
   | nil=>intro e _;rfl
   | cons r R ih =>
    intro e h;show (qao (r.next e) R).h=e.h;rw [ih _ fun r hr=>h r (by simp [hr]),next_quietM (h r (by simp))];cases r.dst<;>rfl
  exact this R e0 hq
 have key:∀ k,k≤l.length→∃ c',c.le c'∧c'.D=c.D∧Sim E.N c' (finE (l.take k) (ms.take k) (qao e0 R)) a w∧E.ok c' (finE (l.take k) (ms.take k) (qao e0 R)).h w ∧
   ∀ i o b,(finE (l.take k) (ms.take k) (qao e0 R)).h[i]?=some o→qal c' i o=some b→b<s0∨∃ k' o' m',k'<k∧l[k']?=some o'∧ms[k']?=some m'∧m'.made=true∧o'.dst≠none∧b=B k':=fun k=>by
  induction k with
  | zero =>
   intro _;refine ⟨c,.refl c,rfl,⟨inv.defers,inv.size,fun t=>?_,?_⟩,?_,fun i o b hi hb=>.inl ?_⟩
   ·
    have:=inv.tmps t;rw [qc1 (Y:=fun _=>true)] at this
    ·
     simp only [List.take_zero,finE,lookT_envAt];exact this
    ·
     intro j r hr _;rw [Nat.zero_add];exact hall j (by rw [← d.len];exact (List.getElem?_eq_some_iff.1 hr).1)
   · simp only [List.take_zero,finE,hh0];exact inv.hs
   · simp only [List.take_zero,finE,hh0];exact inv.ok
   · simp only [List.take_zero,finE,hh0] at hi;exact hbase i o b hi hb
  | succ k ih =>
   intro hk;obtain ⟨c',hle,hcD,s',k',hblk⟩:=ih (by omega);obtain ⟨m,r,hm,hr,hst⟩:=d.step k l[k] (List.getElem?_eq_getElem (by omega));have hml:k<ms.length:=by rw [d.mlen];omega
   have hm':ms[k]=m:=by rw [List.getElem?_eq_getElem hml] at hm;exact Option.some.inj hm
   rw [List.take_succ_eq_append_getElem (by omega),List.take_succ_eq_append_getElem hml,finE_snoc (by rw [List.length_take,List.length_take,d.mlen]),hm'];obtain ⟨F,hF⟩:∃ F,finE (l.take k) (ms.take k) (qao e0 R)=F:=⟨_,rfl⟩
   rw [hF] at s' k' hblk ⊢;have hXk:=hall k (by omega);have hlk:l[k]?=some l[k]:=List.getElem?_eq_getElem (by omega);have fr:m.made=true→∀ (hd:l[k].dst≠none),s0≤B k→(∀ i o,F.h[i]?=some o→qal c' i o≠some (B k))∧∀ j,c'.D (B k) j=none:=fun hmd hd hs0=>by
    refine ⟨fun i o hi hb=>?_,fun j=>?_⟩
    ·
     rcases hblk i o (B k) hi hb with h | ⟨k2,o2,m2,h1,h2,h3,h4,h5,h6⟩
     · omega
     ·
      have:=hB2 k k2 l[k] o2 m m2 hXk (hall k2 (by omega)) hlk h2 hm h3 hmd h4 hd h5 h6;omega
    ·
     rw [hcD];cases hv:c.D (B k) j with
     | none=>rfl
     | some v=>have:=hD _ _ _ hv;omega
   cases m with
   | val=>exact ⟨c',hle,hcD,s',k',fun i o b hi hb=>(hblk i o b hi hb).imp id fun ⟨k2,o2,m2,h1,h2⟩=>⟨k2,o2,m2,by omega,h2⟩⟩
   | copy t =>
    have hasg:=stepM_copy hst;have hFh:(finS F l[k] (.copy t)).h=F.h:=by
     unfold finS;cases l[k].dst<;>rfl
    refine ⟨c',hle,hcD,⟨s'.defers,s'.size,fun t'=>?_,by rw [hFh];exact s'.hs⟩,by rw [hFh];exact k',fun i o b hi hb=>?_⟩
    ·
     cases hdd:l[k].dst with
     | none =>
      simp only [finS,hdd,Env.put];exact s'.tmps t'
     | some dd =>
      simp only [finS,hdd,Env.put,qa8];by_cases ht:dd=t'
      ·
       subst ht;simp only [beq_self_eq_true,cond_true];rw [inv.copies k l[k] t dd hXk hlk hm hdd (fun j o' ho' hd'=>copyB_of hcB hlk hasg ho' hd')];exact s'.tmps t
      ·
       have:(dd == t')=false:=by simpa using ht
       simp only [this,cond_false];exact s'.tmps t'
    ·
     rw [hFh] at hi;exact (hblk i o b hi hb).imp id fun ⟨k2,o2,m2,h1,h2⟩=>⟨k2,o2,m2,by omega,h2⟩
   | arr el sz n zr =>
    have hd:=stepM_dst hst rfl;obtain ⟨dd,hdd⟩:=Option.ne_none_iff_exists'.1 hd;obtain ⟨hv,hs0,hn,hz,cur,hheap,hsize,hus⟩:=hB1 k l[k] _ dd hXk hlk hm rfl hdd;obtain ⟨f1,f2⟩:=fr rfl hd hs0;obtain ⟨g1,g2,g3⟩:=uarr_put (E:=E) (e:=el) (sz:=sz) (n:=n) (b:=B k) (cur:=cur) (rows:=List.replicate n zr) s'.hs k' (by omega) hheap f1 f2 (by simp) hn (fun r hr=>by rw [List.eq_of_mem_replicate hr];exact hz) hsize (by rw [hcD];exact hus);refine ⟨_,hle.trans g1,hcD,⟨s'.defers,s'.size,fun t=>?_,?_⟩,?_,fun i o b hi hb=>?_⟩
    ·
     simp only [finS,hdd,Env.put,qa8];by_cases ht:dd=t
     ·
      subst ht;simp only [beq_self_eq_true,cond_true];rw [hv];exact .own _ _ _ (by simp [Ctx.addSl]) rfl
     ·
      have:(dd == t)=false:=by simpa using ht
      simp only [this,cond_false];exact (s'.tmps t).mono g1
    · simp only [finS,hdd,Env.put];exact g2
    · simp only [finS,hdd,Env.put];exact g3
    ·
     simp only [finS,hdd,Env.put] at hi;rcases qam hi with h1 | ⟨rfl,rfl⟩
     ·
      rw [(s'.hs.obj i o h1).blk g1] at hb;exact (hblk i o b h1 hb).imp id fun ⟨k2,o2,m2,h1,h2⟩=>⟨k2,o2,m2,by omega,h2⟩
     ·
      refine .inr ⟨k,l[k],_,by omega,hlk,hm,rfl,hd,?_⟩;simp [qal,Ctx.addSl,Value.ownBlock] at hb;exact hb.symm
   | cell xs =>
    have hd:=stepM_dst hst rfl;obtain ⟨dd,hdd⟩:=Option.ne_none_iff_exists'.1 hd;obtain ⟨hv,hs0,vs,T,hheap,hcl⟩:=hB1 k l[k] _ dd hXk hlk hm rfl hdd;obtain ⟨f1,f2⟩:=fr rfl hd hs0;have hle2:c'.le (c'.addBlk F.h.length (B k)):=Ctx.addBlk_le (s'.hs.dom _ (Nat.le_refl _)).1;have hb2:∀ b',qal (c'.addBlk F.h.length (B k)) F.h.length (.cells xs)=some b'→b'=B k:=fun b' hb'=>by
     simp only [qal,Ctx.addBlk,if_pos,Option.some.injEq] at hb';exact hb'.symm
    have g2:=s'.hs.push (b:=B k) (o:=.cells xs) f1 f2 ⟨B k,vs,T,by simp [Ctx.addBlk],hheap,hcl.1,fun j x v hx hv=>⟨((hcl.2 j x v hx hv).1.mono hle).mono hle2,(hcl.2 j x v hx hv).2⟩⟩ hb2;have g3:=k'.push s'.hs (b:=B k) (o:=.cells xs) (by omega) hb2;refine ⟨_,hle.trans hle2,hcD,⟨s'.defers,s'.size,fun t=>?_,?_⟩,?_,fun i o b hi hb=>?_⟩
    ·
     simp only [finS,hdd,Env.put,qa8];by_cases ht:dd=t
     ·
      subst ht;simp only [beq_self_eq_true,cond_true];rw [hv];exact .ptr _ _ _ (by simp [Ctx.addBlk])
     ·
      have:(dd == t)=false:=by simpa using ht
      simp only [this,cond_false];exact (s'.tmps t).mono hle2
    · simp only [finS,hdd,Env.put];exact g2
    · simp only [finS,hdd,Env.put];exact g3
    ·
     simp only [finS,hdd,Env.put] at hi;rcases qam hi with h1 | ⟨rfl,rfl⟩
     ·
      rw [(s'.hs.obj i o h1).blk hle2] at hb;exact (hblk i o b h1 hb).imp id fun ⟨k2,o2,m2,h1,h2⟩=>⟨k2,o2,m2,by omega,h2⟩
     · exact .inr ⟨k,l[k],_,by omega,hlk,hm,rfl,hd,hb2 b hb⟩
 obtain ⟨c',_,_,s',k',_⟩:=key l.length (Nat.le_refl _);rw [List.take_length,show ms.take l.length=ms by rw [← d.mlen,List.take_length]] at s' k';exact ⟨c',s',k'⟩
theorem awp_drawM {id:Nat} (m:Nat) {l:List Oper} {Q:AExit→Env→Prop} {e:Env} (hm:P.follows .mixedOrders=true) (hB:(decide (m≤l.length)&&drawB (l.take m)&&tailB m l&&copyB (l.take m))=true)
  (h:opsM P E.N (l.take m) e [] fun ms e1=>opsG P E.N Q ((l.take m).map (·.dst)) (l.drop m) (finE (l.take m) ms e1)):AWp P E (.region id l.toArray true) Q e:=fun c a w s k=>by
 obtain ⟨R,ms,hlen,hml,hstep,hQ⟩:=opsM_wit h;simp only [List.nil_append] at hQ;simp only [Bool.and_eq_true,decide_eq_true_eq] at hB;obtain ⟨⟨⟨hml2,hB⟩,hT⟩,hcB⟩:=hB;have d:MReg P E (l.take m) e R ms:=⟨drawOk_of hB,hlen,hml,hstep⟩
 have hll:(l.take m).length=m:=by rw [List.length_take];omega
 refine wp_region_any hm ?_;have hs':HSim c e.h { w with drawn:=w.drawn+1 }:=s.hs.ext (fun _ _=>rfl) (.refl c) (fun _ _=>rfl) (fun _ _ _ h=>.inl h) s.hs.dom;have hk':E.ok c e.h { w with drawn:=w.drawn+1 }:=k.ext' s.hs (fun _ _=>rfl) (.refl c) (fun _=>rfl) rfl rfl rfl (Nat.le_refl _) (fun _ _ _ h=>.inl h);have hff:(fun _=>false)=fun j=>(Array.replicate l.toArray.size false).getD j false:=by
  funext j;simp [Array.getD_eq_getD_getElem?,Array.getElem?_replicate];split<;>rfl
 have hX0:∀ t,slotX (fun _=>false) t 0 R (qa8 e.t t)=qa8 e.t t:=fun t=>slotX_none (fun j r _ h=>by cases h);refine any_gen hml2 (tailOk_of hT) (fun i o j want hi hg=>d.ok.guard i o j want hi hg) (fun X a w'=>w.heap.size≤w'.heap.size∧MInv E w.heap.size e (l.take m) R ms c X a w') (fun X a w' i o hcl inv hi hXi hdep=>draw_stepM d hcl inv.1 inv.2 hi hXi hdep) (fun X a w' hall inv=>?_) _ _ (by simp) (fun j _=>(congrFun hff j).symm) (by simp) ?_ a _ ?_
 ·
  obtain ⟨c',s',k'⟩:=fin_ok d (fun j hj=>hall j (by omega)) inv.2 (by have:=k.size;exact this) (fun i o b hi hb=>(s.hs.obj i o hi).lt hb) (fun b j v hv=>World.block_lt_of_cell? w ⟨b,j,none⟩ (s.hs.data b j v hv)) hcB;exact qda (l.drop m) (l.take m) _ (by simp) hQ c' a w' s' k'
 ·
  intro j o hj;rw [← hff] at hj;cases hj
 ·
  rw [← hff];exact ⟨Nat.le_refl _,s.defers,s.size,fun t=>by rw [hX0];exact s.tmps t,hs',hk',fun _ _ _ _ h=>(Bool.noConfusion h),fun _=>0,⟨fun _ _ _ _ h=>(Bool.noConfusion h),fun _ _ _ _ _ _ h=>(Bool.noConfusion h)⟩⟩
attribute [go_sem] opsM stepM finE finS
end
end Go.Abs
