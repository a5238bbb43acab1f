/- Part 10 of a proof: AbsV, AbsW -/
import Derived.Test.YtcjolkgjhcdhcaaGreatDoorR09
set_option linter.all false

namespace Go.Abs
def tmpsOf (l:List Operand):List Tmp:=l.filterMap fun | .tmp t=>some t | _=>none
def guardSlot (l:List Oper) (o:Oper):List Tmp :=
 match o.guard with
 | some (j,_)=>((l[j]?).bind (·.dst)).toList
 | none=>[]
def ordB (b:Array Nat) (i j:Nat):Bool:=(b.getD j 0).testBit i
def drawB (l:List Oper):Bool :=
 let b:=Region.before l.toArray
 let z:=l.zipIdx
 (z.all fun p=>p.1.after.all fun e=>!Region.binds .any e||e.on<p.2) &&
 (z.all fun p=>(tmpsOf p.1.op.operands.toList++guardSlot l p.1).all fun t=>z.all fun q=>q.1.dst != some t||q.2 == p.2||ordB b (min p.2 q.2) (max p.2 q.2)) &&
 (z.all fun p=>z.all fun q=>q.2 == p.2||p.1.dst == none||p.1.dst != q.1.dst) &&
 (z.all fun p=>z.all fun q=>!(p.2<q.2)||!(isStore p.1.op&&isStore q.1.op)||ordB b p.2 q.2) &&
 (z.all fun p=>match p.1.guard with | some (j,_)=>j<p.2 | none=>true)
structure DrawOk (l:List Oper):Prop where
 after:∀ (j:Nat) (o:Oper),l[j]?=some o→∀ e,e∈o.after→Region.binds .any e=true→e.on<j
 temps:∀ (j:Nat) (o:Oper) (t:Tmp) (i:Nat) (o':Oper),l[j]?=some o→t∈tmpsOf o.op.operands.toList++guardSlot l o→l[i]?=some o'→o'.dst=some t→i=j∨ordB (Region.before l.toArray) (min j i) (max j i)=true
 uniq:∀ (j:Nat) (o:Oper) (i:Nat) (o':Oper),l[j]?=some o→l[i]?=some o'→o.dst≠none→o.dst=o'.dst→i=j
 stores:∀ (j:Nat) (o:Oper) (i:Nat) (o':Oper),l[j]?=some o→l[i]?=some o'→j<i→isStore o.op=true→isStore o'.op=true→ordB (Region.before l.toArray) j i=true
 guard:∀ (j:Nat) (o:Oper) (k:Nat) (want:Bool),l[j]?=some o→o.guard=some (k,want)→k<j
theorem qc9 {l:List Oper} {j:Nat} {o:Oper} (h:l[j]?=some o):(o,j)∈l.zipIdx:=by
 rw [List.mem_zipIdx_iff_getElem?];simpa using h
theorem drawOk_of {l:List Oper} (h:drawB l=true):DrawOk l:=by
 simp only [drawB,Bool.and_eq_true,List.all_eq_true] at h;obtain ⟨⟨⟨⟨h1,h2⟩,h3⟩,h4⟩,h5⟩:=h;refine ⟨fun j o hj e he hb=>?_,fun j o t i o' hj ht hi hd=>?_,fun j o i o' hj hi hn hd=>?_,fun j o i o' hj hi hlt hs hs'=>?_,fun j o k want hj hg=>?_⟩
 ·
  have:=h1 (o,j) (qc9 hj);simp only [Array.all_eq_true'] at this;have:=this e he;simpa [hb] using this
 ·
  have:=h2 (o,j) (qc9 hj) t ht (o',i) (qc9 hi);simp only [hd,bne_self_eq_false,Bool.false_or,Bool.or_eq_true,beq_iff_eq] at this;exact this
 ·
  have:=h3 (o,j) (qc9 hj) (o',i) (qc9 hi);simp only [Bool.or_eq_true,beq_iff_eq,bne_iff_ne,ne_eq] at this;rcases this with (h | h) | h
  · exact h
  · exact (hn h).elim
  · exact (h hd).elim
 ·
  have:=h4 (o,j) (qc9 hj) (o',i) (qc9 hi);simpa [hlt,hs,hs'] using this
 ·
  have:=h5 (o,j) (qc9 hj);simp only [hg] at this;simpa using this
theorem before_spec (l:List Oper):∀ j i,ordB (Region.before l.toArray) i j=true→∃ o,l[j]?=some o∧∃ e,e∈o.after∧Region.binds .any e=true∧(e.on=i∨(e.on<j∧ordB (Region.before l.toArray) i e.on=true)):=by
 have inner:∀ (es:List Edge) (acc:Array Nat) (s i:Nat),(es.foldl (fun s e=>if Region.binds .any e then s ||| 2 ^ e.on ||| acc.getD e.on 0 else s) s).testBit i=true→s.testBit i=true∨∃ e,e∈es∧Region.binds .any e=true∧(e.on=i∨(acc.getD e.on 0).testBit i=true):=by
  intro es
  induction es with
  | nil=>intro acc s i h;exact .inl h
  | cons e es ih =>
   intro acc s i h;rw [List.foldl_cons] at h;rcases ih acc _ i h with h1 | ⟨e',he',h2⟩
   ·
    by_cases hb:Region.binds .any e=true
    ·
     rw [if_pos hb,Nat.testBit_or,Nat.testBit_or,Bool.or_eq_true,Bool.or_eq_true,Nat.testBit_two_pow] at h1;rcases h1 with (h1 | h1) | h1
     · exact .inl h1
     · exact .inr ⟨e,by simp,hb,.inl (by simpa using h1)⟩
     · exact .inr ⟨e,by simp,hb,.inr h1⟩
    · rw [if_neg hb] at h1;exact .inl h1
   · exact .inr ⟨e',by simp [he'],h2⟩
 have outer:∀ (rest done:List Oper) (acc:Array Nat),acc.size=done.length→(∀ j i,(acc.getD j 0).testBit i=true→∃ o,done[j]?=some o∧∃ e,e∈o.after∧Region.binds .any e=true∧(e.on=i∨(e.on<j∧(acc.getD e.on 0).testBit i=true))) →
   ∀ j i,((rest.foldl (fun acc o=>acc.push (o.after.foldl (fun s e=>if Region.binds .any e then s ||| 2 ^ e.on ||| acc.getD e.on 0 else s) 0)) acc).getD j 0).testBit i=true →
    ∃ o,(done++rest)[j]?=some o∧∃ e,e∈o.after∧Region.binds .any e=true∧(e.on=i∨(e.on<j∧((rest.foldl (fun acc o=>acc.push (o.after.foldl (fun s e=>if Region.binds .any e then s ||| 2 ^ e.on ||| acc.getD e.on 0 else s) 0)) acc).getD e.on 0).testBit i=true)):=by
  intro rest
  induction rest with
  | nil=>intro done acc _ h;simpa using h
  | cons o rest ih =>
   intro done acc hsz h;rw [List.foldl_cons];have:=ih (done++[o]) (acc.push (o.after.foldl (fun s e=>if Region.binds .any e then s ||| 2 ^ e.on ||| acc.getD e.on 0 else s) 0)) (by simp [hsz]) (fun j i hji=>by
    have hget:∀ m,m<acc.size→(acc.push (o.after.foldl (fun s e=>if Region.binds .any e then s ||| 2 ^ e.on ||| acc.getD e.on 0 else s) 0)).getD m 0=acc.getD m 0:=fun m hm=>by
     simp only [Array.getD_eq_getD_getElem?,Array.getElem?_push];rw [if_neg (by omega)]
    have hbig:∀ m i,(acc.getD m 0).testBit i=true→m<acc.size:=fun m i hm=>by
     rcases Nat.lt_or_ge m acc.size with h' | h'
     · exact h'
     · rw [Array.getD_eq_getD_getElem?,Array.getElem?_eq_none h'] at hm;simp at hm
    by_cases hj:j<acc.size
    ·
     rw [hget j hj] at hji;obtain ⟨o',h1,e,h2,h3,h4⟩:=h j i hji;refine ⟨o',by rw [List.getElem?_append_left (by omega)];exact h1,e,h2,h3,?_⟩;rcases h4 with h4 | ⟨h4,h5⟩
     · exact .inl h4
     · exact .inr ⟨h4,by rw [hget _ (by omega)];exact h5⟩
    ·
     have hj':j=acc.size:=by
      rcases Nat.lt_or_ge acc.size j with h' | h'
      · rw [Array.getD_eq_getD_getElem?,Array.getElem?_eq_none (by simp;omega)] at hji;simp at hji
      · omega
     subst hj';rw [Array.getD_eq_getD_getElem?,Array.getElem?_push,if_pos rfl] at hji;simp only [Option.getD_some] at hji;rw [← Array.foldl_toList] at hji;rcases inner _ acc 0 i hji with h1 | ⟨e,h1,h2,h3⟩
     · simp at h1
     ·
      refine ⟨o,by rw [hsz];simp,e,by simpa using h1,h2,?_⟩;rcases h3 with h3 | h3
      · exact .inl h3
      · exact .inr ⟨hbig _ _ h3,by rw [hget _ (hbig _ _ h3)];exact h3⟩)
   simpa using this
 intro j i h;have:=outer l [] #[] rfl (fun j i h=>by simp at h) j i (by
  unfold ordB Region.before at h;rw [← Array.foldl_toList] at h;exact h)
 unfold ordB Region.before;rw [← Array.foldl_toList];simpa using this
def Closed (l:List Oper) (X:Nat→Bool):Prop:=∀ j o,X j=true→l[j]?=some o→∀ e,e∈o.after→Region.binds .any e=true→X e.on=true
theorem ord_in {l:List Oper} {X:Nat→Bool} (hX:Closed l X):∀ j i o,l[j]?=some o→(∀ e,e∈o.after→Region.binds .any e=true→X e.on=true)→ordB (Region.before l.toArray) i j=true→X i=true:=by
 intro j
 induction j using Nat.strongRecOn with
 | _ j ih =>
  intro i o hj hall h;obtain ⟨o',h1,e,h2,h3,h4⟩:=before_spec l j i h;rw [hj] at h1;cases h1;have hXe:=hall e h2 h3;rcases h4 with rfl | ⟨h4,h5⟩
  · exact hXe
  ·
   obtain ⟨o2,g1,_⟩:=before_spec l e.on i h5;exact ih e.on h4 i o2 g1 (hX e.on o2 hXe g1) h5
def AObj.isArr:AObj→Bool
 | .arr .. | .uarr ..=>true
 | _=>false
def SameArr (h h':qab):Prop:=∀ (i:Nat) (o:AObj),o.isArr=true→(h[i]?=some o↔h'[i]?=some o)
mutual
theorem norm_congr {h h':qab} (hh:SameArr h h'):∀ x:AV,x.norm h=x.norm h'
 | .nils | .top | .val _ | .slice _ | .ptr _ _ | .eptr _ | .mapr _ | .fn _ _ _ | .opt _ _ | .optr ..=>rfl
 | .agg xs | .tuple xs=>by simp only [AV.norm,normL_congr hh xs]
 | .iface t v=>by simp only [AV.norm,norm_congr hh v]
 | .own i n=>by
  simp only [AV.norm];split
  ·
   rename_i e sz rows hi;rw [(hh i _ rfl).1 hi]
  ·
   rename_i hno;split
   ·
    rename_i e sz rows hi;exact (hno e sz rows ((hh i _ rfl).2 hi)).elim
   · rfl
theorem normL_congr {h h':qab} (hh:SameArr h h'):∀ xs:List AV,qbc h xs=qbc h' xs
 | []=>rfl
 | x::xs=>by simp only [qbc,norm_congr hh x,normL_congr hh xs]
end
theorem litRows_congr {h h':qab} (hh:SameArr h h') (sz:Nat):∀ (k:Nat) (l:List (Nat×AV)),litRows h sz k l=litRows h' sz k l
 | _,[]=>rfl
 | k,(i,x)::l=>by simp only [litRows,normL_congr hh,litRows_congr hh sz (k+1) l]
theorem aLookup_heap {P:Program} {T:TypeId} {x i:AV} {ok:Bool} {h h':qab} (hm:∀ (i:Nat) (es:List (AV×AV)),h[i]?=some (.map es)↔h'[i]?=some (.map es)):aLookup P T x i ok h=aLookup P T x i ok h':=by
 unfold aLookup;split
 ·
  rename_i k e o s _;cases ho:h[o]? with
  | none =>
   cases ho':h'[o]? with
   | none=>rfl
   | some u=>cases u with
    | map es=>have:=(hm o es).2 ho';rw [ho] at this;cases this
    | _=>rfl
  | some u =>
   cases u with
   | map es=>rw [(hm o es).1 ho]
   | _ =>
    cases ho':h'[o]? with
    | none=>rfl
    | some u'=>cases u' with
     | map es=>have:=(hm o es).2 ho';rw [ho] at this;cases this
     | _=>rfl
 · rfl
theorem uarr_congr {α:Type} {h h':qab} (hh:SameArr h h') (i:Nat) (k:Option AObj→α) (k0:α) (hk:∀ o,(∀ e sz rows,o≠some (AObj.uarr e sz rows))→k o=k0):k h[i]?=k h'[i]?:=by
 by_cases hu:∃ e sz rows,h[i]?=some (AObj.uarr e sz rows)
 ·
  obtain ⟨e,sz,rows,hi⟩:=hu;rw [hi,(hh i _ rfl).1 hi]
 ·
  by_cases hu':∃ e sz rows,h'[i]?=some (AObj.uarr e sz rows)
  ·
   obtain ⟨e,sz,rows,hi⟩:=hu';exact (hu ⟨e,sz,rows,(hh i _ rfl).2 hi⟩).elim
  · rw [hk _ fun e sz rows h=>hu ⟨e,sz,rows,h⟩,hk _ fun e sz rows h=>hu' ⟨e,sz,rows,h⟩]
theorem aIndexAddr_heap {P:Program} {T:TypeId} {x i:AV} {h h':qab} (hh:SameArr h h'):qea P T x i h=qea P T x i h':=by
 unfold qea;split<;>try rfl
 rename_i e sz o m k n hk;exact uarr_congr hh o (fun ob=>match ob with
  | some (.uarr _ sz' rows)=>(⟨rows.length=m∧sz'=sz∧0≤n∧n.toNat<rows.length∧0<sz,.optr o m sz n.toNat 0⟩:SV)
  | _=>.no) .no fun ob hob=>by
   split
   · rename_i e sz rows;exact (hob _ _ _ rfl).elim
   · rfl
theorem aLen_heap {P:Program} {T:TypeId} {x:AV} {h h':qab} (hh:SameArr h h'):aLen P T x h=aLen P T x h':=by
 unfold aLen;split<;>try rfl
 rename_i e sz o m hk;exact uarr_congr hh o (fun ob=>match ob with
  | some (.uarr _ _ rows)=>(⟨rows.length=m,.val (.int .i64 rows.length)⟩:SV)
  | _=>.no) .no fun ob hob=>by
   split
   · rename_i e sz rows;exact (hob _ _ _ rfl).elim
   · rfl
theorem opStill_heap {P:Program} {e:Env} {h h':qab} {op:Op} (ha:SameArr h h') (hr:∀ i,rdOf e op=some i→h[i]?=h'[i]?) (hm:∀ (i:Nat) (es:List (AV×AV)),h[i]?=some (.map es)↔h'[i]?=some (.map es)):qbf P e.getS h op=qbf P e.getS h' op:=by
 cases op with
 | load t a =>
  simp only [qbf,aLoadAt];simp only [rdOf] at hr;cases ha:e.getS a with
  | ptr i off =>
   simp only [ha] at hr;simp only [hr i rfl]
  | optr i n sz r q =>
   exact uarr_congr ‹SameArr h h'› i (fun ob=>match ob with
    | some (.uarr _ sz' rows)=>(⟨rows.length=n∧sz'=sz∧r<rows.length∧(aLoad (qau P t) (qak P t).agg ((rows.getD r []).drop q)).side∧qak P t≠TK.other,(aLoad (qau P t) (qak P t).agg ((rows.getD r []).drop q)).val⟩:SV)
    | _=>.no) .no fun ob hob=>by
     split
     · rename_i e sz rows;exact (hob _ _ _ rfl).elim
     · rfl
  | _=>rfl
 | lookup T x i ok =>
  simp only [qbf];exact aLookup_heap hm
 | indexAddr T x i=>simp only [qbf,norm_congr ha,aIndexAddr_heap ha]
 | slice T x lo hi mx=>simp only [qbf,norm_congr ha]
 | call c =>
  obtain ⟨callee,args,ts⟩:=c;cases callee with
  | builtin b=>cases b with
   | len=>simp only [qbf,norm_congr ha,aLen_heap ha]
   | _=>rfl
  | _=>rfl
 | unOp op t x=>cases op<;>rfl
 | _=>rfl
end Go.Abs

namespace Go.Abs
section
variable {P:Program} {E:Ent}
theorem call_rel {c:Ctx} {h:qab} {a:Act} {w:World} (hs:HSim c h w) (k:E.ok c h w) {o:Oper} {f:Operand} {args:Array Operand} {ts:Array TypeId} (ho:o.op=.call { callee:=.value f,args:=args,argTypes:=ts })
  {g:Operand→AV} (hrel:∀ x,x∈f::args.toList→Rel c (g x) (a.eval x)) {fid:FuncId} {first caps:List AV} (hf:g f=.fn (.func fid) first caps) {R:AEnd→qab→Prop}
  (hc:ACalls P fid (qbc h (first++args.toList.map g++caps)) h R) {next:Act→World→Prop} {Q:Exit→Act→World→Prop}
  (hret:∀ v h' c' w' u,R (.ret v) h'→c.le c'→HSim c' h' w'→E.ok c' h' w'→Rel c' v u→next (a.put o.dst u) w') (hpan:∀ v h',¬ R (.panic v) h'):o.wp P a w next Q:=by
 have hfr:=hrel f (by simp);rw [hf] at hfr;obtain ⟨us,vs,hev,h1,h2⟩:∃ us vs,a.eval f=.func (.func fid) us vs∧RelL c first us∧RelL c caps vs:=by
  generalize a.eval f=z at hfr;cases hfr with
  | data h=>cases h
  | fn f ys xs us vs hl' hl h' h=>exact ⟨us,vs,rfl,⟨hl',h'⟩,⟨hl,h⟩⟩
 have hargs:RelL c (args.toList.map g) (args.map a.eval):=RelL.map fun x hx=>hrel x (by simp [hx]);have hlist:=(RelL.app (RelL.app h1 hargs) h2).norm hs;obtain ⟨s1,k1⟩:=share_ok hs k;unfold Oper.wp;rw [run_enter ho hev hc.1];refine (hc.2 _ w _ s1 hlist).mono ?_;rintro en w' ⟨r,h',c',hR,hE,hs',hk'⟩;have hle:c.le c':=(share_le c h w).trans hk'.ext;have hok:E.ok c' h' w':=k1.trans hk';cases r with
 | ret v =>
  cases en with
  | returned u=>exact hret v h' c' w' u hR hle hs' hok hE
  | _=>simp [EndR] at hE
 | panic v=>exact (hpan v h' hR).elim
theorem wanted_rel {ops:Array Oper} {l:List Oper} (hops:ops.toList=l) {i:Nat} {c:Ctx} {e:Env} {a:Act} {o:Oper} (hgl:∀ j want,o.guard=some (j,want)→j<i)
  (hr:∀ t,t∈guardSlot l o→Rel c (qa8 e.t t) (a.tmps.getD t undef)) {G:Bool} (h:gB ((l.take i).map (·.dst)) e o.guard=some G):Region.wanted o (yielded ops a.tmps)=G:=by
 unfold gB at h;unfold Region.wanted;split at h
 · rename_i hg;simp only [hg];simpa using h
 ·
  rename_i j want hg;simp only [hg];have hji:=hgl j want hg;split at h
  ·
   rename_i t ht;have hj:(ops[j]?).bind (·.dst)=some t:=by
    simp only [List.getElem?_map,Option.map_eq_some_iff,List.getElem?_take,if_pos hji] at ht;obtain ⟨o',ho',hd⟩:=ht;have:ops[j]?=some o':=by rw [← hops] at ho';simpa using ho'
    simp [this,hd]
   have hj':(l[j]?).bind (·.dst)=some t:=by rw [← hops];simpa using hj
   have hr:=hr t (by simp [guardSlot,hg,hj']);have hy:∀ b,a.tmps.getD t undef=.bool b→yielded ops a.tmps j=some b:=fun b hb=>by
    unfold yielded;rw [hj];simp only [Option.bind_some];simp only [Array.getD_eq_getD_getElem?] at hb;cases ht':a.tmps[t]? with
    | none=>rw [ht'] at hb;simp [undef] at hb
    | some v=>rw [ht'] at hb;simp at hb;subst hb;rfl
   split at h
   ·
    rename_i b hb;rw [hb] at hr;rw [hy b hr.val_inv];simp only [Option.some.injEq] at h;rw [← h];cases b<;>cases want<;>rfl
   ·
    rename_i g b hb;rw [hb] at hr;simp only [Option.some.injEq] at h;cases g with
    | true =>
     have hr':Rel c (.val (.bool b)) (a.tmps.getD t undef):=by
      cases hr with
      | data h=>cases h
      | opt g x v h hn=>exact h rfl
     rw [hy b hr'.val_inv,← h];cases b<;>cases want<;>rfl
    | false =>
     have hu:a.tmps.getD t undef=undef:=by
      cases hr with
      | data h=>cases h
      | opt g x v h hn=>exact hn rfl
     have:yielded ops a.tmps j=none:=by
      unfold yielded;rw [hj];simp only [Option.bind_some];simp only [Array.getD_eq_getD_getElem?] at hu;cases ht':a.tmps[t]? with
      | none=>rfl
      | some v=>rw [ht'] at hu;simp at hu;subst hu;rfl
     rw [this,← h];rfl
   ·
    rename_i x hnb hb;rw [hb] at hr;simp only [Option.some.injEq] at h;have hu:a.tmps.getD t undef=undef:=by
     cases hr with
     | data h=>cases h
     | opt g x v h hn=>exact hn rfl
    have:yielded ops a.tmps j=none:=by
     unfold yielded;rw [hj];simp only [Option.bind_some];simp only [Array.getD_eq_getD_getElem?] at hu;cases ht':a.tmps[t]? with
     | none=>rfl
     | some v=>rw [ht'] at hu;simp at hu;subst hu;rfl
    rw [this,← h];rfl
   · cases h
  · cases h
theorem stepD_dst {N:Nat} {ds:List (Option Tmp)} {o:Oper} {e:Env} {K:DR→Prop} (h:stepD P N ds o e K):dstOk N o.dst∧∃ r,r.dst=o.dst∧K r∧((∃ i off cs,r.k=.store i off cs)→isStore o.op=true):=by
 unfold stepD at h;split at h
 · exact h.elim
 ·
  rename_i G hG;obtain ⟨hd,h⟩:=h;refine ⟨hd,?_⟩;split at h
  · exact ⟨_,rfl,h.2,by rintro ⟨_,_,_,h⟩;cases h⟩
  · exact ⟨_,rfl,h.2.2.2,by rintro ⟨_,_,_,h⟩;cases h⟩
  · exact ⟨_,rfl,h.2.2,by rintro ⟨_,_,_,h⟩;cases h⟩
  ·
   rename_i T a x hop;obtain ⟨h1,h2,h3,h4,h5,h6,h7⟩:=h;split at h7
   ·
    split at h7
    · exact ⟨_,h2.symm,h7.2,fun _=>by simp [isStore,hop]⟩
    · exact h7.elim
   · exact h7.elim
  ·
   split at h
   ·
    split at h
    · exact ⟨_,rfl,h.2.2.2.2.2.2.2,by rintro ⟨_,_,_,h⟩;cases h⟩
    · exact h.elim
   · exact h.elim
  ·
   split at h
   ·
    obtain ⟨r,h1,h2⟩:=h;exact ⟨_,rfl,h2,by rintro ⟨_,_,_,h⟩;cases h⟩
   · exact h.elim
  · exact ⟨_,rfl,h.2,by rintro ⟨_,_,_,h⟩;cases h⟩
def hX (R:List DR) (X:Nat→Bool) (h:qab):qab:=qb9 (selX X 0 R) (h++qbb X 0 R)
structure DInv (E:Ent) (e0:Env) (R:List DR) (X:Nat→Bool) (c:Ctx) (a:Act) (w:World):Prop where
 defers:a.defers=[]
 size:a.tmps.size=E.N
 tmps:∀ t,Rel c (slotX X t 0 R (qa8 e0.t t)) (a.tmps.getD t undef)
 hs:HSim c (hX R X e0.h) w
 ok:E.ok c (hX R X e0.h) w
 nob:∀ i r xs,R[i]?=some r→r.k=.fresh xs→X i=false→c.blk (e0.h.length+nFresh R i)=none
 fit:∀ r,r∈selX X 0 R→∀ i off cs,r.k=.store i off cs→∃ xs,(e0.h++qbb X 0 R)[i]?=some (.cells xs)∧off+cs.length≤xs.length
theorem hX_len (R:List DR) (X:Nat→Bool) (h:qab):(hX R X h).length=h.length+(qbb X 0 R).length:=by
 unfold hX;rw [applyS_len];simp
theorem hX_sameArr {R:List DR} {X:Nat→Bool} {e0:Env} {i:Nat}:SameArr (qao e0 (R.take i)).h (hX R X e0.h):=by
 intro j o hoa;have hnc:∀ xs,o≠AObj.cells xs:=fun xs h=>by subst h;cases hoa
 have hnn:o≠AObj.none:=fun h=>by subst h;cases hoa
 rw [envAt_h];unfold hX;rw [applyS_kind _ _ _ _ hnc];by_cases hj:j<e0.h.length
 · rw [List.getElem?_append_left hj,List.getElem?_append_left hj]
 ·
  rw [List.getElem?_append_right (by omega),List.getElem?_append_right (by omega)];constructor
  ·
   intro h;obtain ⟨i',r,xs,_,_,_,h4⟩:=qdc _ _ _ _ h;exact (hnc xs h4).elim
  ·
   intro h;obtain ⟨i',r,xs,_,_,_,h4⟩:=qdc _ _ _ _ h;rw [Nat.zero_add] at h4;cases hX:X i' with
   | true=>rw [hX] at h4;exact (hnc xs h4).elim
   | false=>rw [hX] at h4;exact (hnn h4).elim
theorem hX_map {R:List DR} {X:Nat→Bool} {e0:Env} {i:Nat} (j:Nat) (es:List (AV×AV)):(qao e0 (R.take i)).h[j]?=some (.map es)↔(hX R X e0.h)[j]?=some (.map es):=by
 rw [envAt_h];unfold hX;rw [applyS_kind _ _ _ _ (by simp)];by_cases hj:j<e0.h.length
 · rw [List.getElem?_append_left hj,List.getElem?_append_left hj]
 ·
  rw [List.getElem?_append_right (by omega),List.getElem?_append_right (by omega)];constructor
  ·
   intro h;obtain ⟨i',r,xs,_,_,_,h4⟩:=qdc _ _ _ _ h;simp at h4
  ·
   intro h;obtain ⟨i',r,xs,_,_,_,h4⟩:=qdc _ _ _ _ h;rw [Nat.zero_add] at h4;cases hX:X i'<;>simp [hX] at h4
theorem hX_raw {R:List DR} {X:Nat→Bool} {e0:Env} {i:Nat}:SameRaw (qao e0 (R.take i)).h (hX R X e0.h):=by
 intro j o ho;have hnc:∀ xs,o≠AObj.cells xs:=fun xs h=>by subst h;cases ho
 rw [envAt_h];unfold hX;rw [applyS_kind _ _ _ _ hnc];by_cases hj:j<e0.h.length
 ·
  rw [List.getElem?_append_left hj,List.getElem?_append_left hj];exact id
 ·
  rw [List.getElem?_append_right (by omega),List.getElem?_append_right (by omega)];intro h;obtain ⟨i',r,xs,_,_,_,h4⟩:=qdc _ _ _ _ h;exact (hnc xs h4).elim
theorem alloc_at {c:Ctx} {h:qab} {w:World} (s:HSim c h w) (k:E.ok c h w) {n:Nat} (hn:h[n]?=some .none) (hb:c.blk n=none) (hE:E.h.length≤n) {xs:List AV} {vs:Array Value} (T:TypeId) (hc:CellsR c xs vs) :
  ∃ c',c.le c'∧HSim c' (h.set n (.cells xs)) (w.alloc (.cells vs T))∧E.ok c' (h.set n (.cells xs)) (w.alloc (.cells vs T))∧c'.blk n=some w.heap.size∧∀ i,i≠n→c'.blk i=c.blk i:=by
 have hw:∀ b,b<w.heap.size→(w.alloc (.cells vs T)).heap[b]?=w.heap[b]?:=fun b hb=>heap_alloc_old w _ b hb;have s1:HSim c h (w.alloc (.cells vs T)):=s.ext hw (.refl c) (fun _ _=>rfl) (fun _ _ _ h=>.inl h) s.dom;have k1:E.ok c h (w.alloc (.cells vs T)):=k.ext' s hw (.refl c) (fun _=>rfl) rfl rfl rfl (qd1 w _) (fun _ _ _ h=>.inl h);have hle:c.le (c.addBlk n w.heap.size):=Ctx.addBlk_le hb;have hblk:(c.addBlk n w.heap.size).blk n=some w.heap.size:=by simp [Ctx.addBlk]
 have hlt:n<h.length:=(List.getElem?_eq_some_iff.1 hn).1;have hbn:∀ b',qal (c.addBlk n w.heap.size) n (.cells xs)=some b'→b'=w.heap.size:=fun b' hb'=>by
  simp only [qal,hblk,Option.some.injEq] at hb';exact hb'.symm
 refine ⟨_,hle,⟨s1.data,fun i hi=>?_,fun i o hi=>?_,fun i j o o' b hi hj hbi hbj=>?_,fun i o b j v hi hbi hD=>?_⟩,⟨k.edom,k.ext.trans hle,fun m hm=>by
   simp only [Ctx.addBlk];rw [if_neg (by omega)];exact k.blk0 m hm,by simpa using k.len,k1.os,k1.tape,k1.output,k1.size,k1.frame,fun i o b hi hbi=>?_,k1.dold⟩,hblk,fun i hi=>by simp [Ctx.addBlk,hi]⟩
 ·
  have hi':h.length≤i:=by simpa using hi
  have:=s.dom i hi';refine ⟨?_,this.2⟩;simp only [Ctx.addBlk];rw [if_neg (by omega)];exact this.1
 ·
  rcases qai hi with ⟨rfl,rfl⟩ | ⟨hne,h1⟩
  · exact ⟨_,vs,T,hblk,heap_alloc_new w _,hc.1,fun j x v hx hv=>⟨(hc.2 j x v hx hv).1.mono hle,(hc.2 j x v hx hv).2⟩⟩
  · exact (s1.obj i o h1).keep hle (fun _=>rfl) fun _ _=>rfl
 ·
  rcases qai hi with ⟨rfl,rfl⟩ | ⟨hne,h1⟩<;>rcases qai hj with ⟨h5,h6⟩ | ⟨hne',h2⟩
  · exact h5.symm
  ·
   rw [(s1.obj j o' h2).blk hle] at hbj;have:=hbn b hbi;subst this;exact (s.fresh (Nat.le_refl _) j o' h2 hbj).elim
  ·
   subst h5;subst h6;rw [(s1.obj i o h1).blk hle] at hbi;have:=hbn b hbj;subst this;exact (s.fresh (Nat.le_refl _) i o h1 hbi).elim
  ·
   rw [(s1.obj i o h1).blk hle] at hbi;rw [(s1.obj j o' h2).blk hle] at hbj;exact s.apart i j o o' b h1 h2 hbi hbj
 ·
  rcases qai hi with ⟨rfl,rfl⟩ | ⟨hne,h1⟩
  ·
   have:=hbn b hbi;subst this;have hD':c.D w.heap.size j=some v:=hD;rw [s.noD (Nat.le_refl _) j] at hD';cases hD'
  ·
   rw [(s1.obj i o h1).blk hle] at hbi;exact s.sep i o b j v h1 hbi hD
 ·
  rcases qai hi with ⟨rfl,rfl⟩ | ⟨hne,h1⟩
  ·
   have:=hbn b hbi;subst this;exact .inr k.size
  ·
   rw [(s1.obj i o h1).blk hle] at hbi;exact k.newobj i o b h1 hbi
theorem store_run {c:Ctx} {h:qab} {w:World} (hs:HSim c h w) (k:E.ok c h w) {o:Oper} {ev:Operand→Value} {T:TypeId} {ad x:Operand} (hop:o.op=.store T ad x) {i off:Nat} {xs:List AV} {y:AV} (hra:Rel c (.ptr i off) (ev ad)) (hrx:Rel c y (ev x))
  (hi:h[i]?=some (.cells xs)) (hok:y.cellsOk=true) (hsz:y.cells.length=qau P T) (hk:qak P T≠.other) (hle:off+y.cells.length≤xs.length) :
  ∃ w',(execOp ev o).run P w=.ok .skip w'∧HSim c (h.set i (.cells (splice xs off y.cells))) w'∧E.ok c (h.set i (.cells (splice xs off y.cells))) w':=by
 obtain ⟨b,hav,hb⟩:=ptr_inv hra;obtain ⟨h1,h2⟩:=hrx.cells hok;obtain ⟨b',vs,T',g1,g2,g3,g4⟩:=hs.obj i _ hi;rw [hb] at g1;cases g1;obtain ⟨iT,d,z,t1,t2,t3,t4,t5,_⟩:=qat (P:=P) (t:=T) rfl hk;have hone:∀ v,v∈(ev x).cells.toList→v.oneCell'=true:=fun v hv=>by
  obtain ⟨j,hj⟩:=List.getElem?_of_mem hv;have hlt:j<y.cells.length:=by rw [← h1];have:=(List.getElem?_eq_some_iff.1 hj).1;simpa using this
  exact (h2 j _ v (by simp [hlt];rfl) (by simpa using hj)).2
 have hrun:=run_storeCells_at P b off T' (ev x).cells.toList 0 vs w g2 (by simp [h1,g3];omega) hone;simp only [Nat.add_zero] at hrun;have hsize:(ev x).cells.size=iT.size:=by rw [h1,hsz,t5]
 have hst:(execOp ev o).run P w=.ok .skip (w.setRow b (vs.toList.take off++(ev x).cells.toList++vs.toList.drop (off+(ev x).cells.toList.length)).toArray):=by
  simp only [execOp,hop,Instr.storeAt,hav,Instr.sureAddr,storeVar,Sem.run_bind,Sem.run_pure,Result.andThen_ok,qbp t1,hsize,ne_eq,not_true_eq_false,if_false,hrun]
 have hcells:CellsR c (splice xs off y.cells) (vs.toList.take off++(ev x).cells.toList++vs.toList.drop (off+(ev x).cells.toList.length)).toArray:=by
  unfold splice;have hl2:(ev x).cells.toList.length=y.cells.length:=by simpa using h1
  refine ⟨by first | (simp [hl2,g3];done) | (simp [hl2,g3];omega),fun j y' v hy hv=>?_⟩;have hv':(vs.toList.take off++(ev x).cells.toList++vs.toList.drop (off+(ev x).cells.toList.length))[j]?=some v:=by simpa using hv
  rw [hl2] at hv';by_cases hj1:j<off
  ·
   rw [List.append_assoc,List.getElem?_append_left (by simp;omega),List.getElem?_take,if_pos hj1] at hy;rw [List.append_assoc,List.getElem?_append_left (by simp;omega),List.getElem?_take,if_pos hj1] at hv';exact g4 j y' v hy (by simpa using hv')
  ·
   by_cases hj2:j<off+y.cells.length
   ·
    rw [List.append_assoc,List.getElem?_append_right (by simp;omega),List.getElem?_append_left (by simp;omega)] at hy;rw [List.append_assoc,List.getElem?_append_right (by simp;omega),List.getElem?_append_left (by simp;omega)] at hv';have m1:min off xs.length=off:=by omega
    have m2:min off vs.size=off:=by omega
    simp only [List.length_take,m1] at hy;simp only [List.length_take,Array.length_toList,m2] at hv';exact h2 _ y' v hy (by simpa using hv')
   ·
    rw [List.getElem?_append_right (by simp;omega),List.getElem?_drop] at hy;rw [List.getElem?_append_right (by simp [h1];omega),List.getElem?_drop] at hv';simp only [List.length_append,List.length_take] at hy;simp only [List.length_append,List.length_take,Array.length_toList,h1] at hv';rw [show off+y.cells.length+(j - (min off xs.length+y.cells.length))=j from by omega] at hy;rw [show off+y.cells.length+(j - (min off vs.size+y.cells.length))=j from by omega] at hv';exact g4 j y' v hy (by simpa using hv')
 obtain ⟨s',k'⟩:=store_ok hs k hi hb g2 hcells.1 hcells.2;exact ⟨_,hst,s',k'⟩
theorem applyS_set {l:List DR} {n:Nat} {o:AObj}:∀ {h:qab},(∀ r,r∈l→∀ off cs,r.k≠.store n off cs)→qb9 l (h.set n o)=(qb9 l h).set n o:=by
 induction l with
 | nil=>intro h _;rfl
 | cons r l ih =>
  intro h hno;rw [qbr,List.foldl_cons,← qbr,qbr (r::l),List.foldl_cons,← qbr];have h1:stepS r (h.set n o)=(stepS r h).set n o:=by
   unfold stepS;split
   ·
    rename_i i off cs hk;have hne:n≠i:=fun e=>hno r (by simp) off cs (by rw [hk,e]);rw [List.getElem?_set_ne hne];split
    ·
     rename_i xs heq;simp only [heq];rw [List.set_comm _ _ hne]
    · rfl
   · rfl
  rw [h1,ih fun r' hr=>hno r' (by simp [hr])]
theorem nFresh_inj {R:List DR} {i j:Nat} {ri rj:DR} {xi xj:List AV} (hi:R[i]?=some ri) (hj:R[j]?=some rj) (hki:ri.k=.fresh xi) (hkj:rj.k=.fresh xj) (h:nFresh R i=nFresh R j):i=j:=by
 have h1:=freshX_get (X:=fun m=>decide (m=i)) R 0 i ri xi hi hki;have h2:=freshX_get (X:=fun m=>decide (m=i)) R 0 j rj xj hj hkj;unfold nFresh at h;rw [h,h2] at h1;by_cases he:j=i
 · exact he.symm
 · simp [he] at h1
theorem selX_in {X:Nat→Bool} {r:DR}:∀ {R:List DR} {k j:Nat},R[j]?=some r→X (k+j)=true→r∈selX X k R
 | [],_,_,h,_=>by simp at h
 | b::R,k,0,h,hX=>by simp at h;subst h;simp only [Nat.add_zero] at hX;simp [selX,hX]
 | b::R,k,j+1,h,hX=>by
  have:=selX_in (X:=X) (R:=R) (k:=k+1) (j:=j) (by simpa using h) (by rwa [show k+1+j=k+(j+1) from by omega]);simp only [selX];cases X k<;>simp [this]
end
end Go.Abs
