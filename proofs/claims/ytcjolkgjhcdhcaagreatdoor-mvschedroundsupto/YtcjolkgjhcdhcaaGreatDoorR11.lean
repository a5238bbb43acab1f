/- Part 11 of a proof: AbsY -/
import Derived.Test.YtcjolkgjhcdhcaaGreatDoorR10
set_option linter.all false

namespace Go.Abs
section
variable {P:Program} {E:Ent}
structure DRegW (l:List Oper) (R:List DR):Prop where
 ok:DrawOk l
 len:R.length=l.length
 dst:∀ {k:Nat} {r:DR},R[k]?=some r→∃ o,l[k]?=some o∧r.dst=o.dst∧((∃ i off cs,r.k=.store i off cs)→isStore o.op=true)
 sep:∀ (k s:Nat) (r r':DR) (i off:Nat) (cs:List AV),R[k]?=some r→r.k=.quiet (some i)→R[s]?=some r'→r'.k=.store i off cs→k<s∧ordB (Region.before l.toArray) k s=true
structure DReg (P:Program) (E:Ent) (l:List Oper) (e0:Env) (R:List DR):Prop where
 ok:DrawOk l
 len:R.length=l.length
 step:∀ (k:Nat) (o:Oper),l[k]?=some o→stepD P E.N ((l.take k).map (·.dst)) o (qao e0 (R.take k)) (fun r=>R[k]?=some r)
 sep:∀ (k s:Nat) (r r':DR) (i off:Nat) (cs:List AV),R[k]?=some r→r.k=.quiet (some i)→R[s]?=some r'→r'.k=.store i off cs→k<s∧ordB (Region.before l.toArray) k s=true
theorem DReg.weak {l:List Oper} {e0:Env} {R:List DR} (d:DReg P E l e0 R):DRegW l R where
 ok:=d.ok
 len:=d.len
 sep:=d.sep
 dst:=fun {k r} hr=>by
  have hlt:k<l.length:=by rw [← d.len];exact (List.getElem?_eq_some_iff.1 hr).1
  obtain ⟨_,r',h1,h2,h3⟩:=stepD_dst (d.step k l[k] (by simp [hlt]));rw [hr] at h2;cases h2;exact ⟨l[k],by simp [hlt],h1,h3⟩
theorem draw_step {l:List Oper} {e0:Env} {R:List DR} (d:DRegW l R) (hE0:E.h.length≤e0.h.length) {X:Nat→Bool} (hcl:Closed l X) {c:Ctx} {a:Act} {w:World} (inv:DInv E e0 R X c a w) {i:Nat} {o:Oper} (hi:l[i]?=some o) (hXi:X i=false)
  (hdep:∀ e,e∈o.after→Region.binds .any e=true→X e.on=true) (hstep:stepD P E.N ((l.take i).map (·.dst)) o (qao e0 (R.take i)) (fun r=>R[i]?=some r)) {Q:Exit→Act→World→Prop} :
  wpOp P l.toArray Q i (fun a' w'=>∃ c',DInv E e0 R (fun j=>if j=i then true else X j) c' a' w') a w:=by
 obtain ⟨hdok,r,hrd,hr,hrs⟩:=stepD_dst hstep;have hilt:i<l.length:=(List.getElem?_eq_some_iff.1 hi).1
 -- which operations wrote a slot of this one's
 have hslot:∀ t,t∈tmpsOf o.op.operands.toList++guardSlot l o→Rel c (qa8 (qao e0 (R.take i)).t t) (a.tmps.getD t undef):=by
  intro t ht;have:=inv.tmps t;rw [lookT_envAt,slotX_take];rw [qc1 (Y:=X)]
  · exact this
  ·
   intro j r' hr' hd;simp only [Nat.zero_add,Bool.and_true];obtain ⟨o',ho',hd',_⟩:=d.dst hr';rw [hd'] at hd;rcases d.ok.temps i o t j o' hi ht ho' hd with rfl | hord
   · simp [hXi]
   ·
    rcases Nat.lt_trichotomy j i with h | h | h
    ·
     rw [Nat.min_eq_right (Nat.le_of_lt h),Nat.max_eq_left (Nat.le_of_lt h)] at hord;rw [ord_in hcl i j o hi hdep hord,decide_eq_true h]
    · subst h;simp [hXi]
    ·
     rw [Nat.min_eq_left (Nat.le_of_lt h),Nat.max_eq_right (Nat.le_of_lt h)] at hord;have hXj:X j=false:=by
      cases hX:X j with
      | false=>rfl
      | true=>have:=ord_in hcl j i o' ho' (hcl j o' hX ho') hord;rw [hXi] at this;cases this
     rw [hXj,decide_eq_false (by omega)]
 have hops:∀ x,x∈o.op.operands.toList→Rel c ((qao e0 (R.take i)).get x) (a.eval x):=by
  intro x hx;cases x with
  | tmp t=>exact hslot t (List.mem_append_left _ (by simp only [tmpsOf,List.mem_filterMap];exact ⟨.tmp t,hx,rfl⟩))
  | const v=>exact liftK_rel c v
  | global g=>exact .top _
  | func f=>exact .fn _ [] [] #[] #[] rfl rfl (by simp) (by simp)
 have hopsS:∀ L:List Operand,(∀ x,x∈L→x∈o.op.operands.toList)→qax (qao e0 (R.take i)) true L→∀ x,x∈L→Rel c ((qao e0 (R.take i)).getS x) (a.eval x):=fun L hL hall x hx =>
  strip_rel (hops x (hL x hx)) (haveAll_mem hall x hx)
 -- the invariant with one operation more that makes and writes nothing
 have quiet:∀ (c':Ctx) (w':World) (u:Value),(∃ rd,r.k=.quiet rd)→c.le c'→HSim c' (hX R X e0.h) w'→E.ok c' (hX R X e0.h) w'→(∀ n,c.blk n=none→n<(hX R X e0.h).length→c'.blk n=none)→Rel c' r.res u →
   DInv E e0 R (fun j=>if j=i then true else X j) c' (a.put o.dst u) w':=by
  rintro c' w' u ⟨rd,hk⟩ hle hs' hok' hblk hu;have hh:hX R (fun j=>if j=i then true else X j) e0.h=hX R X e0.h:=by
   unfold hX;have h1:=freshX_same (X:=X) R 0 i r hr (fun xs=>by rw [hk];simp);have h2:=applyS_add (X:=X) (R:=R) (k:=0) (i:=i) (r:=r) hr (by simpa using hXi) (.inl fun a b cs=>by rw [hk];simp);simp only [Nat.zero_add] at h1 h2;rw [h1,h2];unfold stepS;rw [hk]
  refine ⟨by cases o.dst<;>exact inv.defers,by cases o.dst<;>simp [Act.put,inv.size],fun t=>?_,by rw [hh];exact hs',by rw [hh];exact hok',fun j rj xs hj hjk hXj=>?_,fun rj hrj i' off cs hjk=>?_⟩
  ·
   have h1:=slotX_add (X:=X) (t:=t) (k:=0) (x:=qa8 e0.t t) hr (fun j r' hr' hd hn=>by
    obtain ⟨o',ho',hd',_⟩:=d.dst hr';exact d.ok.uniq i o j o' hi ho' (by rw [← hrd];exact hn) (by rw [← hrd,← hd',hd]))
   simp only [Nat.zero_add] at h1;rw [h1];cases hdst:o.dst with
   | none =>
    rw [hrd,hdst,if_neg (by simp)];exact (inv.tmps t).mono hle
   | some dd =>
    have hlt:dd<a.tmps.size:=by rw [inv.size];rw [hdst] at hdok;exact hdok
    rw [hrd,hdst];by_cases hdt:dd=t
    · subst hdt;rw [if_pos rfl];simpa [Act.put,hlt] using hu
    ·
     rw [if_neg (by simpa using hdt)];have:=(inv.tmps t).mono hle;simpa [Act.put,Array.getD_eq_getD_getElem?,Array.getElem?_setIfInBounds_ne hdt] using this
  ·
   have hji:j≠i:=fun e=>by subst e;simp at hXj
   rw [if_neg hji] at hXj;refine hblk _ (inv.nob j rj xs hj hjk hXj) ?_;rw [hX_len];have h1:=freshX_get (X:=X) R 0 j rj xs hj hjk;have:=(List.getElem?_eq_some_iff.1 h1).1;unfold nFresh;omega
  ·
   obtain ⟨j,h1,h2⟩:=selX_mem hrj;simp only [Nat.zero_add] at h2;by_cases hji:j=i
   · subst hji;rw [hr] at h1;cases h1;rw [hk] at hjk;cases hjk
   ·
    rw [if_neg hji] at h2;have hmem:rj∈selX X 0 R:=selX_in h1 (by simpa using h2);have h1':=freshX_same (X:=X) R 0 i r hr (fun xs=>by rw [hk];simp);simp only [Nat.zero_add] at h1';rw [h1'];exact inv.fit rj hmem i' off cs hjk
 -- how the step goes on
 have hG:=hstep;unfold stepD at hG;split at hG
 · exact hG.elim
 rename_i G hgB;obtain ⟨_,hG⟩:=hG;have hwant:Region.wanted o (yielded l.toArray a.tmps)=G:=wanted_rel (l:=l) (by simp) (i:=i) (fun j want hg=>d.ok.guard i o j want hi hg) (fun t ht=>hslot t (List.mem_append_right _ ht)) hgB;have hget:(l.toArray)[i]?=some o:=by simpa using hi
 have hsz:l.toArray.size=l.length:=by simp
 have noneIdx:∀ n,c.blk n=none→n<(hX R X e0.h).length→c.blk n=none:=fun _ h _=>h
 -- an operation that yields a value and leaves the heap
 have still:∀ (v:AV),r.res=optV o.guard G v→(∃ rd,r.k=.quiet rd)→(G=true→∃ c' w' u,(execOp a.eval o).run P w=.ok (.value u) w'∧c.le c'∧HSim c' (hX R X e0.h) w'∧E.ok c' (hX R X e0.h) w'∧(∀ n,c.blk n=none→n<(hX R X e0.h).length→c'.blk n=none)∧Rel c' v u) →
   wpOp P l.toArray Q i (fun a' w'=>∃ c',DInv E e0 R (fun j=>if j=i then true else X j) c' a' w') a w:=by
  intro v hv hk hrun;unfold wpOp;simp only [hget];cases hGv:G with
  | true =>
   rw [if_pos (by rw [hwant,hGv])];obtain ⟨c',w',u,h1,h2,h3,h4,h5,h6⟩:=hrun hGv;refine .inl (qb4 h1 ⟨c',quiet c' w' u hk h2 h3 h4 h5 ?_⟩);rw [hv,hGv];unfold optV;split
   · exact h6
   · exact .opt _ _ _ (fun _=>h6) (fun h=>by cases h)
  | false =>
   rw [if_neg (by rw [hwant,hGv];simp)];refine ⟨c,quiet c w undef hk (.refl c) inv.hs inv.ok noneIdx ?_⟩;rw [hv,hGv];unfold optV;split
   ·
    rename_i hg;rw [hg] at hgB;simp only [gB,Option.some.injEq] at hgB;rw [hGv] at hgB;cases hgB
   · exact .opt _ _ _ (fun h=>by cases h) (fun _=>rfl)
 have hgt:o.guard=none→G=true:=fun hg=>by rw [hg] at hgB;simpa [gB] using hgB.symm
 -- stores carried out do not touch an object that this operation may still read or write
 have nostore:∀ j,(∀ (s:Nat) (r':DR) (off:Nat) (cs:List AV),R[s]?=some r'→r'.k=.store j off cs→ordB (Region.before l.toArray) i s=true)→∀ r',r'∈selX X 0 R→∀ off cs,r'.k≠.store j off cs:=by
  intro j hs r' hr' off cs hk;obtain ⟨s,h1,h2⟩:=selX_mem hr';rw [Nat.zero_add] at h2;obtain ⟨o',ho',_⟩:=d.dst h1;have:=ord_in hcl s i o' ho' (hcl s o' h2 ho') (hs s r' off cs h1 hk);rw [hXi] at this;cases this
 -- an object to which a pointer is at hand has been made
 have made:∀ (j off:Nat) (u:Value) (xs:List AV),Rel c (.ptr j off) u→(qao e0 (R.take i)).h[j]?=some (.cells xs)→(e0.h++qbb X 0 R)[j]?=some (.cells xs):=by
  intro j off u xs hp hj;rw [envAt_h] at hj;by_cases hjl:j<e0.h.length
  · rw [List.getElem?_append_left hjl] at hj ⊢;exact hj
  ·
   rw [List.getElem?_append_right (by omega)] at hj;obtain ⟨f,rf,ys,h1,h2,h3,h4⟩:=qdc _ _ _ _ hj;simp only [cond_true,AObj.cells.injEq] at h4;subst h4;have hfi:f<i:=by
    have:=(List.getElem?_eq_some_iff.1 h1).1;simp at this;omega
   rw [List.getElem?_take,if_pos hfi] at h1;rw [List.take_take,Nat.min_eq_left (by omega)] at h3;have hXf:X f=true:=by
    cases hX:X f with
    | true=>rfl
    | false =>
     have h5:=inv.nob f rf xs h1 h2 hX;unfold nFresh at h5;rw [h3,show e0.h.length+(j - e0.h.length)=j from by omega] at h5;obtain ⟨b,_,hb⟩:=ptr_inv hp;rw [h5] at hb;cases hb
   have h6:=freshX_get (X:=X) R 0 f rf xs h1 h2;rw [h3,Nat.zero_add,hXf,cond_true] at h6;rw [List.getElem?_append_right (by omega)];exact h6
 have hsame:SameArr (qao e0 (R.take i)).h (hX R X e0.h):=hX_sameArr
 -- an operation that makes an object
 have fresh:∀ (xs:List AV) (vs:Array Value) (T:TypeId),r=⟨o.dst,.ptr (qao e0 (R.take i)).h.length 0,.fresh xs⟩→o.guard=none→CellsR c xs vs→(execOp a.eval o).run P w=.ok (.value (.pointer (some ⟨w.heap.size,0,none⟩))) (w.alloc (.cells vs T)) →
   wpOp P l.toArray Q i (fun a' w'=>∃ c',DInv E e0 R (fun j=>if j=i then true else X j) c' a' w') a w:=by
  intro xs vs T hrv hg hc hrun;have hn:(qao e0 (R.take i)).h.length=e0.h.length+nFresh R i:=by rw [envAt_h];simp [nFresh]
  have hk:r.k=.fresh xs:=by rw [hrv]
  have hbase:(e0.h++qbb X 0 R)[e0.h.length+nFresh R i]?=some .none:=by
   rw [List.getElem?_append_right (by omega),Nat.add_sub_cancel_left];have:=freshX_get (X:=X) R 0 i r xs hr hk
   rwa [Nat.zero_add,hXi] at this
  have hnone:(hX R X e0.h)[e0.h.length+nFresh R i]?=some .none:=(applyS_kind _ _ _ .none (by simp)).2 hbase;obtain ⟨c',hle,s',k',hb,hoth⟩:=alloc_at inv.hs inv.ok hnone (inv.nob i r xs hr hk hXi) (by omega) T hc;have hnost:∀ r',r'∈selX X 0 R→∀ off cs,r'.k≠.store (e0.h.length+nFresh R i) off cs:=fun r' hr' off cs hk'=>by
   obtain ⟨ys,h1,_⟩:=inv.fit r' hr' _ off cs hk';rw [hbase] at h1;cases h1
  have hF:=freshX_add (X:=X) R 0 i r xs hr hk;rw [Nat.zero_add] at hF;have hF':qbb (fun j=>if j=i then true else X j) 0 R=(qbb X 0 R).set (nFresh R i) (.cells xs):=hF;have happ:e0.h++(qbb X 0 R).set (nFresh R i) (.cells xs)=(e0.h++qbb X 0 R).set (e0.h.length+nFresh R i) (.cells xs):=by
   rw [List.set_append_right _ _ (by omega),Nat.add_sub_cancel_left]
  have hh:hX R (fun j=>if j=i then true else X j) e0.h=(hX R X e0.h).set (e0.h.length+nFresh R i) (.cells xs):=by
   unfold hX;have h2:=applyS_add (X:=X) (R:=R) (k:=0) (i:=i) (r:=r) hr (by simpa using hXi) (.inl fun a b cs=>by rw [hk];simp);rw [Nat.zero_add] at h2;rw [hF',h2,happ,applyS_set hnost];unfold stepS;rw [hk]
  unfold wpOp;simp only [hget];rw [if_pos (by rw [hwant,hgt hg])];refine .inl (qb4 hrun ⟨c',⟨by cases o.dst<;>exact inv.defers,by cases o.dst<;>simp [Act.put,inv.size],fun t=>?_,by rw [hh];exact s',by rw [hh];exact k',fun j rj ys hj hjk hXj=>?_,fun rj hrj i' off cs hjk=>?_⟩⟩)
  ·
   have h1:=slotX_add (X:=X) (t:=t) (k:=0) (x:=qa8 e0.t t) hr (fun j r' hr' hd hn=>by
    obtain ⟨o',ho',hd',_⟩:=d.dst hr';exact d.ok.uniq i o j o' hi ho' (by rw [← hrd];exact hn) (by rw [← hrd,← hd',hd]))
   simp only [Nat.zero_add] at h1;rw [h1];cases hdst:o.dst with
   | none =>
    rw [hrd,hdst,if_neg (by simp)];exact (inv.tmps t).mono hle
   | some dd =>
    have hlt:dd<a.tmps.size:=by rw [inv.size];rw [hdst] at hdok;exact hdok
    rw [hrd,hdst];by_cases hdt:dd=t
    ·
     subst hdt;rw [if_pos rfl,hrv];simp only [Act.put,Array.getD_eq_getD_getElem?,Array.getElem?_setIfInBounds_self_of_lt hlt,Option.getD_some];rw [hn];exact .ptr _ _ _ hb
    ·
     rw [if_neg (by simpa using hdt)];have:=(inv.tmps t).mono hle;simpa [Act.put,Array.getD_eq_getD_getElem?,Array.getElem?_setIfInBounds_ne hdt] using this
  ·
   have hji:j≠i:=fun e=>by subst e;simp at hXj
   rw [if_neg hji] at hXj;rw [hoth _ fun e=>hji (nFresh_inj hj hr hjk hk (by omega))];exact inv.nob j rj ys hj hjk hXj
  ·
   obtain ⟨j,h1,h2⟩:=selX_mem hrj;simp only [Nat.zero_add] at h2;by_cases hji:j=i
   · subst hji;rw [hr] at h1;cases h1;rw [hk] at hjk;cases hjk
   ·
    rw [if_neg hji] at h2;obtain ⟨zs,h3,h4⟩:=inv.fit rj (selX_in h1 (by simpa using h2)) i' off cs hjk;refine ⟨zs,?_,h4⟩;rw [hF',happ,List.getElem?_set_ne]
    · exact h3
    · intro e;rw [e] at hbase;rw [hbase] at h3;cases h3
 split at hG
 ·
  -- pick
  rename_i x y z hop;obtain ⟨hp,hr'⟩:=hG;rw [hr] at hr';cases hr';refine still _ rfl ⟨_,rfl⟩ fun hGt=>?_;rw [hGt] at hp;have m:=hops;rw [hop] at m;obtain ⟨b,hb,hrel⟩:=pick_rel (m x (by simp [Op.operands])) (m y (by simp [Op.operands])) (m z (by simp [Op.operands])) hp;exact ⟨c,w,_,by simp only [execOp,hop,hb,asBool,Sem.run_bind,Sem.run_pure,Result.andThen_ok],.refl c,inv.hs,inv.ok,noneIdx,hrel⟩
 ·
  -- box
  rename_i T x hop;obtain ⟨hg,hall,hok,hr'⟩:=hG;rw [hr] at hr';have hrel:=hopsS [x] (by rw [hop];simp [Op.operands]) hall x (by simp);exact fresh _ _ T (by simpa using hr') hg (hrel.cells hok) (by simp only [execOp,hop,Instr.box,newVar,newRow,Sem.run_bind,qc2,Sem.run_pure,Result.andThen_ok])
 ·
  -- alloc
  rename_i T hop;obtain ⟨hg,hk,hr'⟩:=hG;rw [hr] at hr';obtain ⟨iT,dT,z,h1,h2,h3,h4,h5,h6,h7,h8⟩:=qat (P:=P) (t:=T) rfl hk;rw [h6] at hr';have hzv:(zeroValue T).run P w=.ok z w:=by simp [zeroValue,run_typeInfo _ h1,h3]
  exact fresh _ _ T (by simpa using hr') hg (zero_cells c h8) (by simp only [execOp,hop,Instr.alloc,newVar,newRow,Sem.run_bind,hzv,qc2,Sem.run_pure,Result.andThen_ok])
 ·
  -- a store
  rename_i T ad x hop;obtain ⟨hg,hdn,hall,hke,hok,hsz',hG⟩:=hG;split at hG
  ·
   rename_i j off had;split at hG
   ·
    rename_i xs hj;obtain ⟨hle',hr'⟩:=hG;rw [hr] at hr';simp only [Option.some.injEq] at hr';have hk:r.k=.store j off ((qao e0 (R.take i)).getS x).cells:=by rw [hr']
    have hra:=hopsS [ad,x] (by rw [hop];simp [Op.operands]) hall ad (by simp);have hrx:=hopsS [ad,x] (by rw [hop];simp [Op.operands]) hall x (by simp);rw [had] at hra;have hbase:=made j off _ xs hra hj;obtain ⟨ys,hy,hyl⟩:=applyS_cells (l:=selX X 0 R) (fun r' hr' i' off' cs hk' zs hz=>by
     obtain ⟨us,g1,g2⟩:=inv.fit r' hr' i' off' cs hk';rw [hz] at g1;cases g1;exact g2) hbase
    obtain ⟨w',hrun,s',k'⟩:=store_run (E:=E) inv.hs inv.ok hop hra hrx hy hok hsz' hke (by omega);have hF:=freshX_same (X:=X) R 0 i r hr (fun xs=>by rw [hk];simp);rw [Nat.zero_add] at hF;have hst:isStore o.op=true:=by rw [hop];rfl
    have h2:=applyS_add (X:=X) (R:=R) (k:=0) (i:=i) (r:=r) hr (by simpa using hXi) (.inr fun m r' hm him hXm b1 b2 b3 hkm=>by
     rw [Nat.zero_add] at hXm;obtain ⟨o',ho',_,hst'⟩:=d.dst hm;have:=ord_in hcl m i o' ho' (hcl m o' hXm ho') (d.ok.stores i o m o' hi ho' him hst (hst' ⟨b1,b2,b3,hkm⟩));rw [hXi] at this;cases this)
    rw [Nat.zero_add] at h2;have hh:hX R (fun j=>if j=i then true else X j) e0.h=(hX R X e0.h).set j (.cells (splice ys off ((qao e0 (R.take i)).getS x).cells)):=by
     have hy':(hX R X e0.h)[j]?=some (.cells ys):=hy;show qb9 _ _=_;rw [hF,h2];show stepS r (hX R X e0.h)=_;unfold stepS;rw [hk];simp only [hy']
    unfold wpOp;simp only [hget];rw [if_pos (by rw [hwant,hgt hg])];refine .inl (wp_skipV hrun ⟨c,⟨by rw [hdn];exact inv.defers,by rw [hdn];exact inv.size,fun t=>?_,by rw [hh];exact s',by rw [hh];exact k',fun m rm zs hm hmk hXm=>?_,fun rm hrm i' off' cs hmk=>?_⟩⟩)
    ·
     have h1:=slotX_add (X:=X) (t:=t) (k:=0) (x:=qa8 e0.t t) hr (fun m r' hr' hd hn=>by
      rw [hrd,hdn] at hn;exact (hn rfl).elim)
     simp only [Nat.zero_add] at h1;rw [h1,hrd,hdn,if_neg (by simp)];exact inv.tmps t
    ·
     have hmi:m≠i:=fun e=>by subst e;simp at hXm
     rw [if_neg hmi] at hXm;exact inv.nob m rm zs hm hmk hXm
    ·
     obtain ⟨m,h3,h4⟩:=selX_mem hrm;simp only [Nat.zero_add] at h4;rw [hF];by_cases hmi:m=i
     ·
      subst hmi;rw [hr] at h3;cases h3;rw [hk] at hmk;cases hmk;exact ⟨xs,hbase,hle'⟩
     ·
      rw [if_neg hmi] at h4;exact inv.fit rm (selX_in h3 (by simpa using h4)) i' off' cs hmk
   · exact hG.elim
  · exact hG.elim
 ·
  -- a literal of a slice
  rename_i T n parts hop;split at hG
  ·
   rename_i el sz hk;split at hG
   ·
    rename_i rows hrows;obtain ⟨hg,hall,hn,hpos,h24,hke,hsz',hr'⟩:=hG;rw [hr] at hr';cases hr';refine still (.slice rows) rfl ⟨_,rfl⟩ fun hGt=>?_;have hrel:=hopsS (parts.toList.map (·.2)) (by rw [hop];simp [Op.operands]) hall
    rw [litRows_congr hsame] at hrows;obtain ⟨v,w',c',hrun,hle,s',k',hr'⟩:=lit_ok (P:=P) (E:=⟨E.N,c,hX R X e0.h,w⟩) inv.hs (Ent.ok.refl _ inv.hs) hk (parts:=parts.toList.map fun p=>(p.1,(qao e0 (R.take i)).getS p.2)) (qs:=parts.map fun p=>(p.1,a.eval p.2)) (by simp) (fun j p q hp hq=>by
     simp only [List.getElem?_map,Option.map_eq_some_iff] at hp;obtain ⟨x,hx,rfl⟩:=hp;simp only [Array.getElem?_map,Option.map_eq_some_iff] at hq;obtain ⟨y,hy,rfl⟩:=hq;have:x=y:=by simpa [hy] using hx.symm
     subst this;exact ⟨rfl,hrel x.2 (List.mem_map.2 ⟨x,List.mem_of_getElem? hx,rfl⟩)⟩) hrows hn hpos h24 hke hsz'
    exact ⟨c',w',v,by simp only [execOp,hop,Sem.run_bind,hrun,Sem.run_pure,Result.andThen_ok],hle,s',inv.ok.trans k',fun n h1 h2=>by rw [k'.blk0 n h2];exact h1,hr'⟩
   · exact hG.elim
  · exact hG.elim
 ·
  -- a call of a function that only computes
  rename_i f args ts hop;split at hG
  ·
   rename_i fid first caps hf
   obtain ⟨rv,hp,hr'⟩:=hG;rw [hr] at hr';cases hr';unfold wpOp;simp only [hget];cases hGv:G with
   | true =>
    rw [if_pos (by rw [hwant,hGv])];obtain ⟨hall,hp⟩:=hp hGv;have hrel:=hopsS (f::args.toList) (by rw [hop];simp [Op.operands,Call.operands]) hall;rw [normL_congr hsame] at hp;refine .inl (call_rel (E:=⟨E.N,c,hX R X e0.h,w⟩) inv.hs (Ent.ok.refl _ inv.hs) hop hrel hf (hp _ hX_raw) (fun v h' c' w' u hR hle hs' hk' hru=>?_) (fun v h' hR=>by cases hR.1));obtain ⟨h1,rfl⟩:=hR;cases h1;refine ⟨c',quiet c' w' u ⟨_,rfl⟩ hle hs' (inv.ok.trans hk') (fun n h1 h2=>by rw [hk'.blk0 n h2];exact h1) ?_⟩;show Rel c' (optV o.guard G rv) u;rw [hGv];unfold optV;split
    · exact hru
    · exact .opt _ _ _ (fun _=>hru) (fun h=>by cases h)
   | false =>
    rw [if_neg (by rw [hwant,hGv];simp)];refine ⟨c,quiet c w undef ⟨_,rfl⟩ (.refl c) inv.hs inv.ok noneIdx ?_⟩;show Rel c (optV o.guard G rv) undef;rw [hGv];unfold optV;split
    ·
     rename_i hg;rw [hgt hg] at hGv;cases hGv
    · exact .opt _ _ _ (fun h=>by cases h) (fun _=>rfl)
  · exact hG.elim
 ·
  -- all others
  rename_i op hb1 hb2 hb3 hb4 hb5 hb6;obtain ⟨hside,hr'⟩:=hG;rw [hr] at hr';cases hr';refine still _ rfl ⟨_,rfl⟩ fun hGt=>?_;obtain ⟨hall,hs⟩:=hside hGt;have hrel:=hopsS _ (fun x hx=>hx) hall;have hheap:qbf P (qao e0 (R.take i)).getS (qao e0 (R.take i)).h o.op=qbf P (qao e0 (R.take i)).getS (hX R X e0.h) o.op:=opStill_heap hX_sameArr (fun j hj=>by
   obtain ⟨t,ad,off,hop,had⟩:∃ t ad off,o.op=.load t ad∧(qao e0 (R.take i)).getS ad=.ptr j off:=by
    revert hj
    unfold rdOf;split
    ·
     rename_i t ad hop';intro hj;split at hj
     ·
      rename_i i' off ha;simp only [Option.some.injEq] at hj;subst hj;exact ⟨t,ad,off,hop',ha⟩
     · cases hj
    · intro hj;cases hj
   have hs2:=hs;rw [hop] at hs2;simp only [qbf,aLoadAt,had] at hs2;split at hs2
   ·
    rename_i xs hxs;have hp:=hrel ad (by rw [hop];simp [Op.operands]);rw [had] at hp;have h1:=made j off _ xs hp hxs;have hno:=nostore j fun s r' off cs hs hk=>(d.sep i s _ r' j off cs hr (by simp only [hj]) hs hk).2;rw [hxs];unfold hX;rw [applyS_other hno,h1]
   · exact hs2.elim) hX_map
  rw [hheap] at hs ⊢;obtain ⟨v,h1,h2⟩:=still_ok inv.hs hrel hs;exact ⟨c,w,v,h1,.refl c,inv.hs,inv.ok,noneIdx,h2⟩
end
end Go.Abs
