/- Part 16 of a proof: AbsMk, AbsZo, AbsZn, AbsRec, AbsZg, AbsOa, AbsOb -/
import Derived.Laws.MakeOwn
import Derived.Recover
import Derived.Test.YtbimdamecieomaaGreatDoorQ07
import Derived.Test.YtbimdamecieomaaGreatDoorQ09
import Derived.Test.YtbimdamecieomaaGreatDoorQ12
import Derived.Test.YtbimdamecieomaaGreatDoorQ13
import Derived.Test.YtbimdamecieomaaGreatDoorQ15
set_option linter.all false

namespace Go.Abs
section
variable {P:Program} {E:Ent}
theorem uarr_new {c:Ctx} {h:qaa} {w:World} (s:HSim c h w) (k:E.ok c h w) (e:TypeId) {sz n cap:Nat} {cur:Array Value} {rows:List (List AV)} (hn:rows.length=n) (hcap:n≤cap) (hcm:cap≤maxLen) (hlen:n≤68719476736)
  (hrow:∀ r,r∈rows→r.length=sz) (hsize:cur.size=cap * sz)
  (hus:∀ (i' j:Nat) (r:List AV) (x:AV),rows[i']?=some r→r[j]?=some x→∃ u,(cur.toList.take (n * sz))[i' * sz+j]?=some u∧DRel c.D x u) :
  c.le (c.addSl h.length n (.slice (some ⟨w.heap.size,0,none⟩) n cap))∧HSim (c.addSl h.length n (.slice (some ⟨w.heap.size,0,none⟩) n cap)) (h++[.uarr e sz rows]) (w.alloc (.cells cur e)) ∧
   E.ok (c.addSl h.length n (.slice (some ⟨w.heap.size,0,none⟩) n cap)) (h++[.uarr e sz rows]) (w.alloc (.cells cur e)):=by
 obtain ⟨v0,hv0⟩:∃ v0,v0=Value.slice (some ⟨w.heap.size,0,none⟩) n cap:=⟨_,rfl⟩
 rw [← hv0];have hle:c.le (c.addSl h.length n v0):=Ctx.addSl_le ((s.dom _ (Nat.le_refl _)).2 n);have hsl:∀ i,i<h.length→∀ m,(c.addSl h.length n v0).sl i m=c.sl i m:=fun i hi m=>by
  simp only [Ctx.addSl];rw [if_neg (by omega)]
 have hlt:∀ {i:Nat} {o:AObj},h[i]?=some o→i<h.length:=fun hi=>(List.getElem?_eq_some_iff.1 hi).1;have hnew:qaf (c.addSl h.length n v0) h.length (.uarr e sz rows)=some w.heap.size:=by simp [qaf,Ctx.addSl,hv0,hn,Value.ownBlock]
 have hold:∀ b,b<w.heap.size→(w.alloc (.cells cur e)).heap[b]?=w.heap[b]?:=fun b hb=>by first | exact heap_alloc_old w _ b hb | exact heap_alloc_old w _ hb
 refine ⟨hle,⟨fun b j v hD=>?_,fun i hi=>?_,fun i o hi=>?_,fun i j o o' b hi hj hb hb'=>?_,fun i o b j v hi hb hD=>?_⟩,⟨k.edom,k.ext.trans hle,k.blk0,by have:=k.len;simp;omega,k.os,k.tape,k.output,Nat.le_trans k.size (qd4 w _),fun b hb hno=>?_,fun i o b hi hb=>?_,k.dold⟩⟩
 ·
  have hcell:=s.data b j v hD;have hb:b<w.heap.size:=World.block_lt_of_cell? w ⟨b,j,none⟩ hcell;rw [World.cell?_of_block (w:=w) (hold b hb)];exact hcell
 ·
  simp only [List.length_append,List.length_cons,List.length_nil] at hi;have:=s.dom i (by omega);refine ⟨this.1,fun m=>?_⟩;simp only [Ctx.addSl];rw [if_neg (by omega)];exact this.2 m
 ·
  rcases qak hi with h1 | ⟨rfl,rfl⟩
  · exact (s.obj i o h1).keep hle (hsl i (hlt h1)) fun b hb=>hold b ((s.obj i o h1).lt hb)
  ·
   refine ⟨v0,cur.toList.take (n * sz),by simp [Ctx.addSl,hn],by rw [hv0];rfl,fun m hm=>?_,?_,by omega,hrow,hus⟩
   ·
    simp only [Ctx.addSl];rw [if_neg (by omega)];exact (s.dom _ (Nat.le_refl _)).2 m
   ·
    rw [hv0,hn];refine ⟨?_,.inr ⟨w.heap.size,cap,cur,rfl,Nat.zero_le _,heap_alloc_new w _,hcap,hcm,hsize,rfl⟩⟩;rw [List.length_take,Array.length_toList,hsize];exact Nat.min_eq_left (Nat.mul_le_mul_right _ hcap)
 ·
  rcases qak hi with h1 | ⟨rfl,rfl⟩<;>rcases qak hj with h2 | ⟨rfl,rfl⟩
  ·
   rw [(s.obj i o h1).blk hle] at hb;rw [(s.obj j o' h2).blk hle] at hb';exact s.apart i j o o' b h1 h2 hb hb'
  ·
   rw [hnew] at hb';rw [(s.obj i o h1).blk hle] at hb;cases hb';have:=(s.obj i o h1).lt hb;omega
  ·
   rw [hnew] at hb;rw [(s.obj j o' h2).blk hle] at hb';cases hb;have:=(s.obj j o' h2).lt hb';omega
  · rfl
 ·
  have hD':c.D b j=some v:=hD;rcases qak hi with h1 | ⟨rfl,rfl⟩
  ·
   rw [(s.obj i o h1).blk hle] at hb;exact s.sep i o b j v h1 hb hD'
  ·
   rw [hnew] at hb;cases hb;rw [s.noD (Nat.le_refl _)] at hD';cases hD'
 · rw [hold b (Nat.lt_of_lt_of_le hb k.size)];exact k.frame b hb hno
 ·
  rcases qak hi with h1 | ⟨rfl,rfl⟩
  ·
   rw [(s.obj i o h1).blk hle] at hb;exact k.newobj i o b h1 hb
  ·
   rw [hnew] at hb;cases hb;exact .inr k.size
def zCell:Value→AV
 | .slice none 0 0=>.slice []
 | v=>.val v
def zOk (v:Value):Bool:=match v with
 | .slice none 0 0=>true
 | v=>v.oneCell'&&strOk v
theorem zRel {D:Nat→Nat→Option Value} {v:Value} (h:zOk v=true):DRel D (zCell v) v:=by
 unfold zOk at h;unfold zCell;split
 · exact .nil
 ·
  rename_i hne;split at h
  · exact (hne rfl).elim
  ·
   simp only [Bool.and_eq_true] at h;exact .val v h.1 h.2
theorem wp_make {c:Ctx} {e:Env} {a:Act} {w:World} (s:Sim E.N c e a w) (k:E.ok c e.h w) {ops:Array Oper} {rest:List Oper} {o1:Oper} {Q:Exit→Act→World→Prop} {T el:TypeId} {x:Operand} {d1 n:Nat} {i:TypeInfo} {z:Value}
  (g1:o1.guard=none) (hd1:o1.dst=some d1) (hlt1:d1<E.N) (hop1:o1.op=.makeSlice T x x)
  (ht:P.underlying T=some (.slice el)) (hi:P.info? el=some i) (hz:i.zero=some z) (hzs:z.cells.size=i.size) (hpos:0<i.size) (hbytes:i.bytes≤2048) (hzok:∀ v,v∈z.cells.toList→zOk v=true)
  (hx:qas e true [x]) (hxv:e.getS x=.val (.int .i64 n)) (hn:n≤68719476736)
  (hnext:∀ c' a' w',Sim E.N c' (({ e with h:=e.h++[.uarr el i.size (List.replicate n (z.cells.toList.map zCell))] }:Env).put o1.dst (.own e.h.length n)) a' w'→E.ok c' (e.h++[.uarr el i.size (List.replicate n (z.cells.toList.map zCell))]) w'→wpList P ops Q rest a' w') :
  wpList P ops Q (o1::rest) a w:=by
 have hrx:=qa2 s hx x (by simp);rw [hxv] at hrx;have hvx:a.eval x=.int .i64 n:=hrx.val_inv;have hbb:i.bytes * n≤2048 * 68719476736:=Nat.mul_le_mul hbytes hn;have hrun:=run_make (P:=P) w T el i z ht hi hz .i64 .i64 (n:Int) (n:Int) (by omega) (Int.le_refl _) (by
  have:(i.bytes:Int) * (n:Int)=((i.bytes * n:Nat):Int):=by simp
  omega) (by omega)
 simp only [Int.toNat_natCast] at hrun;have hget:∀ m,m<n * i.size→(madeCells z.cells (n * i.size))[m]?=z.cells[m % i.size]?:=fun m hm=>by
  unfold madeCells;rw [Array.getElem?_map];simp only [Array.getElem?_range,hm,if_true,Option.map_some,hzs];have:m % i.size<z.cells.size:=by rw [hzs];exact Nat.mod_lt _ hpos
  rw [Array.getElem?_eq_getElem this,getElem!_pos z.cells (m % i.size) this]
 have hsz:(madeCells z.cells (n * i.size)).size=n * i.size:=by simp [madeCells]
 have hU:=uarr_new (E:=E) (n:=n) (cap:=n) (sz:=i.size) (cur:=madeCells z.cells (n * i.size)) (rows:=List.replicate n (z.cells.toList.map zCell)) s.hs k el (by simp) (Nat.le_refl _) (by unfold maxLen;omega) hn (by
   intro r hr;rw [List.eq_of_mem_replicate hr];simp [hzs]) hsz (by
   intro i' j r x' hr hx';have hin:i'<n:=by
    have:=(List.getElem?_eq_some_iff.1 hr).1;simpa using this
   rw [List.getElem?_replicate,if_pos hin] at hr;cases hr;rw [List.getElem?_map] at hx';obtain ⟨u,hu,rfl⟩:=Option.map_eq_some_iff.1 hx';have hj:j<i.size:=by
    have:=(List.getElem?_eq_some_iff.1 hu).1;simpa [hzs] using this
   have hlt:i' * i.size+j<n * i.size:=by
    have:(i'+1) * i.size≤n * i.size:=Nat.mul_le_mul_right _ hin;rw [Nat.succ_mul] at this;omega
   refine ⟨u,?_,zRel (hzok u (List.mem_of_getElem? hu))⟩;rw [List.getElem?_take,if_pos hlt,Array.getElem?_toList,hget _ hlt];have:(i' * i.size+j) % i.size=j:=by
    rw [Nat.mul_comm,Nat.mul_add_mod];exact Nat.mod_eq_of_lt hj
   rw [this,← Array.getElem?_toList];exact hu)
 obtain ⟨hle,s1,k1⟩:=hU;refine qbx (G:=true) (by simp [Region.wanted,g1]) (fun _=>?_) (fun h=>by cases h);refine qbn (w':=w.alloc (.cells (madeCells z.cells (n * i.size)) el)) (v:=.slice (some ⟨w.heap.size,0,none⟩) n n) (by simp only [execOp,hop1,hvx,Sem.run_bind,hrun,Result.andThen_ok,Sem.run_pure]) ?_;refine hnext _ _ _ ?_ k1;exact s.put hle s1 (fun j hj=>by rw [hd1] at hj;cases hj;exact hlt1) (.own _ _ _ (by simp [Ctx.addSl]) rfl)
def nilz:AV→AV
 | .nils=>.slice []
 | x=>x
theorem zCell_lift {v:Value} (h:liftC v≠.top):zCell v=nilz (liftC v)∧(v.oneCell'=true→zOk v=true):=by
 unfold liftC at h ⊢;split at h
 · exact ⟨rfl,fun _=>rfl⟩
 ·
  split at h
  ·
   rename_i hs;refine ⟨?_,fun _=>?_⟩
   · rw [if_pos hs];rfl
   · simp [zOk,Value.oneCell',strOk,hs]
  · exact (h rfl).elim
 ·
  rename_i h1 h2;refine ⟨?_,fun ho=>?_⟩
  ·
   unfold zCell;split
   · exact (h1 rfl).elim
   · rfl
  ·
   unfold zOk;split
   · rfl
   ·
    rw [ho];unfold strOk;split
    · exact (h2 _ rfl).elim
    · rfl
theorem wp_makeT {c:Ctx} {e:Env} {a:Act} {w:World} (s:Sim E.N c e a w) (k:E.ok c e.h w) {ops:Array Oper} {rest:List Oper} {o1:Oper} {Q:Exit→Act→World→Prop} {T el:TypeId} {x:Operand} {d1 n sz:Nat} {zr:List AV}
  (g1:o1.guard=none) (hd1:o1.dst=some d1) (hlt1:d1<E.N) (hop1:o1.op=.makeSlice T x x)
  (hT:qae P T=.slice el sz) (hel:qae P el≠.other) (hsize:qao P el=sz) (hpos:0<sz) (hbytes:qal P el≤2048) (hzt:∀ x,x∈qay P el→x≠.top) (hzr:(qay P el).map nilz=zr)
  (hx:qas e true [x]) (hxv:e.getS x=.val (.int .i64 n)) (hn:n≤68719476736)
  (hnext:∀ c' a' w',Sim E.N c' (({ e with h:=e.h++[.uarr el sz (List.replicate n zr)] }:Env).put o1.dst (.own e.h.length n)) a' w'→E.ok c' (e.h++[.uarr el sz (List.replicate n zr)]) w'→wpList P ops Q rest a' w') :
  wpList P ops Q (o1::rest) a w:=by
 obtain ⟨iT,dT,zT,_,hund,_,hkd,_⟩:=qap hT (by simp);obtain ⟨rfl,ie,hie,hies⟩:=qa7 hkd;obtain ⟨ie',de,ze,hie',_,hze,hke,hts,htz,hzs,hz1⟩:=qap (P:=P) (t:=el) rfl hel;rw [hie] at hie';cases hie';subst hies;have hb:ie.bytes≤2048:=by
  have:qal P el=ie.bytes:=by
   unfold qal;have hne:=hel;unfold qae at hne;split at hne
   ·
    rename_i x hx;obtain ⟨i2,d2,z2,g1,_,_,rfl,_⟩:=ti_spec hx;rw [hie] at g1;cases g1;simp [hx]
   · exact (hne rfl).elim
  omega
 have hall:∀ v,v∈ze.cells.toList→zCell v=nilz (liftC v)∧zOk v=true:=fun v hv=>by
  have h1:liftC v≠.top:=hzt _ (by rw [htz];exact List.mem_map_of_mem hv);obtain ⟨h2,h3⟩:=zCell_lift h1;exact ⟨h2,h3 (hz1 v hv)⟩
 have hrow:ze.cells.toList.map zCell=zr:=by
  rw [← hzr,htz,List.map_map];exact List.map_congr_left fun v hv=>(hall v hv).1
 refine wp_make s k g1 hd1 hlt1 hop1 hund hie hze hzs hpos hb (fun v hv=>(hall v hv).2) hx hxv hn ?_;rw [hrow];exact hnext
end
end Go.Abs

namespace Go.Abs
section
variable {P:Program} {E:Ent}
inductive MK where
 | val
 | arr (el sz n:Nat) (zr:List AV)
 | cell (xs:List AV)
 | copy (t:Tmp)
def MK.made:MK→Bool
 | .val=>false
 | .copy _=>false
 | _=>true
def stepM (P:Program) (N:Nat) (o:Oper) (e:Env) (K:MK→DR→Prop):Prop :=
 o.guard=none∧dstOk N o.dst∧match o.op with
 | .makeSlice T x y=>(x=y∧o.dst.isSome=true)∧match qae P T,e.getS x with
  | .slice el sz,.val (.int .i64 n)=>qae P el≠.other∧qao P el=sz∧0<sz∧qal P el≤2048∧(∀ x,x∈qay P el→x≠.top)∧qas e true [x]∧0≤n∧n≤68719476736∧K (.arr el sz n.toNat ((qay P el).map nilz)) ⟨o.dst,.top,.quiet none⟩
  | _,_=>False
 | .alloc T=>(qae P T≠.other∧o.dst.isSome=true)∧K (.cell (qay P T)) ⟨o.dst,.top,.quiet none⟩
 | .pick ..=>False
 | .assign (.tmp t)=>match qba e.t t with
  | .top=>o.dst.isSome=true∧K (.copy t) ⟨o.dst,.top,.quiet none⟩
  | _=>qas e true [.tmp t]∧(qbe P e.getS e.h (.assign (.tmp t))).side∧K .val ⟨o.dst,(qbe P e.getS e.h (.assign (.tmp t))).val,.quiet none⟩
 | op=>isEff op=false∧qas e true op.operands.toList∧(qbe P e.getS e.h op).side∧K .val ⟨o.dst,(qbe P e.getS e.h op).val,.quiet none⟩
def opsM (P:Program) (N:Nat):List Oper→Env→List MK→(List MK→Env→Prop)→Prop
 | [],e,acc,K=>K acc e
 | o::l,e,acc,K=>stepM P N o e fun m r=>opsM P N l (e.put r.dst r.res) (acc++[m]) K
def finS (e:Env) (o:Oper):MK→Env
 | .val=>e
 | .arr el sz n zr=>({ e with h:=e.h++[.uarr el sz (List.replicate n zr)] }:Env).put o.dst (.own e.h.length n)
 | .cell xs=>({ e with h:=e.h++[.cells xs] }:Env).put o.dst (.ptr e.h.length 0)
 | .copy t=>e.put o.dst (qba e.t t)
def finE:List Oper→List MK→Env→Env
 | o::l,m::ms,e=>finE l ms (finS e o m)
 | _,_,e=>e
def MadeAt (c:Ctx) (w:World) (s0:Nat):MK→Nat→Value→Prop
 | .val,_,_=>True
 | .arr el sz n zr,b,v=>v=.slice (some ⟨b,0,none⟩) n n∧s0≤b∧n≤68719476736∧zr.length=sz∧∃ cur,w.heap[b]?=some (.cells cur el)∧cur.size=n * sz ∧
   ∀ (i' j:Nat) (r:List AV) (x:AV),(List.replicate n zr)[i']?=some r→r[j]?=some x→∃ u,(cur.toList.take (n * sz))[i' * sz+j]?=some u∧DRel c.D x u
 | .copy _,_,_=>True
 | .cell xs,b,v=>v=.pointer (some ⟨b,0,none⟩)∧s0≤b∧∃ vs T,w.heap[b]?=some (.cells vs T)∧CellsR c xs vs
theorem MadeAt.lt {c:Ctx} {w:World} {s0 b:Nat} {m:MK} {v:Value} (hm:m.made=true) (h:MadeAt c w s0 m b v):b<w.heap.size∧s0≤b:=by
 cases m with
 | val=>cases hm
 | copy t=>cases hm
 | arr el sz n zr =>
  obtain ⟨_,h0,_,_,cur,h1,_⟩:=h;exact ⟨(Array.getElem?_eq_some_iff.1 h1).1,h0⟩
 | cell xs =>
  obtain ⟨_,h0,vs,T,h1,_⟩:=h;exact ⟨(Array.getElem?_eq_some_iff.1 h1).1,h0⟩
structure MReg (P:Program) (E:Ent) (l:List Oper) (e0:Env) (R:List DR) (ms:List MK):Prop where
 ok:DrawOk l
 len:R.length=l.length
 mlen:ms.length=l.length
 step:∀ (k:Nat) (o:Oper),l[k]?=some o→∃ m r,ms[k]?=some m∧R[k]?=some r∧stepM P E.N o (qaq e0 (R.take k)) fun m' r'=>m'=m∧r'=r
structure MInv (E:Ent) (s0:Nat) (e0:Env) (l:List Oper) (R:List DR) (ms:List MK) (c:Ctx) (X:Nat→Bool) (a:Act) (w:World):Prop where
 defers:a.defers=[]
 size:a.tmps.size=E.N
 tmps:∀ t,Rel c (slotX X t 0 R (qba e0.t t)) (a.tmps.getD t undef)
 hs:HSim c e0.h w
 ok:E.ok c e0.h w
 copies:∀ k o t d,X k=true→l[k]?=some o→ms[k]?=some (.copy t)→o.dst=some d→(∀ j o',l[j]?=some o'→o'.dst=some t→j<k)→a.tmps.getD d undef=a.tmps.getD t undef
 made:∃ B:Nat→Nat,(∀ k o m d,X k=true→l[k]?=some o→ms[k]?=some m→m.made=true→o.dst=some d→MadeAt c w s0 m (B k) (a.tmps.getD d undef)) ∧
  (∀ k k' o o' m m',X k=true→X k'=true→l[k]?=some o→l[k']?=some o'→ms[k]?=some m→ms[k']?=some m'→m.made=true→m'.made=true→o.dst≠none→o'.dst≠none→B k=B k'→k=k')
theorem HSim.alloc {c:Ctx} {h:qaa} {w:World} (s:HSim c h w) (o:Obj):HSim c h (w.alloc o):=s.ext (fun _ hb=>heap_alloc_old w _ hb) (.refl c) (fun _ _=>rfl) (fun _ _ _ h=>.inl h) s.dom
theorem Ent.ok.alloc {c:Ctx} {h:qaa} {w:World} (k:E.ok c h w) (s:HSim c h w) (o:Obj):E.ok c h (w.alloc o):=k.ext' s (fun _ hb=>heap_alloc_old w _ hb) (.refl c) (fun _=>rfl) rfl rfl rfl (qd4 w _) (fun _ _ _ h=>.inl h)
attribute [go_sem] opsM stepM finE finS
end
end Go.Abs

namespace Go.Abs
section
variable {P:Program} {E:Ent}
theorem aops_effT {ops:Array Oper} {done rest:List Oper} {o1:Oper} {Q:AExit→Env→Prop} {e:Env} (hops:ops.toList=done++(o1::rest)) (hg:gB (done.map (·.dst)) e o1.guard=some true) (hd:dstOk E.N o1.dst)
  (h:opEff P e o1.op (fun v h'=>AOps P E ops rest Q (({ e with h:=h' }:Env).put o1.dst (optV o1.guard true v))) (fun _ _=>False)):AOps P E ops (o1::rest) Q e:=by
 intro c a w s k;have hw:=wanted_eq hops s hg;refine qbx (G:=true) hw (fun _=>?_) (fun h=>by cases h);refine eff_ok s k h (fun v h' c' w' u hK hle hs' hk' hr=>?_) (fun v h' c' w' u hK _ _ _ _=>hK.elim);refine hK c' _ w' (s.put hle hs' (dst_lt hd) ?_) (by cases o1.dst<;>exact hk');unfold optV;split
 · exact hr
 · exact .opt _ _ _ (fun _=>hr) (fun hf=>by cases hf)
theorem norm1_wk (E:Ent) (e:Env) (i:Nat):Wk E e ⟨(i,(qba e.t i).norm e.h)::e.t,e.h⟩:=fun c a w s k =>
 ⟨c,⟨s.defers,s.size,fun j=>by
  simp only [qba];by_cases hj:i=j
  ·
   subst hj;simp only [beq_self_eq_true,cond_true];exact qdd s.hs (s.tmps i)
  ·
   have:(i == j)=false:=by simpa using hj
   simp only [this,cond_false];exact s.tmps j,s.hs⟩,k⟩
end
end Go.Abs

namespace Go.Abs
section
variable {P:Program} {E:Ent}
theorem fnPost_end {fn:Func} {n0:Nat} {R:AEnd→qaa→Prop} {x':AExit} {e':Env} {c':Ctx} {ex:Exit} {a':Act} {w':World} (hn0:E.h.length≤n0) (hq:fnPost P fn.results.toList n0 R x' e') (hx:XR c' x' ex)
  (s:Sim E.N c' e' a' w') (k:E.ok c' e'.h w') :
  (∃ v r h' c2,(ex=.ret∨ex=.normal)∧(results fn a'.tmps).run P w'=.ok v w'∧R (.ret r) h'∧Rel c2 r v∧HSim c2 h' w'∧E.ok c2 h' w') ∨
  (∃ u r h' c2,ex=.panic [⟨u,false,false⟩]∧R (.panic r) h'∧Rel c2 r u∧HSim c2 h' w'∧E.ok c2 h' w'):=by
 have fin:∀ e'':Exit,(e''=.ret∨e''=.normal)→RetOk P fn.results.toList n0 R e'→∃ v r h' c2,(e''=.ret∨e''=.normal)∧(results fn a'.tmps).run P w'=.ok v w'∧R (.ret r) h'∧Rel c2 r v∧HSim c2 h' w'∧E.ok c2 h' w':=by
  rintro e'' he ⟨hside,r',h',h1,h2,h3,h4,h5,hR⟩;obtain ⟨v,hv,hr⟩:=results_ok (P:=P) s fn hside;obtain ⟨c2,g1,g2,g3⟩:=finish s k hr h1 h2 h3 (by omega) h5;exact ⟨v,r',h',c2,he,hv,hR,g3,g1,g2⟩
 cases x' with
 | normal=>cases ex<;>simp only [XR] at hx;exact .inl (fin _ (.inr rfl) hq)
 | exit i=>exact hq.elim
 | ret=>cases ex<;>simp only [XR] at hx;exact .inl (fin _ (.inl rfl) hq)
 | panic x =>
  cases ex with
  | panic ch =>
   cases ch with
   | nil=>simp [XR] at hx
   | cons p l =>
    cases l with
    | nil =>
     obtain ⟨u,r,g⟩:=p;cases r<;>cases g<;>simp only [XR] at hx;obtain ⟨v',h',h1,h2,h3,h4,h5,hR⟩:=hq;obtain ⟨c2,g1,g2,g3⟩:=finish s k hx h1 h2 h3 (by omega) h5;exact .inr ⟨u,v',h',c2,rfl,hR,g3,g1,g2⟩
    | cons=>simp [XR] at hx
  | _=>simp [XR] at hx
theorem wpS_fn {fn:Func} {code:Code} {e:Env} {a:Act} {c:Ctx} {w:World} (s:Sim E.N c e a w) (k:E.ok c e.h w) {H:qaa} {n0:Nat} (hn0:E.h.length≤n0)
  (body:AWp P E code (fnPost P fn.results.toList n0 fun r h'=>r=.ret (.tuple [])∧h'=H) e) {c₀:Frame} {U:FrameMode} {cs:List Frame} :
  code.wpS P (bodyPostS P fn c₀ cs fun en u' w'=>(∃ v,en=.returned v)∧u'=U∧∃ c',HSim c' H w'∧E.ok c' H w') a ({ c₀ with mode:=U }::cs) w:=by
 refine wpS_of_wp (wp_mono (body c a w s k) ?_);rintro ex a' w' ⟨x',e',c',hq,hx,hs',ok'⟩;rcases fnPost_end hn0 hq hx hs' ok' with ⟨v,r,h',c2,he,hv,⟨_,rfl⟩,_,g1,g2⟩ | ⟨u,r,h',c2,he,⟨h0,_⟩,_⟩
 ·
  rcases he with rfl | rfl
  · exact ⟨hs'.defers,U,rfl,v,hv,⟨v,rfl⟩,rfl,c2,g1,g2⟩
  · exact ⟨hs'.defers,U,rfl,v,hv,⟨v,rfl⟩,rfl,c2,g1,g2⟩
 · cases h0
end
end Go.Abs
namespace Go.Abs
theorem qbt {n:Nat} {o:AObj} {i:Nat} {h:qaa} (hu:hUnder n h=true) (ho:o.under n=true):hUnder n (h.set i o)=true:=by
 rw [qbq] at hu ⊢;intro x hx;rcases List.mem_or_eq_of_mem_set hx with hx | rfl
 · exact hu x hx
 · exact ho
theorem hwk_take2 {h:qaa} {n:Nat} {o o':AObj} (hn:n≤h.length):hwk ((h.set n o).set (n+1) o') (h.take n):=by
 have e:((h.set n o).set (n+1) o')=h.take n++(((h.set n o).set (n+1) o').drop n):=by
  rw [show h.take n=((h.set n o).set (n+1) o').take n from ?_,List.take_append_drop];apply List.ext_getElem?;intro i;simp only [List.getElem?_take];split
  · rw [List.getElem?_set_ne (by omega),List.getElem?_set_ne (by omega)]
  · rfl
 rw [e];exact hwk.app0 _
def ddf (d:List Deferred) (a:Act):Act:={ a with defers:=a.defers++d }
theorem upon_ddf {P:Program} {o:Oper} {d:List Deferred} {a:Act} {next next':Act→World→Prop} {Q Q':Exit→Act→World→Prop} {r:Result Next} (h:o.upon P a next Q r)
  (hn:∀ a w,next a w→next' (ddf d a) w) (hq:∀ x a w,Q x a w→Q' x (ddf d a) w):o.upon P (ddf d a) next' Q' r:=by
 have put:∀ (a:Act) (t:Option Tmp) (v:Value),(ddf d a).put t v=ddf d (a.put t v):=fun a t v=>by cases t<;>rfl
 have lets:LetsOut Q→LetsOut Q':=fun ⟨a,w,h⟩=>⟨ddf d a,w,hq _ _ _ h⟩
 unfold Oper.upon at h ⊢;split at h
 · rw [put];exact hn _ _ h
 · rw [put];exact hn _ _ h
 ·
  rename_i d0 w';have e:({ ddf d a with defers:=d0::(ddf d a).defers }:Act).put o.dst undef=ddf d ({ a with defers:=d0::a.defers }.put o.dst undef):=by
   rw [← put];rfl
  simp only [e];exact hn _ _ h
 ·
  refine Calls.mono h fun e w' he=>?_;cases e with
  | returned v=>simp only at he ⊢;rw [put];exact hn _ _ he
  | panicked c=>exact hq _ _ _ he
  | outgrown=>exact lets he
 ·
  rename_i row args w';intro f cs;obtain ⟨v,w2,hR,hs⟩:=h f cs;exact ⟨v,w2,by show next' _ _;rw [put];exact hn _ _ hR,hs⟩
 · exact hq _ _ _ h
 · exact h.elim
theorem wpList_ddf {P:Program} {ops:Array Oper} {d:List Deferred} {Q Q':Exit→Act→World→Prop} (hq:∀ x a w,Q x a w→Q' x (ddf d a) w):∀ {l:List Oper} {a:Act} {w:World},wpList P ops Q l a w→wpList P ops Q' l (ddf d a) w
 | [],a,w,h=>hq _ _ _ h
 | o::l,a,w,h=>by
  have put:∀ (a:Act) (t:Option Tmp) (v:Value),(ddf d a).put t v=ddf d (a.put t v):=fun a t v=>by cases t<;>rfl
  unfold wpList at h ⊢;have e1:(ddf d a).tmps=a.tmps:=rfl;rw [e1];split at h
  ·
   rename_i hw;rw [if_pos hw];rcases h with h | ⟨h1,a',w',h2⟩
   · exact .inl (upon_ddf h (fun a w hh=>wpList_ddf hq hh) hq)
   · exact .inr ⟨h1,ddf d a',w',hq _ _ _ h2⟩
  ·
   rename_i hw;rw [if_neg hw,put];exact wpList_ddf hq h
theorem acalls_wk {P:Program} {f:FuncId} {args:List AV} {h h1:qaa} {R:AEnd→qaa→Prop} (hw:∀ E,Wk E ⟨[],h⟩ ⟨[],h1⟩) (k:ACalls P f args h1 R):ACalls P f args h R:=by
 refine ⟨k.1,fun c w vs hs ha=>?_⟩;obtain ⟨c1,s1,o1⟩:=hw ⟨0,c,h,w⟩ c ⟨#[],[]⟩ w ⟨rfl,rfl,fun _=>.top _,hs⟩ (.refl 0 hs);have ha1:RelL c1 args vs:=⟨ha.1,fun j x v hx hv=>(ha.2 j x v hx hv).mono o1.ext⟩
 refine (k.2 c1 w vs s1.hs ha1).mono ?_;rintro e w' ⟨r,h',c',hR,hE,hs',ok'⟩;exact ⟨r,h',c',hR,hE,hs',o1.trans ok'⟩
theorem EndR.mono {c c':Ctx} (hc:c.le c') {r:AEnd} {e:Ending} (h:EndR c r e):EndR c' r e:=by
 unfold EndR at h ⊢;split at h
 · exact h.mono hc
 · exact h.mono hc
 · exact h.elim
theorem acalls_wkR {P:Program} {f:FuncId} {args:List AV} {h h1 h2:qaa} {r0:AEnd} (hw:∀ E,Wk E ⟨[],h1⟩ ⟨[],h2⟩) (k:ACalls P f args h fun r h'=>r=r0∧h'=h1):ACalls P f args h fun r h'=>r=r0∧h'=h2:=by
 refine ⟨k.1,fun c w vs hs ha=>?_⟩;refine (k.2 c w vs hs ha).mono ?_;rintro e w' ⟨r,h',c',⟨rfl,rfl⟩,hE,hs',ok'⟩;obtain ⟨c1,s1,o1⟩:=hw ⟨0,c',h',w'⟩ c' ⟨#[],[]⟩ w' ⟨rfl,rfl,fun _=>.top _,hs'⟩ (.refl 0 hs');exact ⟨_,_,c1,⟨rfl,rfl⟩,hE.mono o1.ext,s1.hs,ok'.trans o1⟩
theorem nilcu_wk (E:Ent) (e:Env) {p j t sz:Nat} {xs:List AV} (hp:e.h[p]?=some (.cells xs)) (hj:xs[j]?=some .nils) :
  Wk E e ⟨e.t,e.h.set p (.cells (xs.set j (.own e.h.length 0)))++[AObj.uarr t sz []]⟩:=by
 have h1:=promote_wk E e (t:=t) (sz:=sz) hp hj;have hlt:p<e.h.length:=(List.getElem?_eq_some_iff.1 hp).1
 rwa [List.set_append_left _ _ hlt] at h1
theorem nilc_wk (E:Ent) (e:Env) {p j t sz:Nat} {xs:List AV} (hp:e.h[p]?=some (.cells xs)) (hj:xs[j]?=some .nils) :
  Wk E e ⟨e.t,e.h.set p (.cells (xs.set j (.own e.h.length 0)))++[AObj.arr t sz []]⟩:=by
 have h1:=nilcu_wk E e (t:=t) (sz:=sz) hp hj;have h2:=qbz E ⟨e.t,e.h.set p (.cells (xs.set j (.own e.h.length 0)))++[AObj.uarr t sz []]⟩ (i:=e.h.length) (t:=t) (sz:=sz) (rows:=[]) (by simp);refine h1.trans ?_;simpa using h2
end Go.Abs

namespace Go.Abs
theorem acalls_nilu {P:Program} {f:FuncId} {rest:List AV} {h:qaa} {R:AEnd→qaa→Prop} (t sz:Nat) (k:ACalls P f (.own h.length 0::rest) (h++[.uarr t sz []]) R):ACalls P f (.nils::rest) h R:=by
 refine ⟨k.1,fun c w vs hs ha=>?_⟩;obtain ⟨hle,s1,k1⟩:=uarr_nil hs (.refl 0 hs) t sz;have ha1:RelL (c.addSl h.length 0 (.slice none 0 0)) (.own h.length 0::rest) vs:=by
  refine ⟨by simpa using ha.1,fun j x v hx hv=>?_⟩;cases j with
  | zero =>
   have:=nils_inv (ha.2 0 .nils v rfl hv);simp only [List.getElem?_cons_zero,Option.some.injEq] at hx;subst hx;rw [this];exact .own _ _ _ (by simp [Ctx.addSl]) rfl
  | succ j =>
   simp only [List.getElem?_cons_succ] at hx;exact (ha.2 (j+1) x v (by simpa using hx) hv).mono hle
 refine (k.2 _ w vs s1 ha1).mono ?_;rintro e w' ⟨r,h',c',hR,hE,hs',ok'⟩;exact ⟨r,h',c',hR,hE,hs',k1.trans ok'⟩
theorem acalls_ret {P:Program} {f:FuncId} {args:List AV} {h h1 h2:qaa} {x y:AV} (hw:∀ E:Ent,E.h=h→Wk E ⟨[(0,x)],h1⟩ ⟨[(0,y)],h2⟩) (k:ACalls P f args h fun r h'=>r=.ret x∧h'=h1):ACalls P f args h fun r h'=>r=.ret y∧h'=h2:=by
 refine ⟨k.1,fun c w vs hs ha=>?_⟩;refine (k.2 c w vs hs ha).mono ?_;rintro e w' ⟨r,h',c',⟨rfl,rfl⟩,hE,hs',ok'⟩;cases e with
 | returned v =>
  have hE:Rel c' x v:=hE;obtain ⟨c1,s1,o1⟩:=hw ⟨1,c,h,w⟩ rfl c' ⟨#[v],[]⟩ w' ⟨rfl,rfl,fun i=>by
   cases i with
   | zero=>simpa [qba] using hE
   | succ i=>simp [qba];exact .top _,hs'⟩ ⟨ok'.edom,ok'.ext,ok'.blk0,ok'.len,ok'.os,ok'.tape,ok'.output,ok'.size,ok'.frame,ok'.newobj,ok'.dold⟩
  have h1:Rel c1 y v:=by simpa [qba] using s1.tmps 0
  exact ⟨_,_,c1,⟨rfl,rfl⟩,h1,s1.hs,⟨o1.edom,o1.ext,o1.blk0,o1.len,o1.os,o1.tape,o1.output,o1.size,o1.frame,o1.newobj,o1.dold⟩⟩
 | _=>exact hE.elim
end Go.Abs

namespace Go.Abs
theorem obj_repl {E:Ent} {c:Ctx} {h:qaa} {w:World} (s:HSim c h w) (k:E.ok c h w) {i:Nat} {o o':AObj} (hi:h[i]?=some o) (hR:ObjR c w i o') (hb:∀ b,qaf c i o'=some b→qaf c i o=some b) (hsh:∀ j,o.shares j→o'.shares j) :
  HSim c (h.set i o') w∧E.ok c (h.set i o') w:=by
 have holt:∀ j ob b',(h.set i o')[j]?=some ob→qaf c j ob=some b'→∃ o0,h[j]?=some o0∧qaf c j o0=some b'∧∀ m,o0.shares m→ob.shares m:=fun j ob b' hj hb'=>by
  rcases qad hj with ⟨rfl,rfl⟩ | ⟨hne,h1⟩
  · exact ⟨_,hi,hb _ hb',hsh⟩
  · exact ⟨ob,h1,hb',fun _ h=>h⟩
 refine ⟨⟨s.data,fun j hj=>s.dom j (by simpa using hj),fun j ob hj=>?_,fun j j' ob o2 b' hj hj' hb1 hb2=>?_,fun j ob b' m v hj hb1 hD=>?_⟩,⟨k.edom,k.ext,k.blk0,by simpa using k.len,k.os,k.tape,k.output,k.size,k.frame,fun j ob b' hj hb1=>?_,k.dold⟩⟩
 ·
  rcases qad hj with ⟨rfl,rfl⟩ | ⟨hne,h1⟩
  · exact hR
  · exact s.obj j ob h1
 ·
  obtain ⟨o3,g1,g1',_⟩:=holt j ob b' hj hb1;obtain ⟨o4,g2,g2',_⟩:=holt j' o2 b' hj' hb2;exact s.apart j j' o3 o4 b' g1 g2 g1' g2'
 ·
  obtain ⟨o3,g1,g1',g3⟩:=holt j ob b' hj hb1;exact g3 m (s.sep j o3 b' m v g1 g1' hD)
 ·
  obtain ⟨o3,g1,g1',_⟩:=holt j ob b' hj hb1;exact k.newobj j o3 b' g1 g1'
theorem onorm_wk (E:Ent) (e:Env) {i t sz:Nat} {rows:List (List AV)} (hi:e.h[i]?=some (.oarr t sz rows)) (hd:∀ r,r∈rows→(qa4 e.h r).all AV.isData=true):Wk E e ⟨e.t,e.h.set i (.uarr t sz (rows.map (qa4 e.h)))⟩:=fun c a w s k=>by
 obtain ⟨v,vs,h1,ho,hm,h2,h3,h4,h5⟩:=s.hs.obj i _ hi;obtain ⟨s1,k1⟩:=obj_repl s.hs k hi (o':=.uarr t sz (rows.map (qa4 e.h))) ⟨v,vs,by simpa using h1,ho,by simpa using hm,by simpa using h2,by simpa using h3,fun r hr=>by
   obtain ⟨r0,hr0,rfl⟩:=List.mem_map.1 hr;rw [qc3,List.length_map];exact h4 r0 hr0,fun i' j r x hr hx=>by
   rw [List.getElem?_map] at hr;obtain ⟨r0,hr0,rfl⟩:=Option.map_eq_some_iff.1 hr;have hxm:=List.mem_of_getElem? hx;rw [qc3,List.getElem?_map] at hx;obtain ⟨x0,hx0,rfl⟩:=Option.map_eq_some_iff.1 hx;obtain ⟨u,hu,hrel,_⟩:=h5 i' j r0 x0 hr0 hx0;exact ⟨u,hu,isData_rel (List.all_eq_true.1 (hd r0 (List.mem_of_getElem? hr0)) _ hxm) (qdd s.hs hrel)⟩⟩ (fun b hb=>by simpa [qaf] using hb) (fun j hj=>hj.elim)
 exact ⟨c,⟨s.defers,s.size,s.tmps,s1⟩,k1⟩
theorem nilco_wk (E:Ent) (e:Env) {p j t sz:Nat} {xs:List AV} (hp:e.h[p]?=some (.cells xs)) (hj:xs[j]?=some .nils) :
  Wk E e ⟨e.t,e.h.set p (.cells (xs.set j (.own e.h.length 0)))++[AObj.oarr t sz []]⟩:=fun c a w s k=>by
 obtain ⟨hle,s1,k1⟩:=oarr_nil s.hs k t sz;have hlt:p<e.h.length:=(List.getElem?_eq_some_iff.1 hp).1;obtain ⟨s2,k2⟩:=retype_ok s1 k1 (p:=p) (xs:=xs) (xs':=xs.set j (.own e.h.length 0)) (by rw [List.getElem?_append_left hlt];exact hp) (by simp) (fun i x x' v hx hx' hr=>by
  rcases qad hx' with ⟨rfl,rfl⟩ | ⟨hne,h1⟩
  ·
   rw [hj] at hx;cases hx;have:=nils_inv hr;subst this;exact .own _ _ _ (by simp [Ctx.addSl]) rfl
  · rw [h1] at hx;cases hx;exact hr)
 rw [List.set_append_left _ _ hlt] at s2 k2;exact ⟨_,⟨s.defers,s.size,fun i=>(s.tmps i).mono hle,s2⟩,k2⟩
end Go.Abs

namespace Go.Abs
open Go.Proofs Go.Shelf
section
variable {P:Program} {E:Ent}
structure InsPostK (w w':World) (v v':Value) (e:TypeId) (sz n:Nat) (us:List Value):Prop where
 one:v'.oneCell'=true
 own:w'.ownsRow 0 e sz v' n us
 os:w'.os=w.os
 tape:w'.tape=w.tape
 output:w'.output=w.output
 size:w.heap.size≤w'.heap.size
 two:(∃ g,v.ownBlock=some g∧v'.ownBlock=some g∧∀ k,k≠g→w'.heap[k]?=w.heap[k]?)∨(v'.ownBlock=some w.heap.size∧∀ k,k<w.heap.size→w'.heap[k]?=w.heap[k]?)
def InsK (P:Program) (f:FuncId) (e:TypeId) (sz:Nat):Prop:=∀ (w:World) (v:Value) (n pos vb vc:Nat) (cs:List Value) (kv:Array Value) (tA:TypeId),w.ownsRow 0 e sz v n cs→(∀ u∈cs,u.oneCell'=true)→pos≤n→n+1≤68719476736 →
 w.heap[vb]?=some (.cells kv tA (0,0))→kv.size=sz→(∀ u∈kv.toList,u.oneCell'=true)→(∀ g,v.ownBlock=some g→vb≠g) →
 Calls P f #[v,.int .i64 pos,.slice (some ⟨vb,0,none⟩) 1 vc] w fun e' w'=>∃ v',e'=.returned v'∧InsPostK w w' v v' e sz (n+1) (cs.take (pos * sz)++kv.toList++cs.drop (pos * sz))
theorem rows_ins {c:Ctx} {rows:List (List AV)} {vs:List Value} {sz pos:Nat} {r0:List AV} {us:List Value} (hp:pos≤rows.length) (hl:vs.length=rows.length * sz) (hrl:∀ r,r∈rows→r.length=sz) (hr0:r0.length=sz) (hul:us.length=sz)
  (h:∀ (i j:Nat) (r:List AV) (x:AV),rows[i]?=some r→r[j]?=some x→∃ u,vs[i * sz+j]?=some u∧Rel c x u∧u.oneCell'=true) (h0:∀ (j:Nat) (x:AV),r0[j]?=some x→∃ u,us[j]?=some u∧Rel c x u∧u.oneCell'=true) :
  ∀ (i j:Nat) (r:List AV) (x:AV),(rows.take pos++r0::rows.drop pos)[i]?=some r→r[j]?=some x→∃ u,(vs.take (pos * sz)++us++vs.drop (pos * sz))[i * sz+j]?=some u∧Rel c x u∧u.oneCell'=true:=by
 intro i j r x hr hx;have hps:pos * sz≤rows.length * sz:=Nat.mul_le_mul_right _ hp;have hjs:∀ r':List AV,r'.length=sz→r'[j]?=some x→j<sz:=fun r' h1 h2=>by rw [← h1];exact (List.getElem?_eq_some_iff.1 h2).1
 have htl:(vs.take (pos * sz)).length=pos * sz:=by rw [List.length_take];omega
 by_cases h1:i<pos
 ·
  rw [List.getElem?_append_left (by simp;omega),List.getElem?_take,if_pos h1] at hr;have hj:=hjs r (hrl r (List.mem_of_getElem? hr)) hx;have hlt:(i+1) * sz≤pos * sz:=Nat.mul_le_mul_right _ h1;rw [Nat.add_mul,Nat.one_mul] at hlt;obtain ⟨u,hu,hd⟩:=h i j r x hr hx;refine ⟨u,?_,hd⟩;rw [List.append_assoc,List.getElem?_append_left (by omega),List.getElem?_take,if_pos (by omega)];exact hu
 ·
  rw [List.getElem?_append_right (by simp;omega)] at hr;simp only [List.length_take,Nat.min_eq_left hp] at hr;by_cases h2:i=pos
  ·
   subst h2;rw [Nat.sub_self] at hr;simp at hr;subst hr;have hj:=hjs r0 hr0 hx;obtain ⟨u,hu,hd⟩:=h0 j x hx;refine ⟨u,?_,hd⟩;rw [List.append_assoc,List.getElem?_append_right (by omega),htl,show i * sz+j - i * sz=j by omega,List.getElem?_append_left (by omega)];exact hu
  ·
   rw [show i - pos=(i - (pos+1))+1 by omega] at hr;simp only [List.getElem?_cons_succ,List.getElem?_drop] at hr;rw [show pos+(i - (pos+1))=i - 1 by omega] at hr;have hj:=hjs r (hrl r (List.mem_of_getElem? hr)) hx;obtain ⟨u,hu,hd⟩:=h (i - 1) j r x hr hx;refine ⟨u,?_,hd⟩;have e1:i * sz=(i - 1) * sz+sz:=by rw [← Nat.succ_mul];congr 1;omega
   have e2:pos * sz≤(i - 1) * sz:=Nat.mul_le_mul_right _ (by omega);rw [List.getElem?_append_right (by simp [htl,hul];omega),List.getElem?_drop];rw [show pos * sz+(i * sz+j - (vs.take (pos * sz)++us).length)=(i - 1) * sz+j by simp only [List.length_append,htl,hul];omega];exact hu
theorem wp_insO {c:Ctx} {e:Env} {a:Act} {w:World} (s:Sim E.N c e a w) (k:E.ok c e.h w) {ops:Array Oper} {rest:List Oper} {o1 o2:Oper} {Q:Exit→Act→World→Prop} {T el sz:Nat} {x xa xb f:Operand} {d1:Nat} {y:AV} {fid:FuncId} {ts:Array TypeId}
  (hI:InsK P fid el sz) (g1:o1.guard=none) (g2:o2.guard=none) (hd1:o1.dst=some d1) (hlt1:d1<E.N) (hd2:dstOk E.N o2.dst) (hop1:o1.op=.buildSlice T 1 #[(0,x)]) (hop2:o2.op=.call { callee:=.value f,args:=#[xa,xb,.tmp d1],argTypes:=ts })
  (hT:qae P T=.slice el sz) (hel:qae P el≠.other) (hsz:qao P el=sz) (hpos:0<sz) (h24:sz≤16777216) (hx:qas e true [x,xa,xb,f]) (hxk:e.getS x=y) (hok:y.cellsOk=true) (hyl:y.cells.length=sz)
  {i n:Nat} (hxa:e.getS xa=.own i n) {pos:Nat} (hxb:e.getS xb=.val (.int .i64 pos)) (hne:∀ t,xa=.tmp t→t≠d1) (hneb:∀ t,xb=.tmp t→t≠d1) (hf:f=.func fid) (hEn:Enter P fid)
  {rows:List (List AV)} (hi:e.h[i]?=some (.oarr el sz rows)) (hn:rows.length=n) (hpn:pos≤n) (hlen:n+1≤68719476736)
  (hnext:∀ c' a' w',Sim E.N c' ((({ e with h:=e.h.set i (.oarr el sz (rows.take pos++y.cells::rows.drop pos)) }:Env).put o1.dst .top).put o2.dst (.own i (n+1))) a' w'→E.ok c' (e.h.set i (.oarr el sz (rows.take pos++y.cells::rows.drop pos))) w'→wpList P ops Q rest a' w') :
  wpList P ops Q (o1::o2::rest) a w:=by
 have hrel:=qa2 s hx;have hrx:=hrel x (by simp);have hrxa:=hrel xa (by simp);have hrxb:=hrel xb (by simp);rw [hxk] at hrx;rw [hxa] at hrxa;rw [hxb] at hrxb;have hvb:a.eval xb=.int .i64 pos:=hrxb.val_inv;obtain ⟨hc1,hc2⟩:=hrx.cells hok;have hrun1:=run_buildK (P:=P) hT hel hsz hpos h24 (v:=a.eval x) (by rw [hc1,hyl]) w;obtain ⟨c1,hle1,s1,k1,hD1⟩:=data_ok s.hs k (a.eval x).cells el;refine qbx (G:=true) (by simp [Region.wanted,g1]) (fun _=>?_) (fun h=>by cases h);refine qbn (w':=w.alloc (.cells (a.eval x).cells el)) (v:=.slice (some ⟨w.heap.size,0,none⟩) 1 1) (by simp only [execOp,hop1,List.map_toArray,List.map_cons,List.map_nil,Sem.run_bind,hrun1,Result.andThen_ok,Sem.run_pure]) ?_;have s2:Sim E.N c1 (e.put o1.dst .top) (a.put o1.dst (.slice (some ⟨w.heap.size,0,none⟩) 1 1)) (w.alloc (.cells (a.eval x).cells el)) :=
  s.put hle1 s1 (fun j hj=>by rw [hd1] at hj;cases hj;exact hlt1) (.top _)
 obtain ⟨hv,vs,hown,hrl,hcells⟩:=own_invO s1 hi hn (hrxa.mono hle1);have hone:∀ u,u∈vs→u.oneCell'=true:=fun u hu=>by
  obtain ⟨j,hj⟩:=List.getElem?_of_mem hu;have hlt:j<rows.length * sz:=by have:=(List.getElem?_eq_some_iff.1 hj).1;rw [hown.1] at this;rw [hn];exact this
  have hlt2:j / sz<rows.length:=Nat.div_lt_of_lt_mul (by rw [Nat.mul_comm];exact hlt);have hr:rows[j / sz]?=some rows[j / sz]:=by simp [hlt2]
  have hrl':=hrl _ (List.mem_of_getElem? hr);have hm:j % sz<sz:=Nat.mod_lt _ hpos;obtain ⟨u',hu',_,h1⟩:=hcells (j / sz) (j % sz) _ (rows[j / sz][j % sz]'(by omega)) hr (by simp [hrl',hm]);rw [show j / sz * sz+j % sz=j by rw [Nat.mul_comm];exact Nat.div_add_mod j sz,hj] at hu';cases hu';exact h1
 have honex:∀ u,u∈(a.eval x).cells.toList→u.oneCell'=true:=fun u hu=>by
  obtain ⟨j,hj⟩:=List.getElem?_of_mem hu;have hlt:j<y.cells.length:=by rw [← hc1];have:=(List.getElem?_eq_some_iff.1 hj).1;simpa using this
  exact (hc2 j _ u (by simp [hlt];rfl) (by simpa using hj)).2
 have hkeep:(w.alloc (.cells (a.eval x).cells el)).heap[w.heap.size]?=some (.cells (a.eval x).cells el (0,0)):=heap_alloc_new _ _;have hblk:∀ g,(a.eval xa).ownBlock=some g→w.heap.size≠g:=fun g hg e1=>by
  have hsl:c.sl i n=some (a.eval xa):=by
   cases hrxa with
   | data h=>cases h
   | own _ _ _ h _=>exact h
  have hb:qaf c i (.oarr el sz rows)=some g:=by simp [qaf,hn,hsl,hg]
  have:=(s.hs.obj i _ hi).lt hb;omega
 have hcall:=hI _ _ n pos w.heap.size 1 vs _ el hown hone hpn hlen hkeep (by rw [hc1,hyl]) honex hblk;have heva:(a.put o1.dst (.slice (some ⟨w.heap.size,0,none⟩) 1 1)).eval xa=a.eval xa:=by
  rw [hd1];cases xa with
  | tmp t=>have:=hne t rfl;simp [Act.put,Act.eval,Array.getElem?_setIfInBounds_ne (Ne.symm this),Array.getD_eq_getD_getElem?]
  | _=>rfl
 have hevb:(a.put o1.dst (.slice (some ⟨w.heap.size,0,none⟩) 1 1)).eval xb=.int .i64 pos:=by
  rw [← hvb,hd1];cases xb with
  | tmp t=>have:=hneb t rfl;simp [Act.put,Act.eval,Array.getElem?_setIfInBounds_ne (Ne.symm this),Array.getD_eq_getD_getElem?]
  | _=>rfl
 have hsz':d1<a.tmps.size:=by rw [s.size];exact hlt1
 have hevd:(a.put o1.dst (.slice (some ⟨w.heap.size,0,none⟩) 1 1)).eval (.tmp d1)=.slice (some ⟨w.heap.size,0,none⟩) 1 1:=by
  rw [hd1];simp [Act.put,Act.eval,hsz']
 refine qbx (G:=true) (by simp [Region.wanted,g2]) (fun _=>?_) (fun h=>by cases h);unfold Oper.wp;rw [run_enter (us:=#[]) (vs:=#[]) hop2 (by rw [hf];rfl) hEn];simp only [Array.empty_append,Array.append_empty,List.map_toArray,List.map_cons,List.map_nil,heva,hevb,hevd];refine hcall.mono ?_;rintro en w' ⟨v',rfl,hpost⟩;have hlen':(rows.take pos++y.cells::rows.drop pos).length=n+1:=by simp;omega
 obtain ⟨c2,hle2,s3,k3,hr3⟩:=oarr_grow (E:=E) s1 k1 (rows':=rows.take pos++y.cells::rows.drop pos) hi (by rw [hn];exact hv) (by omega) (by omega) (fun r hr=>by
   rcases List.mem_append.1 hr with hr | hr
   · exact hrl r (List.mem_of_mem_take hr)
   ·
    rcases List.mem_cons.1 hr with rfl | hr
    · exact hyl
    · exact hrl r (List.mem_of_mem_drop hr)) (rows_ins (by omega) (by rw [hown.1,hn]) hrl hyl (by simp [hc1,hyl]) hcells (us:=(a.eval x).cells.toList) (fun j z hz=>by
    have hlt:j<(a.eval x).cells.size:=by rw [hc1];exact (List.getElem?_eq_some_iff.1 hz).1
    obtain ⟨h3,h4⟩:=hc2 j z (a.eval x).cells[j] hz (by simp [hlt]);exact ⟨_,by simp [hlt],h3.mono hle1,h4⟩)) hpost.one (by rw [hlen'];exact hpost.own) hpost.os hpost.tape hpost.output hpost.size hpost.two
 rw [hlen'] at hr3;refine hnext c2 _ w' ?_ k3;have:=s2.put (x:=.own i (n+1)) (d:=o2.dst) hle2 s3 (dst_lt hd2) hr3;rw [hd1] at this ⊢;exact this
end
end Go.Abs
