/- Part 17 of a proof: AbsIq, AbsMk -/
import Derived.Laws.MakeOwn
import Derived.Test.YtcjolkgjhcdhcaaGreatDoorR14
import Derived.Test.YtcjolkgjhcdhcaaGreatDoorR15
import Derived.Test.YtcjolkgjhcdhcaaGreatDoorR16
set_option linter.all false

namespace Go.Abs
section
variable {P:Program} {E:Ent}
theorem awpI_of_awp {code:Code} {Q:AExit→List Deferred→Env→Prop} {e:Env} (h:AWp P E code (fun x e=>Q x [] e) e):AWpI P E none code Q [] e:=fun n c a w s k=>by
 have e0:∀ a:Act,ddf [] a=a:=fun a=>by simp [ddf]
 rw [e0];refine wpIn_mono ((wpIn_wide (n:=n)).2 (h c a w s k)) fun x a' w' hh=>?_;have:=conc_I (Q:=Q) (ds:=[]) hh
 rwa [e0] at this
theorem AYield.mono {l:Nat} {args:List AV} {h:qab} {R R':AEnd→qab→Prop} (k:AYield P l args h R) (hr:∀ r h',R r h'→R' r h'):AYield P l args h R':=fun m c w vs hs ha=>by
 obtain ⟨fn,tmps,asg,body,h1,h2⟩:=k m c w vs hs ha;refine ⟨fn,tmps,asg,body,h1,h2.mono ?_⟩;rintro e w' ⟨r,h',c',hR,x⟩;exact ⟨r,h',c',hr _ _ hR,x⟩
def TWpI (P:Program) (E:Ent) (ro:Option Nat) (c:Code) (Q:AExit→List Deferred→Env→Prop) (ds:List Deferred) (e:Env) (_:Tag (c,Q)):Prop:=AWpI P E ro c Q ds e
def wpCI (P:Program) (E:Ent) (ro:Option Nat):Code→(AExit→List Deferred→Env→Prop)→List Deferred→Env→Prop
 | .skip,Q,ds,e=>Q .normal ds e
 | .region _ ops false,Q,ds,e=>(ops.toList.all fun o=>!isDef o.op)=true∧opsG P E.N (fun x e=>Q x ds e) [] ops.toList e
 | .seq a b,Q,ds,e=>wpCI P E ro a (thenI (wpCI P E ro b Q) Q) ds e
 | .cond x a b,Q,ds,e=>match e.get x with
  | .val (.bool c)=>Cnd c e (wpCI P E ro a Q ds) (wpCI P E ro b Q ds) ⟨⟩ ⟨⟩
  | _=>False
 | .block id b,Q,ds,e=>wpCI P E ro b (blockI id Q) ds e
 | .exit id,Q,ds,e=>Q (.exit id) ds e
 | .ret,Q,ds,e=>Q .ret ds e
 | c,Q,ds,e=>TWpI P E ro c Q ds e ⟨⟩
theorem qb8 {ro:Option Nat}:∀ (c:Code) (Q:AExit→List Deferred→Env→Prop) (ds:List Deferred) (e:Env),wpCI P E ro c Q ds e→AWpI P E ro c Q ds e
 | .skip,Q,ds,e,h=>awpI_skip h
 | .region id ops false,Q,ds,e,h=>by have:=awpI_region (ro:=ro) (id:=id) (l:=ops.toList) h.1 h.2;simpa using this
 | .region id ops true,Q,ds,e,h=>h
 | .seq a b,Q,ds,e,h=>awpI_seq (awpI_mono (qb8 a _ ds e h) fun x ds' e' hx=>by
   cases x with
   | normal=>exact qb8 b Q ds' e' hx
   | _=>exact hx)
 | .cond x a b,Q,ds,e,h=>by
  simp only [wpCI] at h;split at h
  ·
   rename_i c hx;exact awpI_cond hx (fun hc=>qb8 a Q ds e (h.1 hc)) (fun hc=>qb8 b Q ds e (h.2 hc))
  · exact h.elim
 | .block id b,Q,ds,e,h=>awpI_block (qb8 b _ ds e h)
 | .loop b,Q,ds,e,h=>h
 | .rangeFunc ..,Q,ds,e,h=>h
 | .exit id,Q,ds,e,h=>awpI_exit h
 | .scope b,Q,ds,e,h=>h
 | .label _,Q,ds,e,h=>h
 | .goto _,Q,ds,e,h=>h
 | .ret,Q,ds,e,h=>awpI_ret h
 | .refuse _,Q,ds,e,h=>h
end
attribute [go_sem] wpCI thenI blockI isDef opsY stepY
end Go.Abs

namespace Go.Abs
section
variable {P:Program} {E:Ent}
theorem uarr_new {c:Ctx} {h:qab} {w:World} (s:HSim c h w) (k:E.ok c h w) (e:TypeId) {sz n cap:Nat} {cur:Array Value} {rows:List (List AV)} (hn:rows.length=n) (hcap:n≤cap) (hcm:cap≤maxLen) (hlen:n≤68719476736)
  (hrow:∀ r,r∈rows→r.length=sz) (hsize:cur.size=cap * sz)
  (hus:∀ (i' j:Nat) (r:List AV) (x:AV),rows[i']?=some r→r[j]?=some x→∃ u,(cur.toList.take (n * sz))[i' * sz+j]?=some u∧DRel c.D x u) :
  c.le (c.addSl h.length n (.slice (some ⟨w.heap.size,0,none⟩) n cap))∧HSim (c.addSl h.length n (.slice (some ⟨w.heap.size,0,none⟩) n cap)) (h++[.uarr e sz rows]) (w.alloc (.cells cur e)) ∧
   E.ok (c.addSl h.length n (.slice (some ⟨w.heap.size,0,none⟩) n cap)) (h++[.uarr e sz rows]) (w.alloc (.cells cur e)):=by
 obtain ⟨v0,hv0⟩:∃ v0,v0=Value.slice (some ⟨w.heap.size,0,none⟩) n cap:=⟨_,rfl⟩
 rw [← hv0];have hle:c.le (c.addSl h.length n v0):=Ctx.addSl_le ((s.dom _ (Nat.le_refl _)).2 n);have hsl:∀ i,i<h.length→∀ m,(c.addSl h.length n v0).sl i m=c.sl i m:=fun i hi m=>by
  simp only [Ctx.addSl];rw [if_neg (by omega)]
 have hlt:∀ {i:Nat} {o:AObj},h[i]?=some o→i<h.length:=fun hi=>(List.getElem?_eq_some_iff.1 hi).1;have hnew:qal (c.addSl h.length n v0) h.length (.uarr e sz rows)=some w.heap.size:=by simp [qal,Ctx.addSl,hv0,hn,Value.ownBlock]
 have hold:∀ b,b<w.heap.size→(w.alloc (.cells cur e)).heap[b]?=w.heap[b]?:=fun b hb=>by first | exact heap_alloc_old w _ b hb | exact heap_alloc_old w _ hb
 refine ⟨hle,⟨fun b j v hD=>?_,fun i hi=>?_,fun i o hi=>?_,fun i j o o' b hi hj hb hb'=>?_,fun i o b j v hi hb hD=>?_⟩,⟨k.edom,k.ext.trans hle,k.blk0,by have:=k.len;simp;omega,k.os,k.tape,k.output,Nat.le_trans k.size (qd1 w _),fun b hb hno=>?_,fun i o b hi hb=>?_,k.dold⟩⟩
 ·
  have hcell:=s.data b j v hD;have hb:b<w.heap.size:=World.block_lt_of_cell? w ⟨b,j,none⟩ hcell;rw [World.cell?_of_block (w:=w) (hold b hb)];exact hcell
 ·
  simp only [List.length_append,List.length_cons,List.length_nil] at hi;have:=s.dom i (by omega);refine ⟨this.1,fun m=>?_⟩;simp only [Ctx.addSl];rw [if_neg (by omega)];exact this.2 m
 ·
  rcases qam hi with h1 | ⟨rfl,rfl⟩
  · exact (s.obj i o h1).keep hle (hsl i (hlt h1)) fun b hb=>hold b ((s.obj i o h1).lt hb)
  ·
   refine ⟨v0,cur.toList.take (n * sz),by simp [Ctx.addSl,hn],by rw [hv0];rfl,fun m hm=>?_,?_,by omega,hrow,hus⟩
   ·
    simp only [Ctx.addSl];rw [if_neg (by omega)];exact (s.dom _ (Nat.le_refl _)).2 m
   ·
    rw [hv0,hn];refine ⟨?_,.inr ⟨w.heap.size,cap,cur,rfl,Nat.zero_le _,heap_alloc_new w _,hcap,hcm,hsize,rfl⟩⟩;rw [List.length_take,Array.length_toList,hsize];exact Nat.min_eq_left (Nat.mul_le_mul_right _ hcap)
 ·
  rcases qam hi with h1 | ⟨rfl,rfl⟩<;>rcases qam hj with h2 | ⟨rfl,rfl⟩
  ·
   rw [(s.obj i o h1).blk hle] at hb;rw [(s.obj j o' h2).blk hle] at hb';exact s.apart i j o o' b h1 h2 hb hb'
  ·
   rw [hnew] at hb';rw [(s.obj i o h1).blk hle] at hb;cases hb';have:=(s.obj i o h1).lt hb;omega
  ·
   rw [hnew] at hb;rw [(s.obj j o' h2).blk hle] at hb';cases hb;have:=(s.obj j o' h2).lt hb';omega
  · rfl
 ·
  have hD':c.D b j=some v:=hD;rcases qam hi with h1 | ⟨rfl,rfl⟩
  ·
   rw [(s.obj i o h1).blk hle] at hb;exact s.sep i o b j v h1 hb hD'
  ·
   rw [hnew] at hb;cases hb;rw [s.noD (Nat.le_refl _)] at hD';cases hD'
 · rw [hold b (Nat.lt_of_lt_of_le hb k.size)];exact k.frame b hb hno
 ·
  rcases qam hi with h1 | ⟨rfl,rfl⟩
  ·
   rw [(s.obj i o h1).blk hle] at hb;exact k.newobj i o b h1 hb
  ·
   rw [hnew] at hb;cases hb;exact .inr k.size
def zCell:Value→AV
 | .slice none 0 0=>.slice []
 | v=>.val v
def zOk (v:Value):Bool:=match v with
 | .slice none 0 0=>true
 | v=>v.oneCell'&&strOk v
theorem zRel {D:Nat→Nat→Option Value} {v:Value} (h:zOk v=true):DRel D (zCell v) v:=by
 unfold zOk at h;unfold zCell;split
 · exact .nil
 ·
  rename_i hne;split at h
  · exact (hne rfl).elim
  ·
   simp only [Bool.and_eq_true] at h;exact .val v h.1 h.2
theorem wp_make {c:Ctx} {e:Env} {a:Act} {w:World} (s:Sim E.N c e a w) (k:E.ok c e.h w) {ops:Array Oper} {rest:List Oper} {o1:Oper} {Q:Exit→Act→World→Prop} {T el:TypeId} {x:Operand} {d1 n:Nat} {i:TypeInfo} {z:Value}
  (g1:o1.guard=none) (hd1:o1.dst=some d1) (hlt1:d1<E.N) (hop1:o1.op=.makeSlice T x x)
  (ht:P.underlying T=some (.slice el)) (hi:P.info? el=some i) (hz:i.zero=some z) (hzs:z.cells.size=i.size) (hpos:0<i.size) (hbytes:i.bytes≤2048) (hzok:∀ v,v∈z.cells.toList→zOk v=true)
  (hx:qax e true [x]) (hxv:e.getS x=.val (.int .i64 n)) (hn:n≤68719476736)
  (hnext:∀ c' a' w',Sim E.N c' (({ e with h:=e.h++[.uarr el i.size (List.replicate n (z.cells.toList.map zCell))] }:Env).put o1.dst (.own e.h.length n)) a' w'→E.ok c' (e.h++[.uarr el i.size (List.replicate n (z.cells.toList.map zCell))]) w'→wpList P ops Q rest a' w') :
  wpList P ops Q (o1::rest) a w:=by
 have hrx:=qbm s hx x (by simp);rw [hxv] at hrx;have hvx:a.eval x=.int .i64 n:=hrx.val_inv;have hbb:i.bytes * n≤2048 * 68719476736:=Nat.mul_le_mul hbytes hn;have hrun:=run_make (P:=P) w T el i z ht hi hz .i64 .i64 (n:Int) (n:Int) (by omega) (Int.le_refl _) (by
  have:(i.bytes:Int) * (n:Int)=((i.bytes * n:Nat):Int):=by simp
  omega) (by omega)
 simp only [Int.toNat_natCast] at hrun;have hget:∀ m,m<n * i.size→(madeCells z.cells (n * i.size))[m]?=z.cells[m % i.size]?:=fun m hm=>by
  unfold madeCells;rw [Array.getElem?_map];simp only [Array.getElem?_range,hm,if_true,Option.map_some,hzs];have:m % i.size<z.cells.size:=by rw [hzs];exact Nat.mod_lt _ hpos
  rw [Array.getElem?_eq_getElem this,getElem!_pos z.cells (m % i.size) this]
 have hsz:(madeCells z.cells (n * i.size)).size=n * i.size:=by simp [madeCells]
 have hU:=uarr_new (E:=E) (n:=n) (cap:=n) (sz:=i.size) (cur:=madeCells z.cells (n * i.size)) (rows:=List.replicate n (z.cells.toList.map zCell)) s.hs k el (by simp) (Nat.le_refl _) (by unfold maxLen;omega) hn (by
   intro r hr;rw [List.eq_of_mem_replicate hr];simp [hzs]) hsz (by
   intro i' j r x' hr hx';have hin:i'<n:=by
    have:=(List.getElem?_eq_some_iff.1 hr).1;simpa using this
   rw [List.getElem?_replicate,if_pos hin] at hr;cases hr;rw [List.getElem?_map] at hx';obtain ⟨u,hu,rfl⟩:=Option.map_eq_some_iff.1 hx';have hj:j<i.size:=by
    have:=(List.getElem?_eq_some_iff.1 hu).1;simpa [hzs] using this
   have hlt:i' * i.size+j<n * i.size:=by
    have:(i'+1) * i.size≤n * i.size:=Nat.mul_le_mul_right _ hin;rw [Nat.succ_mul] at this;omega
   refine ⟨u,?_,zRel (hzok u (List.mem_of_getElem? hu))⟩;rw [List.getElem?_take,if_pos hlt,Array.getElem?_toList,hget _ hlt];have:(i' * i.size+j) % i.size=j:=by
    rw [Nat.mul_comm,Nat.mul_add_mod];exact Nat.mod_eq_of_lt hj
   rw [this,← Array.getElem?_toList];exact hu)
 obtain ⟨hle,s1,k1⟩:=hU;refine wpList_of (G:=true) (by simp [Region.wanted,g1]) (fun _=>?_) (fun h=>by cases h);refine qb4 (w':=w.alloc (.cells (madeCells z.cells (n * i.size)) el)) (v:=.slice (some ⟨w.heap.size,0,none⟩) n n) (by simp only [execOp,hop1,hvx,Sem.run_bind,hrun,Result.andThen_ok,Sem.run_pure]) ?_;refine hnext _ _ _ ?_ k1;exact s.put hle s1 (fun j hj=>by rw [hd1] at hj;cases hj;exact hlt1) (.own _ _ _ (by simp [Ctx.addSl]) rfl)
def nilz:AV→AV
 | .nils=>.slice []
 | x=>x
theorem zCell_lift {v:Value} (h:liftC v≠.top):zCell v=nilz (liftC v)∧(v.oneCell'=true→zOk v=true):=by
 unfold liftC at h ⊢;split at h
 · exact ⟨rfl,fun _=>rfl⟩
 ·
  split at h
  ·
   rename_i hs;refine ⟨?_,fun _=>?_⟩
   · rw [if_pos hs];rfl
   · simp [zOk,Value.oneCell',strOk,hs]
  · exact (h rfl).elim
 ·
  rename_i h1 h2;refine ⟨?_,fun ho=>?_⟩
  ·
   unfold zCell;split
   · exact (h1 rfl).elim
   · rfl
  ·
   unfold zOk;split
   · rfl
   ·
    rw [ho];unfold strOk;split
    · exact (h2 _ rfl).elim
    · rfl
theorem wp_makeT {c:Ctx} {e:Env} {a:Act} {w:World} (s:Sim E.N c e a w) (k:E.ok c e.h w) {ops:Array Oper} {rest:List Oper} {o1:Oper} {Q:Exit→Act→World→Prop} {T el:TypeId} {x:Operand} {d1 n sz:Nat} {zr:List AV}
  (g1:o1.guard=none) (hd1:o1.dst=some d1) (hlt1:d1<E.N) (hop1:o1.op=.makeSlice T x x)
  (hT:qak P T=.slice el sz) (hel:qak P el≠.other) (hsize:qau P el=sz) (hpos:0<sz) (hbytes:qap P el≤2048) (hzt:∀ x,x∈qa1 P el→x≠.top) (hzr:(qa1 P el).map nilz=zr)
  (hx:qax e true [x]) (hxv:e.getS x=.val (.int .i64 n)) (hn:n≤68719476736)
  (hnext:∀ c' a' w',Sim E.N c' (({ e with h:=e.h++[.uarr el sz (List.replicate n zr)] }:Env).put o1.dst (.own e.h.length n)) a' w'→E.ok c' (e.h++[.uarr el sz (List.replicate n zr)]) w'→wpList P ops Q rest a' w') :
  wpList P ops Q (o1::rest) a w:=by
 obtain ⟨iT,dT,zT,_,hund,_,hkd,_⟩:=qat hT (by simp);obtain ⟨rfl,ie,hie,hies⟩:=qbv hkd;obtain ⟨ie',de,ze,hie',_,hze,hke,hts,htz,hzs,hz1⟩:=qat (P:=P) (t:=el) rfl hel;rw [hie] at hie';cases hie';subst hies;have hb:ie.bytes≤2048:=by
  have:qap P el=ie.bytes:=by
   unfold qap;have hne:=hel;unfold qak at hne;split at hne
   ·
    rename_i x hx;obtain ⟨i2,d2,z2,g1,_,_,rfl,_⟩:=ti_spec hx;rw [hie] at g1;cases g1;simp [hx]
   · exact (hne rfl).elim
  omega
 have hall:∀ v,v∈ze.cells.toList→zCell v=nilz (liftC v)∧zOk v=true:=fun v hv=>by
  have h1:liftC v≠.top:=hzt _ (by rw [htz];exact List.mem_map_of_mem hv);obtain ⟨h2,h3⟩:=zCell_lift h1;exact ⟨h2,h3 (hz1 v hv)⟩
 have hrow:ze.cells.toList.map zCell=zr:=by
  rw [← hzr,htz,List.map_map];exact List.map_congr_left fun v hv=>(hall v hv).1
 refine wp_make s k g1 hd1 hlt1 hop1 hund hie hze hzs hpos hb (fun v hv=>(hall v hv).2) hx hxv hn ?_;rw [hrow];exact hnext
end
end Go.Abs
