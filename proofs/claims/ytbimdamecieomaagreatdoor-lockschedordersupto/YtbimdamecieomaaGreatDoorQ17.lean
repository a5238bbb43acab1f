/- Part 17 of a proof: AbsOe, AbsZl, AbsOd, AbsOf, AbsSh -/
import Derived.Shelf.Spec.SlicesInsert
import Derived.Test.YtbimdamecieomaaGreatDoorQ08
import Derived.Test.YtbimdamecieomaaGreatDoorQ15
import Derived.Test.YtbimdamecieomaaGreatDoorQ16
set_option linter.all false

namespace Go.Abs
open Go.Proofs
section
variable {P:Program} {E:Ent}
theorem uarr_over {c:Ctx} {h:qaa} {w w':World} (hs:HSim c h w) (k:E.ok c h w) {i e sz g cap:Nat} {rows rows':List (List AV)} {us:List Value} (hi:h[i]?=some (.uarr e sz rows)) (hv:c.sl i rows.length=some (.slice (some ⟨g,0,none⟩) rows.length cap))
  (hl:rows'.length=rows.length) (hrow:∀ r,r∈rows'→r.length=sz) (hown:w'.ownsRow 0 e sz (.slice (some ⟨g,0,none⟩) rows.length cap) rows.length us)
  (hdat:∀ (i' j:Nat) (r:List AV) (x:AV),rows'[i']?=some r→r[j]?=some x→∃ u,us[i' * sz+j]?=some u∧DRel c.D x u) (hos:w'.os=w.os) (ht:w'.tape=w.tape) (hou:w'.output=w.output) (hsz:w.heap.size≤w'.heap.size)
  (hoth:∀ b,b≠g→b<w.heap.size→w'.heap[b]?=w.heap[b]?):HSim c (h.set i (.uarr e sz rows')) w'∧E.ok c (h.set i (.uarr e sz rows')) w':=by
 obtain ⟨v0,vs,h1,ho1,hmax,h2,h3,h4,h5⟩:=hs.obj i _ hi;rw [hv] at h1;cases h1;have hbo:qaf c i (.uarr e sz rows)=some g:=by simp [qaf,hv,Value.ownBlock]
 have hbo':qaf c i (.uarr e sz rows')=some g:=by simp [qaf,hl,hv,Value.ownBlock]
 have holt:∀ j ob b',(h.set i (.uarr e sz rows'))[j]?=some ob→qaf c j ob=some b'→∃ o0,h[j]?=some o0∧qaf c j o0=some b':=fun j ob b' hj hb'=>by
  rcases qad hj with ⟨rfl,rfl⟩ | ⟨hne,h1⟩
  · exact ⟨_,hi,by rw [hbo,← hbo',hb']⟩
  · exact ⟨ob,h1,hb'⟩
 refine ⟨⟨fun b j v hD=>?_,fun j hj=>hs.dom j (by simpa using hj),fun j ob hj=>?_,fun j j' ob o2 b' hj hj' hb1 hb2=>?_,fun j ob b' m v hj hb1 hD=>?_⟩,⟨k.edom,k.ext,k.blk0,by simpa using k.len,hos.trans k.os,ht.trans k.tape,hou.trans k.output,Nat.le_trans k.size hsz,fun b hb hno=>?_,fun j ob b' hj hb1=>?_,k.dold⟩⟩
 ·
  have hb:b≠g:=fun e2=>by
   subst e2;exact hs.sep i _ b j v hi hbo hD
  have hcell:=hs.data b j v hD;rw [World.cell?_of_block (w:=w) (hoth b hb (World.block_lt_of_cell? w ⟨b,j,none⟩ hcell))];exact hcell
 ·
  rcases qad hj with ⟨rfl,rfl⟩ | ⟨hne,h6⟩
  · exact ⟨_,us,by rw [hl];exact hv,rfl,fun m hm=>hmax m (by rw [← hl];exact hm),by rw [hl];exact hown,by rw [hl];exact h3,hrow,hdat⟩
  ·
   refine (hs.obj j ob h6).keep (.refl c) (fun _=>rfl) fun b' hb'=>hoth b' (fun e2=>hne ?_) ((hs.obj j ob h6).lt hb');subst e2;exact hs.apart j i ob _ b' h6 hi hb' hbo
 ·
  obtain ⟨o3,g1,g1'⟩:=holt j ob b' hj hb1;obtain ⟨o4,g2,g2'⟩:=holt j' o2 b' hj' hb2;exact hs.apart j j' o3 o4 b' g1 g2 g1' g2'
 ·
  rcases qad hj with ⟨rfl,rfl⟩ | ⟨hne,h6⟩
  ·
   rw [hbo'] at hb1;have h9:(AObj.uarr e sz rows).shares m:=hs.sep j (.uarr e sz rows) b' m v hi (by rw [hbo,hb1]) hD;exact h9
  · exact hs.sep j ob b' m v h6 hb1 hD
 ·
  have hne:b≠g:=fun e2=>by
   subst e2;rcases k.newobj i _ b hi hbo with ⟨o0,h6,h7⟩ | h6
   · exact hno i o0 h6 h7
   · omega
  rw [hoth b hne (Nat.lt_of_lt_of_le hb k.size)];exact k.frame b hb hno
 ·
  obtain ⟨o3,g1,g1'⟩:=holt j ob b' hj hb1;exact k.newobj j o3 b' g1 g1'
end
end Go.Abs

namespace Go.Abs
section
variable {P:Program} {E:Ent}
theorem uarr_all {c:Ctx} {h:qaa} {w:World} (hs:HSim c h w) (k:E.ok c h w) {i e sz b cap:Nat} {rows rows':List (List AV)} {us:List Value} {cur:Array Value} (hi:h[i]?=some (.uarr e sz rows)) (hv:c.sl i rows.length=some (.slice (some ⟨b,0,none⟩) rows.length cap))
  (hl:rows'.length=rows.length) (hrow:∀ r,r∈rows'→r.length=sz) (hul:us.length=rows.length * sz) (hg:w.heap[b]?=some (.cells cur e (0,0))) (hnc:rows.length≤cap) (hcm:cap≤maxLen) (hcs:cur.size=cap * sz)
  (hmax:∀ m,rows.length<m→c.sl i m=none) (hlen:rows.length≤68719476736) (hdat:∀ (i' j:Nat) (r:List AV) (x:AV),rows'[i']?=some r→r[j]?=some x→∃ u,us[i' * sz+j]?=some u∧DRel c.D x u) :
  HSim c (h.set i (.uarr e sz rows')) (w.setRow b (us++cur.toList.drop us.length).toArray)∧E.ok c (h.set i (.uarr e sz rows')) (w.setRow b (us++cur.toList.drop us.length).toArray):=by
 have hcs':rows.length * sz≤cur.size:=by rw [hcs];exact Nat.mul_le_mul_right _ hnc
 have hoth:∀ g,g≠b→(w.setRow b (us++cur.toList.drop us.length).toArray).heap[g]?=w.heap[g]?:=fun g hg=>setRow_other w b g _ hg;have hsz':(w.setRow b (us++cur.toList.drop us.length).toArray).heap.size=w.heap.size:=by simp [World.setRow]
 have hbo:qaf c i (.uarr e sz rows)=some b:=by simp [qaf,hv,Value.ownBlock]
 have hbo':qaf c i (.uarr e sz rows')=some b:=by simp [qaf,hl,hv,Value.ownBlock]
 have holt:∀ j ob b',(h.set i (.uarr e sz rows'))[j]?=some ob→qaf c j ob=some b'→∃ o0,h[j]?=some o0∧qaf c j o0=some b':=fun j ob b' hj hb'=>by
  rcases qad hj with ⟨rfl,rfl⟩ | ⟨hne,h1⟩
  · exact ⟨_,hi,by rw [hbo,← hbo',hb']⟩
  · exact ⟨ob,h1,hb'⟩
 have hnew:ObjR c (w.setRow b (us++cur.toList.drop us.length).toArray) i (.uarr e sz rows'):=by
  refine ⟨.slice (some ⟨b,0,none⟩) rows.length cap,us,by rw [hl];exact hv,rfl,fun m hm=>hmax m (by rw [← hl];exact hm),⟨by rw [hl];exact hul,.inr ⟨b,cap,_,by rw [hl],Nat.zero_le _,setRow_heap w b cur _ e (0,0) hg,by rw [hl];exact hnc,hcm,?_,?_⟩⟩,by rw [hl];exact hlen,hrow,hdat⟩
  · simp [hul];omega
  · rw [hl,← hul];simp
 refine ⟨⟨fun g j v hD=>?_,fun j hj=>hs.dom j (by simpa using hj),fun j ob hj=>?_,fun j j' ob o2 b' hj hj' hb1 hb2=>?_,fun j ob b' m v hj hb1 hD=>?_⟩,⟨k.edom,k.ext,k.blk0,by simpa using k.len,k.os,k.tape,k.output,by rw [hsz'];exact k.size,fun g hg' hno=>?_,fun j ob b' hj hb1=>?_,k.dold⟩⟩
 ·
  have hg':g≠b:=fun e2=>by
   subst e2;exact hs.sep i _ g j v hi hbo hD
  rw [World.cell?_of_block (w:=w) (hoth g hg')];exact hs.data g j v hD
 ·
  rcases qad hj with ⟨rfl,rfl⟩ | ⟨hne,h6⟩
  · exact hnew
  ·
   refine (hs.obj j ob h6).keep (.refl c) (fun _=>rfl) fun b' hb'=>hoth b' fun e2=>hne ?_;subst e2;exact hs.apart j i ob _ b' h6 hi hb' hbo
 ·
  obtain ⟨o3,g1,g1'⟩:=holt j ob b' hj hb1;obtain ⟨o4,g2,g2'⟩:=holt j' o2 b' hj' hb2;exact hs.apart j j' o3 o4 b' g1 g2 g1' g2'
 ·
  rcases qad hj with ⟨rfl,rfl⟩ | ⟨hne,h6⟩
  ·
   have hb1':qaf c j (.uarr e sz rows')=some b':=hb1;rw [hbo'] at hb1';have h9:(AObj.uarr e sz rows).shares m:=hs.sep j (.uarr e sz rows) b' m v hi (by rw [hbo,hb1']) hD;exact h9
  · exact hs.sep j ob b' m v h6 hb1 hD
 ·
  have hne:g≠b:=fun e2=>by
   subst e2;rcases k.newobj i _ g hi hbo with ⟨o0,h6,h7⟩ | h6
   · exact hno i o0 h6 h7
   · omega
  rw [hoth g hne];exact k.frame g hg' hno
 ·
  obtain ⟨o3,g1,g1'⟩:=holt j ob b' hj hb1;exact k.newobj j o3 b' g1 g1'
theorem wp_copyA {c:Ctx} {e:Env} {a:Act} {w:World} (s:Sim E.N c e a w) (k:E.ok c e.h w) {ops:Array Oper} {rest:List Oper} {o1:Oper} {Q:Exit→Act→World→Prop} {T T' el:TypeId} {sz i n d1:Nat} {x y:Operand} {rows rows2:List (List AV)}
  (g1:o1.guard=none) (hd1:o1.dst=some d1) (hlt1:d1<E.N) (hop1:o1.op=.call { callee:=.builtin .copy,args:=#[x,y],argTypes:=#[T,T'] })
  (hT:qae P T=.slice el sz) (hel:qae P el≠.other) (hsize:qao P el=sz) (hpos:0<sz) (hall:qas e true [x,y]) (hx:e.getS x=.own i n) (hy:e.getS y=.slice rows2) (hi:e.h[i]?=some (.uarr el sz rows)) (hn:rows.length=n) (hn2:rows2.length=n) (hrow:∀ r,r∈rows2→r.length=sz)
  (hnext:∀ a' w',Sim E.N c (({ e with h:=e.h.set i (.uarr el sz rows2) }:Env).put o1.dst (.val (.int .i64 n))) a' w'→E.ok c (e.h.set i (.uarr el sz rows2)) w'→wpList P ops Q rest a' w') :
  wpList P ops Q (o1::rest) a w:=by
 obtain ⟨iT,dT,zT,_,hund,_,hkd,_⟩:=qap hT (by simp);obtain ⟨rfl,ie,hie,hies⟩:=qa7 hkd;have hrx:=qa2 s hall x (by simp);have hry:=qa2 s hall y (by simp);rw [hx] at hrx;rw [hy] at hry;have hd:=Rel.slice_inv hry;obtain ⟨ad,cap2,hye,hsrc⟩:=data_row s.hs hrow hpos hd;obtain ⟨v,vs,h1,ho1,hmax,h2,h3,h4,h5⟩:=s.hs.obj i _ hi;have hxv:a.eval x=v:=by
  cases hrx with
  | data h=>cases h
  | own i n v' h' ho =>
   rw [hn] at h1;rw [h1] at h';cases h';rfl
 have hlu:(Builtin.lenOf (a.eval y)).run P w=.ok rows2.length w:=by rw [hye];simp [Builtin.lenOf]
 by_cases h0:n=0
 ·
  have hr2:rows2=[]:=List.eq_nil_of_length_eq_zero (by omega);have hr1:rows=[]:=List.eq_nil_of_length_eq_zero (by omega);subst hr2;subst hr1;subst h0;have hrun:∀ ty,(Builtin.copy_ #[T,T'] ty #[a.eval x,a.eval y]).run P w=.ok (goInt 0) w:=fun ty=>by
   rw [hxv,hye];rcases h2.2 with ⟨rfl,_⟩ | ⟨g,cp,cur,rfl,_,hg,hnc,hcm,hcs,htake⟩
   · cases ad<;>simp [Builtin.copy_,run_underlying hund,Builtin.lenOf,Builtin.firstCells,sizeOf,typeInfo,hie,loadCells,loadCellsFrom]
   · cases ad<;>simp [Builtin.copy_,run_underlying hund,Builtin.lenOf,Builtin.firstCells,sizeOf,typeInfo,hie,loadCells,loadCellsFrom,storeCells]
  refine Proofs.wpList_copy_runI w g1 x y T T' hop1 _ _ rfl rfl (hrun _) ?_;have hset:e.h.set i (.uarr el sz [])=e.h:=qcr hi;rw [hset] at hnext;refine hnext _ _ ?_ k;exact s.put (.refl c) s.hs (fun j hj=>by rw [hd1] at hj;cases hj;exact hlt1) (.val _)
 ·
  have hne:rows2≠[]:=fun e2=>by rw [e2] at hn2;simp at hn2;omega
  rcases hsrc with e2 | ⟨b2,off2,rfl,us,hul,hcell,hone,hdat⟩
  · exact (hne e2).elim
  rcases h2.2 with ⟨rfl,e3⟩ | ⟨g,cp,cur,rfl,_,hg,hnc,hcm,hcs,htake⟩
  · omega
  have hcs':rows.length * sz≤cur.size:=by rw [hcs];exact Nat.mul_le_mul_right _ hnc
  have hul2:us.length=rows.length * sz:=by rw [hul,hn2,hn]
  have hst:=run_storeCells_at P g 0 el us 0 cur w hg (by omega) hone;simp only [Nat.add_zero,Nat.zero_add,List.take_zero,List.nil_append] at hst;have hfc:=run_firstCells_some (P:=P) w ie.size n ⟨b2,off2,none⟩ rows2.length cap2 us (by rw [hies,hul,hn2]) (fun j u hu=>by rw [qca];exact hcell j u hu);rw [hn2] at hfc;have hrun:∀ ty,(Builtin.copy_ #[T,T'] ty #[a.eval x,a.eval y]).run P w=.ok (goInt n) (w.setRow g (us++cur.toList.drop us.length).toArray):=fun ty=>by
   rw [hxv,hye];simp [Builtin.copy_,run_underlying hund,Builtin.lenOf,sizeOf,typeInfo,hie,hn2,hn,hfc,hst]
  refine Proofs.wpList_copy_runI w g1 x y T T' hop1 _ _ rfl rfl (hrun _) ?_;obtain ⟨s1,k1⟩:=uarr_all (E:=E) s.hs k (rows':=rows2) (us:=us) hi h1 (by omega) hrow hul2 hg hnc hcm hcs hmax h3 hdat;refine hnext _ _ ?_ k1;exact s.put (.refl c) s1 (fun j hj=>by rw [hd1] at hj;cases hj;exact hlt1) (.val _)
end
end Go.Abs

namespace Go.Abs
open Go.Proofs
section
variable {P:Program} {E:Ent}
theorem wp_makeC0 {c:Ctx} {e:Env} {a:Act} {w:World} (s:Sim E.N c e a w) (k:E.ok c e.h w) {ops:Array Oper} {rest:List Oper} {o1:Oper} {Q:Exit→Act→World→Prop} {T el:TypeId} {x y:Operand} {d1 n m:Nat} {i:TypeInfo} {z:Value}
  (g1:o1.guard=none) (hd1:o1.dst=some d1) (hlt1:d1<E.N) (hop1:o1.op=.makeSlice T x y)
  (ht:P.underlying T=some (.slice el)) (hi:P.info? el=some i) (hz:i.zero=some z) (hzs:z.cells.size=i.size) (hpos:0<i.size) (hbytes:i.bytes≤2048) (hzok:∀ v,v∈z.cells.toList→zOk v=true)
  (hx:qas e true [x,y]) (hxv:e.getS x=.val (.int .i64 n)) (hyv:e.getS y=.val (.int .i64 m)) (hnm:n≤m) (hn:n≤68719476736) (hm:m≤68719476737)
  (hnext:∀ c' a' w',Sim E.N c' (({ e with h:=e.h++[.uarr el i.size (List.replicate n (z.cells.toList.map zCell))] }:Env).put o1.dst (.own e.h.length n)) a' w'→E.ok c' (e.h++[.uarr el i.size (List.replicate n (z.cells.toList.map zCell))]) w'→wpList P ops Q rest a' w') :
  wpList P ops Q (o1::rest) a w:=by
 have hrx:=qa2 s hx x (by simp);rw [hxv] at hrx;have hvx:a.eval x=.int .i64 n:=hrx.val_inv;have hry:=qa2 s hx y (by simp);rw [hyv] at hry;have hvy:a.eval y=.int .i64 m:=hry.val_inv;have hbb:i.bytes * m≤2048 * 68719476737:=Nat.mul_le_mul hbytes hm;have hrun:=run_make (P:=P) w T el i z ht hi hz .i64 .i64 (n:Int) (m:Int) (by omega) (by omega) (by
  have:(i.bytes:Int) * (m:Int)=((i.bytes * m:Nat):Int):=by simp
  omega) (by omega)
 simp only [Int.toNat_natCast] at hrun;have hget:∀ q,q<m * i.size→(madeCells z.cells (m * i.size))[q]?=z.cells[q % i.size]?:=fun m hm=>by
  unfold madeCells;rw [Array.getElem?_map];simp only [Array.getElem?_range,hm,if_true,Option.map_some,hzs];have:m % i.size<z.cells.size:=by rw [hzs];exact Nat.mod_lt _ hpos
  rw [Array.getElem?_eq_getElem this,getElem!_pos z.cells (m % i.size) this]
 have hnmi:n * i.size≤m * i.size:=Nat.mul_le_mul_right _ hnm;have hsz:(madeCells z.cells (m * i.size)).size=m * i.size:=by simp [madeCells]
 have hU:=uarr_new (E:=E) (n:=n) (cap:=m) (sz:=i.size) (cur:=madeCells z.cells (m * i.size)) (rows:=List.replicate n (z.cells.toList.map zCell)) s.hs k el (by simp) hnm (by unfold maxLen;omega) hn (by
   intro r hr;rw [List.eq_of_mem_replicate hr];simp [hzs]) hsz (by
   intro i' j r x' hr hx';have hin:i'<n:=by
    have:=(List.getElem?_eq_some_iff.1 hr).1;simpa using this
   rw [List.getElem?_replicate,if_pos hin] at hr;cases hr;rw [List.getElem?_map] at hx';obtain ⟨u,hu,rfl⟩:=Option.map_eq_some_iff.1 hx';have hj:j<i.size:=by
    have:=(List.getElem?_eq_some_iff.1 hu).1;simpa [hzs] using this
   have hlt:i' * i.size+j<n * i.size:=by
    have:(i'+1) * i.size≤n * i.size:=Nat.mul_le_mul_right _ hin;rw [Nat.succ_mul] at this;omega
   refine ⟨u,?_,zRel (hzok u (List.mem_of_getElem? hu))⟩;rw [List.getElem?_take,if_pos hlt,Array.getElem?_toList,hget _ (by omega)];have:(i' * i.size+j) % i.size=j:=by
    rw [Nat.mul_comm,Nat.mul_add_mod];exact Nat.mod_eq_of_lt hj
   rw [this,← Array.getElem?_toList];exact hu)
 obtain ⟨hle,s1,k1⟩:=hU;refine qbx (G:=true) (by simp [Region.wanted,g1]) (fun _=>?_) (fun h=>by cases h);refine qbn (w':=w.alloc (.cells (madeCells z.cells (m * i.size)) el)) (v:=.slice (some ⟨w.heap.size,0,none⟩) n m) (by simp only [execOp,hop1,hvx,hvy,Sem.run_bind,hrun,Result.andThen_ok,Sem.run_pure]) ?_;refine hnext _ _ _ ?_ k1;exact s.put hle s1 (fun j hj=>by rw [hd1] at hj;cases hj;exact hlt1) (.own _ _ _ (by simp [Ctx.addSl]) rfl)
theorem wp_makeC {c:Ctx} {e:Env} {a:Act} {w:World} (s:Sim E.N c e a w) (k:E.ok c e.h w) {ops:Array Oper} {rest:List Oper} {o1:Oper} {Q:Exit→Act→World→Prop} {T el:TypeId} {x y:Operand} {d1 n m sz:Nat} {zr:List AV}
  (g1:o1.guard=none) (hd1:o1.dst=some d1) (hlt1:d1<E.N) (hop1:o1.op=.makeSlice T x y)
  (hT:qae P T=.slice el sz) (hel:qae P el≠.other) (hsize:qao P el=sz) (hpos:0<sz) (hbytes:qal P el≤2048) (hzt:∀ x,x∈qay P el→x≠.top) (hzr:(qay P el).map nilz=zr)
  (hx:qas e true [x,y]) (hxv:e.getS x=.val (.int .i64 n)) (hyv:e.getS y=.val (.int .i64 m)) (hnm:n≤m) (hn:n≤68719476736) (hm:m≤68719476737)
  (hnext:∀ c' a' w',Sim E.N c' (({ e with h:=e.h++[.uarr el sz (List.replicate n zr)] }:Env).put o1.dst (.own e.h.length n)) a' w'→E.ok c' (e.h++[.uarr el sz (List.replicate n zr)]) w'→wpList P ops Q rest a' w') :
  wpList P ops Q (o1::rest) a w:=by
 obtain ⟨iT,dT,zT,_,hund,_,hkd,_⟩:=qap hT (by simp);obtain ⟨rfl,ie,hie,hies⟩:=qa7 hkd;obtain ⟨ie',de,ze,hie',_,hze,hke,hts,htz,hzs,hz1⟩:=qap (P:=P) (t:=el) rfl hel;rw [hie] at hie';cases hie';subst hies;have hb:ie.bytes≤2048:=by
  have:qal P el=ie.bytes:=by
   unfold qal;have hne:=hel;unfold qae at hne;split at hne
   ·
    rename_i x hx;obtain ⟨i2,d2,z2,g1,_,_,rfl,_⟩:=ti_spec hx;rw [hie] at g1;cases g1;simp [hx]
   · exact (hne rfl).elim
  omega
 have hall:∀ v,v∈ze.cells.toList→zCell v=nilz (liftC v)∧zOk v=true:=fun v hv=>by
  have h1:liftC v≠.top:=hzt _ (by rw [htz];exact List.mem_map_of_mem hv);obtain ⟨h2,h3⟩:=zCell_lift h1;exact ⟨h2,h3 (hz1 v hv)⟩
 have hrow:ze.cells.toList.map zCell=zr:=by
  rw [← hzr,htz,List.map_map];exact List.map_congr_left fun v hv=>(hall v hv).1
 refine wp_makeC0 s k g1 hd1 hlt1 hop1 hund hie hze hzs hpos hb (fun v hv=>(hall v hv).2) hx hxv hyv hnm hn hm ?_;rw [hrow];exact hnext
theorem wp_clear {c:Ctx} {e:Env} {a:Act} {w:World} (s:Sim E.N c e a w) (k:E.ok c e.h w) {ops:Array Oper} {rest:List Oper} {o1 o2:Oper} {Q:Exit→Act→World→Prop} {T el:TypeId} {x y:Operand} {d1 n j i sz:Nat} {zr:List AV} {rows:List (List AV)}
  (g1:o1.guard=none) (g2:o2.guard=none) (hd1:o1.dst=some d1) (hlt1:d1<E.N) (hd2:o2.dst=none) (hop1:o1.op=.slice T x (some y) none none) (hop2:o2.op=.call { callee:=.builtin .clear,args:=#[.tmp d1],argTypes:=#[T] })
  (hT:qae P T=.slice el sz) (hel:qae P el≠.other) (hsize:qao P el=sz) (hpos:0<sz) (hzt:∀ x,x∈qay P el→x≠.top) (hzr:(qay P el).map nilz=zr)
  (hx:qas e true [x,y]) (hxv:e.getS x=.own i n) (hyv:e.getS y=.val (.int .i64 j)) (hi:e.h[i]?=some (.uarr el sz rows)) (hn:rows.length=n) (hj:j≤n)
  (hnext:∀ a' w',Sim E.N c (({ e with h:=e.h.set i (.uarr el sz (rows.take j++List.replicate (n - j) zr)) }:Env).put o1.dst .top) a' w'→E.ok c (e.h.set i (.uarr el sz (rows.take j++List.replicate (n - j) zr))) w'→wpList P ops Q rest a' w') :
  wpList P ops Q (o1::o2::rest) a w:=by
 obtain ⟨iT,dT,zT,_,hund,_,hkd,_⟩:=qap hT (by simp);obtain ⟨rfl,ie,hie,hies⟩:=qa7 hkd;obtain ⟨ie',de,ze,hie',_,hze,hke,hts,htz,hzs,hz1⟩:=qap (P:=P) (t:=el) rfl hel;rw [hie] at hie';cases hie';subst hies;have hall:∀ v,v∈ze.cells.toList→zCell v=nilz (liftC v)∧zOk v=true:=fun v hv=>by
  have h1:liftC v≠.top:=hzt _ (by rw [htz];exact List.mem_map_of_mem hv);obtain ⟨h2,h3⟩:=zCell_lift h1;exact ⟨h2,h3 (hz1 v hv)⟩
 have hrow:ze.cells.toList.map zCell=zr:=by
  rw [← hzr,htz,List.map_map];exact List.map_congr_left fun v hv=>(hall v hv).1
 have hrx:=qa2 s hx x (by simp);rw [hxv] at hrx;have hry:=qa2 s hx y (by simp);rw [hyv] at hry;have hvy:a.eval y=.int .i64 j:=hry.val_inv;obtain ⟨hv,us,hown,hrl,hcells⟩:=own_inv s.hs hi hn hrx;have hzv:(zeroValue el).run P w=.ok ze w:=by simp [zeroValue,run_typeInfo _ hie,hze]
 have hsz':d1<a.tmps.size:=by rw [s.size];exact hlt1
 have fin:∀ (v1:Value) (w':World),(Instr.sliceAt T (a.eval x) (some (.int .i64 j)) none none).run P w=.ok v1 w→(Builtin.clear_ #[T] o2.type #[v1]).run P w=.ok (.tuple #[]) w' →
   HSim c (e.h.set i (.uarr el ie.size (rows.take j++List.replicate (n - j) zr))) w'→E.ok c (e.h.set i (.uarr el ie.size (rows.take j++List.replicate (n - j) zr))) w'→wpList P ops Q (o1::o2::rest) a w:=by
  intro v1 w' h1 h2 s1 k1;refine qbx (G:=true) (by simp [Region.wanted,g1]) (fun _=>?_) (fun h=>by cases h);refine qbn (w':=w) (v:=v1) (by simp only [execOp,hop1,hvy,Option.map_some,Option.map_none,Sem.run_bind,h1,Result.andThen_ok,Sem.run_pure]) ?_;have hevd:(a.put o1.dst v1).eval (.tmp d1)=v1:=by rw [hd1];simp [Act.put,Act.eval,hsz']
  refine qbx (G:=true) (by simp [Region.wanted,g2]) (fun _=>?_) (fun h=>by cases h);refine qbn (w':=w') (v:=.tuple #[]) (by simp only [execOp,hop2,resolve,invoke,builtin,Sem.run_bind,Sem.run_pure,Result.andThen_ok,List.map_toArray,List.map_cons,List.map_nil,hevd,h2]) ?_;rw [hd2];exact hnext _ w' (s.put (.refl c) s1 (fun q hq=>by rw [hd1] at hq;cases hq;exact hlt1) (.top _)) k1
 have hsl:∀ (b:Option Addr) (cap:Nat),n≤cap→(Instr.sliceAt T (.slice b n cap) (some (.int .i64 j)) none none).run P w=.ok (.slice (if cap=j then b else b.map (·.add (j * ie.size))) (n - j) (cap - j)) w:=fun b cap hc=>by
  have hnj:¬ (n<j):=by omega
  simp [Instr.sliceAt,Instr.slice,Instr.sliceBounds,Instr.sliceBound,asIntOf,qaw hund,hj,hnj,qbb hie]
 rcases hown.2 with ⟨hnil,hn0⟩ | ⟨g,cap,cur,hval,hg0,hh,hnc,hcm,hcs,htake⟩
 ·
  subst hn0;have hj0:j=0:=by omega
  subst hj0;have hr0:rows=[]:=List.eq_nil_of_length_eq_zero hn;subst hr0;refine fin _ w (by rw [hnil];exact hsl none 0 (Nat.le_refl _)) (by simp [Builtin.clear_,qaw hund]) ?_ ?_
  · simp only [List.take_nil,Nat.sub_self,List.replicate_zero,List.append_nil];rw [qcr hi];exact s.hs
  · simp only [List.take_nil,Nat.sub_self,List.replicate_zero,List.append_nil];rw [qcr hi];exact k
 ·
  by_cases hjn:j=n
  ·
   subst hjn;refine fin _ w (by rw [hval];exact hsl _ cap hnc) (by
    rw [Nat.sub_self];by_cases hq:cap=j
    · simp [hq,Builtin.clear_,qaw hund]
    · simp [hq,Builtin.clear_,qaw hund]) ?_ ?_
   · simp only [Nat.sub_self,List.replicate_zero,List.append_nil];rw [List.take_of_length_le (by omega),qcr hi];exact s.hs
   · simp only [Nat.sub_self,List.replicate_zero,List.append_nil];rw [List.take_of_length_le (by omega),qcr hi];exact k
  ·
   have hlt:j<n:=by omega
   have hcj:cap≠j:=by omega
   have hmul:j * ie.size+(n - j) * ie.size=n * ie.size:=by rw [← Nat.add_mul];congr 1;omega
   have hcap:n * ie.size≤cap * ie.size:=Nat.mul_le_mul_right _ hnc;have hzc:(Builtin.zeroCells ze.cells (n - j)).size=(n - j) * ie.size:=by simp [Builtin.zeroCells,hzs]
   have hget:∀ q,q<(n - j) * ie.size→(Builtin.zeroCells ze.cells (n - j))[q]?=ze.cells[q % ie.size]?:=fun q hq=>by
    unfold Builtin.zeroCells;rw [Array.getElem?_map];simp only [Array.getElem?_range,hzs,hq,if_true,Option.map_some];have:q % ie.size<ze.cells.size:=by rw [hzs];exact Nat.mod_lt _ hpos
    rw [Array.getElem?_eq_getElem this,getElem!_pos ze.cells (q % ie.size) this]
   have hone:∀ u∈(Builtin.zeroCells ze.cells (n - j)).toList,u.oneCell'=true:=fun u hu=>by
    obtain ⟨q,hq⟩:=List.getElem?_of_mem hu;have hq':q<(n - j) * ie.size:=by rw [← hzc];have:=(List.getElem?_eq_some_iff.1 hq).1;simpa using this
    rw [Array.getElem?_toList,hget q hq'] at hq;exact hz1 u (List.mem_of_getElem? (by rw [Array.getElem?_toList];exact hq))
   obtain ⟨Z,hZ⟩:∃ Z,Builtin.zeroCells ze.cells (n - j)=Z:=⟨_,rfl⟩
   rw [hZ] at hzc hget hone;have hst:=run_storeCells_at P g (j * ie.size) el Z.toList 0 cur w hh (by simp [hzc,hcs];omega) hone;simp only [Nat.add_zero] at hst;have hadd:(⟨g,0,none⟩:Addr).add (j * ie.size)=⟨g,j * ie.size,none⟩:=by rw [qca,Nat.zero_add]
   have hzl:zr.length=ie.size:=by rw [← hrow];simp [hzs]
   have hjm:min (j * ie.size) (cap * ie.size)=j * ie.size:=by omega
   have hjm2:min (j * ie.size) (n * ie.size)=j * ie.size:=by omega
   obtain ⟨s1,k1⟩:=uarr_over (E:=E) s.hs k (w':=w.setRow g (cur.toList.take (j * ie.size)++Z.toList++cur.toList.drop (j * ie.size+Z.toList.length)).toArray) (rows':=rows.take j++List.replicate (n - j) zr) (us:=us.take (j * ie.size)++Z.toList) hi
    (by rw [hn,← hval];exact hv) (by simp;omega) (fun r hr=>by
     rcases List.mem_append.1 hr with hr | hr
     · exact hrl r (List.mem_of_mem_take hr)
     · rw [List.eq_of_mem_replicate hr];exact hzl)
    ⟨by rw [List.length_append,List.length_take,hown.1,Array.length_toList,hzc,hn,hjm2];omega,.inr ⟨g,cap,_,by rw [hn],Nat.zero_le _,setRow_heap w g cur _ el (0,0) hh,by rw [hn];exact hnc,hcm,by simp only [List.size_toArray,List.length_append,List.length_take,List.length_drop,Array.length_toList,hzc,hcs,hjm];omega,by
     rw [hn];have e1:cur.toList.take (j * ie.size)=us.take (j * ie.size):=by rw [← htake,List.take_take];congr 1;omega
     simp only [e1];rw [List.take_append_of_le_length (by simp only [List.length_append,List.length_take,Array.length_toList,hzc,hown.1,hjm2];omega),List.take_of_length_le (by simp only [List.length_append,List.length_take,Array.length_toList,hzc,hown.1,hjm2];omega)]⟩⟩
    (fun i' q r x hr hx=>by
     by_cases h1:i'<j
     ·
      rw [List.getElem?_append_left (by simp;omega),List.getElem?_take,if_pos h1] at hr;obtain ⟨u,hu,hd⟩:=hcells i' q r x hr hx;have hq:q<ie.size:=by rw [← hrl r (List.mem_of_getElem? hr)];exact (List.getElem?_eq_some_iff.1 hx).1
      have h2:(i'+1) * ie.size≤j * ie.size:=Nat.mul_le_mul_right _ h1;rw [Nat.add_mul,Nat.one_mul] at h2;refine ⟨u,?_,hd⟩;rw [List.getElem?_append_left (by rw [List.length_take,hown.1,hjm2];omega),List.getElem?_take,if_pos (by omega)];exact hu
     ·
      rw [List.getElem?_append_right (by simp;omega)] at hr;have hil:i' - (rows.take j).length<n - j:=by
       have:=(List.getElem?_eq_some_iff.1 hr).1;simpa using this
      rw [List.getElem?_replicate,if_pos hil] at hr;cases hr;have hq:q<ie.size:=by rw [← hzl];exact (List.getElem?_eq_some_iff.1 hx).1
      rw [← hrow,List.getElem?_map] at hx;obtain ⟨u,hu,rfl⟩:=Option.map_eq_some_iff.1 hx;refine ⟨u,?_,zRel (hall u (List.mem_of_getElem? hu)).2⟩;have hm:(rows.take j).length=j:=by simp;omega
      rw [hm] at hil;have h4:(i' - j) * ie.size+j * ie.size=i' * ie.size:=by rw [← Nat.add_mul];congr 1;omega
      have h5:(i' - j+1) * ie.size≤(n - j) * ie.size:=Nat.mul_le_mul_right _ hil;rw [Nat.add_mul,Nat.one_mul] at h5;have h6:(us.take (j * ie.size)).length=j * ie.size:=by rw [List.length_take,hown.1,hjm2]
      have h8:j * ie.size≤i' * ie.size:=Nat.mul_le_mul_right _ (by omega);rw [List.getElem?_append_right (by omega),h6,show i' * ie.size+q - j * ie.size=(i' - j) * ie.size+q by omega,Array.getElem?_toList,hget _ (by omega)];have h7:((i' - j) * ie.size+q) % ie.size=q:=by
       rw [Nat.mul_comm,Nat.mul_add_mod];exact Nat.mod_eq_of_lt hq
      rw [h7,← Array.getElem?_toList];exact hu) rfl rfl rfl (by simp [World.setRow]) (fun b hb _=>setRow_other w g b _ hb)
   refine fin _ _ (by rw [hval];exact hsl _ cap hnc) (by
    rw [if_neg hcj];cases hq:n - j with
    | zero=>omega
    | succ q =>
     rw [hq] at hZ;simp only [Builtin.clear_,Option.map_some,hadd];simp [qaw hund,hzv,hZ,hst]) s1 k1
end
end Go.Abs

namespace Go.Abs
open Go.Proofs
section
variable {P:Program} {E:Ent}
theorem view_oarr {c:Ctx} {h:qaa} {w:World} (s:HSim c h w) {i n el sz:Nat} {rows:List (List AV)} (hi:h[i]?=some (.oarr el sz rows)) (hn:rows.length=n) {v:Value} (hr:Rel c (.own i n) v)
  (hd:∀ r,r∈rows→∀ x,x∈r→(borV h x).isData=true):Rel (allD w) (.slice (rows.map fun r=>r.map (borV h))) v:=by
 obtain ⟨hv,us,hown,hrl,hcells⟩:=own_invO s hi hn hr;obtain ⟨_,_,_,_,_,_,h3,_⟩:=s.obj i _ hi;refine .data (own_dataW (c:=allD w) (fun _ _ _ h=>h) (by rw [List.length_map,hn];exact hown) (by simpa using h3) (fun r hr'=>?_) (fun i' j r x hr' hx=>?_))
 ·
  obtain ⟨r0,h0,rfl⟩:=List.mem_map.1 hr';rw [List.length_map];exact hrl r0 h0
 ·
  rw [List.getElem?_map] at hr';obtain ⟨r0,h0,rfl⟩:=Option.map_eq_some_iff.1 hr';rw [List.getElem?_map] at hx;obtain ⟨x0,hx0,rfl⟩:=Option.map_eq_some_iff.1 hx;obtain ⟨u,hu,hrel,_⟩:=hcells i' j r0 x0 h0 hx0;exact ⟨u,hu,isData_rel (hd r0 (List.mem_of_getElem? h0) x0 (List.mem_of_getElem? hx0)) (borV_rel s hrel)⟩
theorem wp_borV {c:Ctx} {e:Env} {a:Act} {w:World} (s:Sim E.N c e a w) (k:E.ok c e.h w) {ops:Array Oper} {rest:List Oper} {o:Oper} {Q:Exit→Act→World→Prop} {f:Operand} {args:Array Operand} {ts:Array TypeId} (g:o.guard=none) (hd:dstOk E.N o.dst)
  (ho:o.op=.call { callee:=.value f,args:=args,argTypes:=ts }) (hall:qas e true (f::args.toList)) {fid:FuncId} (hf:e.getS f=.fn (.func fid) [] []) (V:Operand→AV)
  (hv:∀ y,y∈args.toList→∀ v,Rel c (e.getS y) v→Rel (allD w) (V y) v) {x:AV} (hP:APure P fid (args.toList.map V) x) (hx:flatB x=true)
  (hnext:∀ a' w',Sim E.N c (e.put o.dst x) a' w'→E.ok c e.h w'→wpList P ops Q rest a' w'):wpList P ops Q (o::rest) a w:=by
 refine qbx (G:=true) (by simp [Region.wanted,g]) (fun _=>?_) (fun h=>by cases h);have hrel:=qa2 s hall;have hfr:=hrel f (by simp);rw [hf] at hfr;have hev:a.eval f=.func (.func fid) #[] #[]:=by
  generalize a.eval f=z at hfr;cases hfr with
  | data h=>cases h
  | fn f ys xs us vs hl' hl h' h =>
   have h1:us = #[]:=Array.eq_empty_of_size_eq_zero hl';have h2:vs = #[]:=Array.eq_empty_of_size_eq_zero hl;rw [h1,h2]
 have hargs:RelL (allD w) (args.toList.map V) (args.map a.eval):=by
  refine ⟨by simp,fun j y v hy hv'=>?_⟩;simp only [List.getElem?_map,Option.map_eq_some_iff] at hy;obtain ⟨z,hz,rfl⟩:=hy;simp only [Array.getElem?_map,Option.map_eq_some_iff] at hv';obtain ⟨z',hz',rfl⟩:=hv';have:z'=z:=by
   rw [← Array.getElem?_toList,hz] at hz';exact (Option.some.inj hz').symm
  subst this;exact hv z' (List.mem_of_getElem? hz) _ (hrel z' (by simp [List.mem_of_getElem? hz]))
 have hA:=hP [];unfold Oper.wp;rw [run_enter ho hev hA.1];simp only [Array.empty_append,Array.append_empty];refine (hA.2 (allD w) w _ (allD_sim w) hargs).mono ?_;rintro en w' ⟨r,h',c',⟨rfl,rfl⟩,hE,hs',hk'⟩;have hold:∀ b,b<w.heap.size→w'.heap[b]?=w.heap[b]?:=fun b hb=>hk'.frame b hb fun i o hi=>by simp at hi
 cases en with
 | returned u =>
  have hE':Rel c' x u:=hE;have hs2:=s.hs.ext hold (.refl c) (fun _ _=>rfl) (fun _ _ _ h=>.inl h) s.hs.dom;exact hnext _ w' (s.put (.refl c) hs2 (dst_lt hd) (flat_rel hx hE')) (k.ext' s.hs hold (.refl c) (fun _=>rfl) hk'.os hk'.tape hk'.output hk'.size fun _ _ _ h=>.inl h)
 | _=>simp [EndR] at hE
end
end Go.Abs

namespace Go.Abs
theorem relL_vals {c:Ctx} {l:List Value} {vs:Array Value} (h:RelL c (l.map .val) vs):vs=l.toArray:=by
 apply Array.ext
 · simpa using h.1
 ·
  intro i h1 h2;have h3:i<l.length:=by simpa using h2
  have:=h.2 i (.val l[i]) vs[i] (by simp [h3]) (by simp [h1]);simpa using this.val_inv
theorem apure_calls {P:Program} {f:FuncId} {l:List Value} {r:Value} (hr:strOk r=true) (he:Enter P f) (hc:∀ w,Calls P f l.toArray w fun e w'=>e=.returned r∧w'=w):APure P f (l.map .val) (.val r):=fun h=>by
 refine ⟨he,fun c w vs hs ha=>?_⟩;rw [relL_vals ha];refine (hc w).mono ?_;rintro e w' ⟨rfl,rfl⟩;exact ⟨.ret (.val r),h,c,⟨rfl,rfl⟩,.val r hr,hs,.refl 0 hs⟩
end Go.Abs
