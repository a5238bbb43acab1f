/- Part 19 of a proof: AbsIq, AbsOh, AbsZj, AbsOk, AbsOc, AbsOg, AbsZi, AbsOi, AbsZh, AbsOj -/
import Derived.Lib.SliceRun
import Derived.Shelf.Sort.Plain
import Derived.Shelf.Slices.CompactI
import Derived.Shelf.Slices.In.SortNone
import Derived.Lib.RowBridge
import Derived.Test.YtbimdamecieomaaGreatDoorQ14
import Derived.Test.YtbimdamecieomaaGreatDoorQ15
import Derived.Test.YtbimdamecieomaaGreatDoorQ16
import Derived.Test.YtbimdamecieomaaGreatDoorQ17
import Derived.Test.YtbimdamecieomaaGreatDoorQ18
set_option linter.all false

namespace Go.Abs
section
variable {P:Program} {E:Ent}
theorem awpI_of_awp {code:Code} {Q:AExit→List Deferred→Env→Prop} {e:Env} (h:AWp P E code (fun x e=>Q x [] e) e):AWpI P E none code Q [] e:=fun n c a w s k=>by
 have e0:∀ a:Act,ddf [] a=a:=fun a=>by simp [ddf]
 rw [e0];refine wpIn_mono ((wpIn_wide (n:=n)).2 (h c a w s k)) fun x a' w' hh=>?_;have:=conc_I (Q:=Q) (ds:=[]) hh
 rwa [e0] at this
theorem AYield.mono {l:Nat} {args:List AV} {h:qaa} {R R':AEnd→qaa→Prop} (k:AYield P l args h R) (hr:∀ r h',R r h'→R' r h'):AYield P l args h R':=fun m c w vs hs ha=>by
 obtain ⟨fn,tmps,asg,body,h1,h2⟩:=k m c w vs hs ha;refine ⟨fn,tmps,asg,body,h1,h2.mono ?_⟩;rintro e w' ⟨r,h',c',hR,x⟩;exact ⟨r,h',c',hr _ _ hR,x⟩
def TWpI (P:Program) (E:Ent) (ro:Option Nat) (c:Code) (Q:AExit→List Deferred→Env→Prop) (ds:List Deferred) (e:Env) (_:Tag (c,Q)):Prop:=AWpI P E ro c Q ds e
def wpCI (P:Program) (E:Ent) (ro:Option Nat):Code→(AExit→List Deferred→Env→Prop)→List Deferred→Env→Prop
 | .skip,Q,ds,e=>Q .normal ds e
 | .region _ ops false,Q,ds,e=>(ops.toList.all fun o=>!isDef o.op)=true∧opsG P E.N (fun x e=>Q x ds e) [] ops.toList e
 | .seq a b,Q,ds,e=>wpCI P E ro a (thenI (wpCI P E ro b Q) Q) ds e
 | .cond x a b,Q,ds,e=>match e.get x with
  | .val (.bool c)=>Cnd c e (wpCI P E ro a Q ds) (wpCI P E ro b Q ds) ⟨⟩ ⟨⟩
  | _=>False
 | .block id b,Q,ds,e=>wpCI P E ro b (blockI id Q) ds e
 | .exit id,Q,ds,e=>Q (.exit id) ds e
 | .ret,Q,ds,e=>Q .ret ds e
 | c,Q,ds,e=>TWpI P E ro c Q ds e ⟨⟩
theorem qbv {ro:Option Nat}:∀ (c:Code) (Q:AExit→List Deferred→Env→Prop) (ds:List Deferred) (e:Env),wpCI P E ro c Q ds e→AWpI P E ro c Q ds e
 | .skip,Q,ds,e,h=>awpI_skip h
 | .region id ops false,Q,ds,e,h=>by have:=awpI_region (ro:=ro) (id:=id) (l:=ops.toList) h.1 h.2;simpa using this
 | .region id ops true,Q,ds,e,h=>h
 | .seq a b,Q,ds,e,h=>awpI_seq (awpI_mono (qbv a _ ds e h) fun x ds' e' hx=>by
   cases x with
   | normal=>exact qbv b Q ds' e' hx
   | _=>exact hx)
 | .cond x a b,Q,ds,e,h=>by
  simp only [wpCI] at h;split at h
  ·
   rename_i c hx;exact awpI_cond hx (fun hc=>qbv a Q ds e (h.1 hc)) (fun hc=>qbv b Q ds e (h.2 hc))
  · exact h.elim
 | .block id b,Q,ds,e,h=>awpI_block (qbv b _ ds e h)
 | .loop b,Q,ds,e,h=>h
 | .rangeFunc ..,Q,ds,e,h=>h
 | .exit id,Q,ds,e,h=>awpI_exit h
 | .scope b,Q,ds,e,h=>h
 | .label _,Q,ds,e,h=>h
 | .goto _,Q,ds,e,h=>h
 | .ret,Q,ds,e,h=>awpI_ret h
 | .refuse _,Q,ds,e,h=>h
end
attribute [go_sem] wpCI thenI blockI isDef opsY stepY
end Go.Abs

namespace Go.Abs
open Go.Proofs
theorem view_ptr {c:Ctx} {h:qaa} {w:World} (s:HSim c h w) {i:Nat} {xs:List AV} (hi:h[i]?=some (.cells xs)) (hd:∀ x,x∈xs→x.isData=true) {v:Value} (hr:Rel c (.ptr i 0) v):Rel (allD w) (.eptr xs) v:=by
 obtain ⟨b,vs,T,hb,hh,hsz,hc⟩:=s.obj i _ hi;cases hr with
 | data h=>cases h
 | ptr _ _ b' hb' =>
  rw [hb] at hb';cases hb';refine .eptr xs b 0 (fun j=>(vs[j]?).getD undef) (fun j x hx=>?_) (fun j x hx=>?_)
  ·
   have hj:j<vs.size:=by rw [hsz];exact (List.getElem?_eq_some_iff.1 hx).1
   show w.cell? ⟨b,0+j,none⟩=_;rw [cell_of_row _ _ _ _ _ _ hh,Nat.zero_add,Array.getElem?_eq_getElem hj];rfl
  ·
   have hj:j<vs.size:=by rw [hsz];exact (List.getElem?_eq_some_iff.1 hx).1
   rw [Array.getElem?_eq_getElem hj];exact (isData_rel (hd x (List.mem_of_getElem? hx)) (hc j x _ hx (Array.getElem?_eq_getElem hj)).1).mono s.data
theorem view_fn1 {c c':Ctx} {f:Fn} {p p':AV} (hp:∀ u,Rel c p u→Rel c' p' u) {v:Value} (hr:Rel c (.fn f [] [p]) v):Rel c' (.fn f [] [p']) v:=by
 cases hr with
 | data h=>cases h
 | fn _ _ _ us vs hl' hl h' h =>
  refine .fn f [] [p'] us vs hl' hl (fun j x v hx=>by simp at hx) (fun j x v hx hv=>?_);cases j with
  | succ j=>simp at hx
  | zero =>
   simp at hx;subst hx;exact hp v (h 0 p v rfl hv)
theorem view_uarr {c:Ctx} {h:qaa} {w:World} (s:HSim c h w) {i n el sz:Nat} {rows:List (List AV)} (hi:h[i]?=some (.uarr el sz rows)) (hn:rows.length=n) {v:Value} (hr:Rel c (.own i n) v):Rel (allD w) (.slice rows) v:=by
 have h1:=borV_rel s hr;simpa [borV,hi,hn] using h1
end Go.Abs

namespace Go.Abs
section
variable {P:Program} {E:Ent}
theorem run_build0 {T el:TypeId} {sz:Nat} (hk:qae P T=.slice el sz) (hke:qae P el≠.other) (hsize:qao P el=sz) (hpos:0<sz) (w:World) :
  (Instr.buildSlice T 0 #[]).run P w=.ok (.slice (some ⟨w.heap.size,0,none⟩) 0 0) (w.alloc (.cells #[] el)):=by
 obtain ⟨iT,dT,zT,_,hund,_,hkd,_⟩:=qap hk (by simp);obtain ⟨rfl,ie,hie,hies⟩:=qa7 hkd;obtain ⟨ie',de,ze,hie',_,hze,_,hts,_,hzs,hz1⟩:=qap (P:=P) (t:=el) rfl hke;rw [hie] at hie';cases hie';simp only [Instr.buildSlice,Sem.run_bind,qaw hund,Result.andThen_ok,qbb hie,hies];have h24:¬ (0 * sz > 2 ^ 24):=by simp
 rw [if_neg h24,if_pos (by simp)];simp only [Sem.run_bind,Sem.run_pure,Result.andThen_ok];have hf:Instr.fill (fun i=>some (i * sz,sz)) ((Array.range (0 * sz)).map ((#[]:Array Value)[· % (#[]:Array Value).size]!)) []=some #[]:=by
  simp [Instr.fill]
 simp only [hf,newRow,Sem.run_bind,qcc,Result.andThen_ok,Sem.run_pure]
theorem arr_lit0 {c:Ctx} {h:qaa} {w:World} (s:HSim c h w) (k:E.ok c h w) (e:TypeId) (sz:Nat) :
  c.le (c.addSl h.length 0 (.slice (some ⟨w.heap.size,0,none⟩) 0 0))∧HSim (c.addSl h.length 0 (.slice (some ⟨w.heap.size,0,none⟩) 0 0)) (h++[.arr e sz []]) (w.alloc (.cells #[] e)) ∧
   E.ok (c.addSl h.length 0 (.slice (some ⟨w.heap.size,0,none⟩) 0 0)) (h++[.arr e sz []]) (w.alloc (.cells #[] e)):=by
 obtain ⟨v0,hv0⟩:∃ v0,v0=Value.slice (some ⟨w.heap.size,0,none⟩) 0 0:=⟨_,rfl⟩
 rw [← hv0];have hle:c.le (c.addSl h.length 0 v0):=Ctx.addSl_le ((s.dom _ (Nat.le_refl _)).2 0);have hsl:∀ i,i<h.length→∀ m,(c.addSl h.length 0 v0).sl i m=c.sl i m:=fun i hi m=>by
  simp only [Ctx.addSl];rw [if_neg (by omega)]
 have hlt:∀ {i:Nat} {o:AObj},h[i]?=some o→i<h.length:=fun hi=>(List.getElem?_eq_some_iff.1 hi).1;have hnew:qaf (c.addSl h.length 0 v0) h.length (.arr e sz [])=some w.heap.size:=by simp [qaf,Ctx.addSl,hv0,Value.ownBlock]
 have hold:∀ b,b<w.heap.size→(w.alloc (.cells #[] e)).heap[b]?=w.heap[b]?:=fun b hb=>by first | exact heap_alloc_old w _ b hb | exact heap_alloc_old w _ hb
 refine ⟨hle,⟨fun b j v hD=>?_,fun i hi=>?_,fun i o hi=>?_,fun i j o o' b hi hj hb hb'=>?_,fun i o b j v hi hb hD=>?_⟩,⟨k.edom,k.ext.trans hle,k.blk0,by have:=k.len;simp;omega,k.os,k.tape,k.output,Nat.le_trans k.size (qd4 w _),fun b hb hno=>?_,fun i o b hi hb=>?_,k.dold⟩⟩
 ·
  have hcell:=s.data b j v hD;have hb:b<w.heap.size:=World.block_lt_of_cell? w ⟨b,j,none⟩ hcell;rw [World.cell?_of_block (w:=w) (hold b hb)];exact hcell
 ·
  simp only [List.length_append,List.length_cons,List.length_nil] at hi;have:=s.dom i (by omega);refine ⟨this.1,fun m=>?_⟩;simp only [Ctx.addSl];rw [if_neg (by omega)];exact this.2 m
 ·
  rcases qak hi with h1 | ⟨rfl,rfl⟩
  · exact (s.obj i o h1).keep hle (hsl i (hlt h1)) fun b hb=>hold b ((s.obj i o h1).lt hb)
  ·
   refine ⟨v0,[],by simp [Ctx.addSl],by rw [hv0];rfl,fun m hm=>?_,by rw [hv0];exact World.ownsRow_made w #[] 0 (Nat.zero_le _) (Nat.zero_le _) (by simp),by simp,by simp,by simp,fun b j hb hj=>by simp at hj⟩;simp only [Ctx.addSl];rw [if_neg (by simp at hm;omega)];exact (s.dom _ (Nat.le_refl _)).2 m
 ·
  rcases qak hi with h1 | ⟨rfl,rfl⟩<;>rcases qak hj with h2 | ⟨rfl,rfl⟩
  ·
   rw [(s.obj i o h1).blk hle] at hb;rw [(s.obj j o' h2).blk hle] at hb';exact s.apart i j o o' b h1 h2 hb hb'
  ·
   rw [hnew] at hb';rw [(s.obj i o h1).blk hle] at hb;cases hb';have:=(s.obj i o h1).lt hb;omega
  ·
   rw [hnew] at hb;rw [(s.obj j o' h2).blk hle] at hb';cases hb;have:=(s.obj j o' h2).lt hb';omega
  · rfl
 ·
  have hD':c.D b j=some v:=hD;rcases qak hi with h1 | ⟨rfl,rfl⟩
  ·
   rw [(s.obj i o h1).blk hle] at hb;exact s.sep i o b j v h1 hb hD'
  ·
   rw [hnew] at hb;cases hb;rw [s.noD (Nat.le_refl _)] at hD';cases hD'
 · rw [hold b (Nat.lt_of_lt_of_le hb k.size)];exact k.frame b hb hno
 ·
  rcases qak hi with h1 | ⟨rfl,rfl⟩
  ·
   rw [(s.obj i o h1).blk hle] at hb;exact k.newobj i o b h1 hb
  ·
   rw [hnew] at hb;cases hb;exact .inr k.size
theorem wp_lit0 {c:Ctx} {e:Env} {a:Act} {w:World} (s:Sim E.N c e a w) (k:E.ok c e.h w) {ops:Array Oper} {rest:List Oper} {o1:Oper} {Q:Exit→Act→World→Prop} {T el:TypeId} {sz d1:Nat}
  (g1:o1.guard=none) (hd1:o1.dst=some d1) (hlt1:d1<E.N) (hop1:o1.op=.buildSlice T 0 #[])
  (hT:qae P T=.slice el sz) (hel:qae P el≠.other) (hsz:qao P el=sz) (hpos:0<sz)
  (hnext:∀ c' a' w',Sim E.N c' (({ e with h:=e.h++[.arr el sz []] }:Env).put o1.dst (.own e.h.length 0)) a' w'→E.ok c' (e.h++[.arr el sz []]) w'→wpList P ops Q rest a' w') :
  wpList P ops Q (o1::rest) a w:=by
 have hrun1:=run_build0 (P:=P) hT hel hsz hpos w;obtain ⟨hle,s1,k1⟩:=arr_lit0 (E:=E) s.hs k el sz;refine qbx (G:=true) (by simp [Region.wanted,g1]) (fun _=>?_) (fun h=>by cases h);refine qbn (w':=w.alloc (.cells #[] el)) (v:=.slice (some ⟨w.heap.size,0,none⟩) 0 0) (by simp only [execOp,hop1,List.map_toArray,List.map_nil,Sem.run_bind,hrun1,Result.andThen_ok,Sem.run_pure]) ?_;refine hnext _ _ _ ?_ k1;exact s.put hle s1 (fun j hj=>by rw [hd1] at hj;cases hj;exact hlt1) (.own _ _ _ (by simp [Ctx.addSl]) rfl)
theorem wp_eqnil {c:Ctx} {e:Env} {a:Act} {w:World} (s:Sim E.N c e a w) {ops:Array Oper} {rest:List Oper} {o1:Oper} {Q:Exit→Act→World→Prop} {T T' el:TypeId} {sz:Nat} {x:Operand} {d1:Nat} {rows:List (List AV)}
  (g1:o1.guard=none) (hd1:o1.dst=some d1) (hlt1:d1<E.N) (hop1:o1.op=.binOp .eql T x (.const (.slice none 0 0)) T')
  (hT:qae P T=.slice el sz) (hx:qas e true [x]) (hxv:e.getS x=.slice rows)
  (hnext:∀ (b:Bool) a',(b=true→rows=[])→Sim E.N c (e.put o1.dst (.val (.bool b))) a' w→wpList P ops Q rest a' w) :
  wpList P ops Q (o1::rest) a w:=by
 obtain ⟨iT,dT,zT,_,hund,_,hkd,_⟩:=qap hT (by simp);obtain ⟨rfl,ie,hie,hies⟩:=qa7 hkd;have hrx:=qa2 s hx x (by simp);rw [hxv] at hrx;have hd:=Rel.slice_inv hrx;obtain ⟨A,n,cp,hv,hA⟩:∃ (A:Option Addr) (n cp:Nat),a.eval x=.slice A n cp∧(A.isNone=true→rows=[]):=by
  generalize a.eval x=v at hd;cases hd with
  | nil=>exact ⟨none,0,0,rfl,fun _=>rfl⟩
  | slice rows b off cap sz' g h1 h2 h3 h4 h5=>exact ⟨_,_,_,rfl,fun h=>by simp at h⟩
  | empty a=>exact ⟨_,_,_,rfl,fun _=>rfl⟩
 refine qbx (G:=true) (by simp [Region.wanted,g1]) (fun _=>?_) (fun h=>by cases h);refine qbn (w':=w) (v:=.bool A.isNone) (by
  have h1:=Lib.run_eql_slice_nil (P:=P) w T el A n cp 0 0 hund;have hc:a.eval (.const (.slice none 0 0))=.slice none 0 0:=rfl;simp only [execOp,hop1,hv,hc,eqGuard,Sem.run_bind,Sem.run_pure,Result.andThen_ok];simp only [h1,Result.andThen_ok,Bool.not_true,Bool.false_eq_true,if_false,Sem.run_pure]) ?_
 exact hnext A.isNone _ hA (s.put (.refl c) s.hs (fun j hj=>by rw [hd1] at hj;cases hj;exact hlt1) (.val _))
end
end Go.Abs

namespace Go.Abs
theorem normc_wk (E:Ent) (e:Env) {p:Nat} {xs:List AV} (hp:e.h[p]?=some (.cells xs)):Wk E e ⟨e.t,e.h.set p (.cells (qa4 e.h xs))⟩:=fun c a w s k=>by
 obtain ⟨s2,k2⟩:=retype_ok s.hs k (p:=p) (xs:=xs) (xs':=qa4 e.h xs) hp (by rw [qc3,List.length_map]) (fun i x x' v hx hx' hr=>by
  rw [qc3,List.getElem?_map,hx] at hx';cases hx';exact qdd s.hs hr)
 exact ⟨c,⟨s.defers,s.size,s.tmps,s2⟩,k2⟩
end Go.Abs

namespace Go.Abs
open Go.Proofs Go.Shelf Go.Sort Go.Lib
section
variable {P:Program} {E:Ent}
theorem putRow_heap {w:World} {g:Nat} {cur:Array Value} {e:TypeId} {d:Array Int} (hg:w.heap[g]?=some (.cells cur e (0,0))):(putRow (Value.int .i64) w g 0 d).heap[g]?=some (.cells (putCells (Value.int .i64) 0 d cur) e (0,0)) ∧
  ∀ b,b≠g→(putRow (Value.int .i64) w g 0 d).heap[b]?=w.heap[b]?:=by
 constructor
 · simp only [putRow,mapBlock,Array.getElem?_modify,if_true,hg,Option.map_some,onCells]
 ·
  intro b hb;simp only [putRow,mapBlock,Array.getElem?_modify,if_neg (Ne.symm hb)]
abbrev iR (x:Int):List AV:=[.val (.int .i64 x)]
theorem ints_cells {c:Ctx} {l:List Int} {us:List Value} (hl:us.length=l.length * 1) (h:∀ (i j:Nat) (r:List AV) (x:AV),(l.map iR)[i]?=some r→r[j]?=some x→∃ u,us[i * 1+j]?=some u∧DRel c.D x u):us=l.map (Value.int .i64):=by
 apply List.ext_getElem?;intro k;rcases Nat.lt_or_ge k l.length with hk | hk
 ·
  obtain ⟨u,hu,hd⟩:=h k 0 _ _ (by rw [List.getElem?_map,List.getElem?_eq_getElem hk];rfl) rfl;rw [Nat.mul_one,Nat.add_zero] at hu;cases hd;rw [hu,List.getElem?_map,List.getElem?_eq_getElem hk];rfl
 · rw [List.getElem?_eq_none (by omega),List.getElem?_eq_none (by simpa using hk)]
theorem cells_ints {D:Nat→Nat→Option Value} (l:List Int) (rest:List Value):∀ (i j:Nat) (r:List AV) (x:AV),(l.map iR)[i]?=some r→r[j]?=some x→∃ u,(l.map (Value.int .i64)++rest)[i * 1+j]?=some u∧DRel D x u:=fun i j r x hr hx=>by
 rw [List.getElem?_map] at hr;obtain ⟨z,hz,rfl⟩:=Option.map_eq_some_iff.1 hr;cases j with
 | succ j=>simp [iR] at hx
 | zero =>
  simp [iR] at hx;subst hx;have hlt:=(List.getElem?_eq_some_iff.1 hz).1;exact ⟨_,by rw [Nat.mul_one,Nat.add_zero,List.getElem?_append_left (by simpa using hlt),List.getElem?_map,hz];rfl,.val _ rfl rfl⟩
theorem holds_ints {w:World} {g cap:Nat} {cur:Array Value} {T:TypeId} {l:List Int} (hh:w.heap[g]?=some (.cells cur T (0,0))) (htake:cur.toList.take (l.length * 1)=l.map (Value.int .i64)) (hcur:cur.size=cap * 1) (hnc:l.length≤cap):Holds (Value.int .i64) w g 0 l.toArray:=by
 intro j hj;have hj':j<l.length:=by simpa using hj
 have e1:cur[j]?=some (.int .i64 l[j]):=by
  have:(cur.toList.take (l.length * 1))[j]?=(l.map (Value.int .i64))[j]?:=by rw [htake]
  rw [List.getElem?_take,if_pos (by omega),Array.getElem?_toList,List.getElem?_map,List.getElem?_eq_getElem hj'] at this;exact this
 refine ⟨?_,by simp [World.frozen?,hh]⟩;rw [cell_of_row _ _ _ _ _ _ hh,Nat.zero_add,e1];simp [hj']
theorem acalls_sort {ρ:Ren} (Ly:Lays.n189 P ρ) (hEn:Enter P (ρ.f 189)) {h:qaa} {i T:Nat} {l:List Int} (hi:h[i]?=some (.uarr T 1 (l.map iR))) :
  ACalls P (ρ.f 189) [.own i l.length] h fun r h'=>r=.ret (.tuple [])∧h'=h.set i (.uarr T 1 ((l.mergeSort fun x y=>decide (x≤y)).map iR)):=by
 refine ⟨hEn,fun c w vs hs ha=>?_⟩;have hvs:vs = #[vs[0]!]:=by
  have:=ha.1;apply Array.ext
  · simpa using this
  ·
   intro k h1 h2;have:k=0:=by simp at h2;exact h2
   subst this;simp [getElem!_pos,h1]
 obtain ⟨v,rfl⟩:∃ v,vs = #[v]:=⟨_,hvs⟩
 have hr:=ha.2 0 _ v rfl rfl;obtain ⟨hv,us,hown,hrl,hcells⟩:=own_inv hs hi (by simp) hr;have hus:us=l.map (Value.int .i64):=ints_cells (by rw [hown.1]) hcells;have hml:(l.mergeSort fun x y=>decide (x≤y)).length=l.length:=List.length_mergeSort _;rcases hown.2 with ⟨rfl,hn⟩ | ⟨g,cap,cur,rfl,_,hh,hnc,hcm,hcur,htake⟩
 ·
  have hl0:l=[]:=List.eq_nil_of_length_eq_zero hn;subst hl0;refine (Any.slices_Sort_int_none Ly none 0 w).mono ?_;rintro e w' ⟨rfl,rfl⟩;refine ⟨_,_,c,⟨rfl,rfl⟩,.tuple [] #[] rfl (by simp),?_,?_⟩
  ·
   have:(([]:List Int).mergeSort fun x y=>decide (x≤y))=[]:=by simp
   rw [this,qcr hi];exact hs
  ·
   have:(([]:List Int).mergeSort fun x y=>decide (x≤y))=[]:=by simp
   rw [this,qcr hi];exact .refl 0 hs
 ·
  have hH:=holds_ints hh (by rw [htake,hus]) hcur hnc;have hlen:l.length≤68719476736:=by obtain ⟨_,_,_,_,_,_,h3,_⟩:=hs.obj i _ hi;simpa using h3
  have hglt:g<w.heap.size:=(Array.getElem?_eq_some_iff.1 hh).1;refine (Any.slices_Sort_int Ly g 0 cap l w hH hglt (by omega)).mono ?_;rintro e w' ⟨rfl,n,os,rfl⟩;obtain ⟨p1,p2⟩:=putRow_heap (w:=Sort.ahead w n) (d:=(l.mergeSort fun x y=>decide (x≤y)).toArray) hh;have hsize:(putRow (Value.int .i64) (Sort.ahead w n) g 0 (l.mergeSort fun x y=>decide (x≤y)).toArray).heap.size=w.heap.size:=by simp [Sort.ahead]
  have hold:∀ b,b<w.heap.size→(grow (putRow (Value.int .i64) (Sort.ahead w n) g 0 (l.mergeSort fun x y=>decide (x≤y)).toArray) os).heap[b]?=(putRow (Value.int .i64) (Sort.ahead w n) g 0 (l.mergeSort fun x y=>decide (x≤y)).toArray).heap[b]?:=fun b hb=>by
   simp only [grow];rw [Array.getElem?_append_left (by rw [hsize];exact hb)]
  have hput:(putCells (Value.int .i64) 0 (l.mergeSort fun x y=>decide (x≤y)).toArray cur).toList.take (l.length * 1)=(l.mergeSort fun x y=>decide (x≤y)).map (Value.int .i64):=by
   apply List.ext_getElem?;intro k;rw [List.getElem?_take];by_cases hk:k<l.length * 1
   ·
    rw [if_pos hk,Array.getElem?_toList];have hkc:k<cur.size:=by omega
    have hk2:k<(l.mergeSort fun x y=>decide (x≤y)).length:=by omega
    simp only [putCells,Array.getElem?_mapIdx,Array.getElem?_eq_getElem hkc,Option.map_some,List.size_toArray,Nat.zero_le,Nat.zero_add,true_and,Nat.sub_zero,hk2,if_true,List.getElem?_map,List.getElem?_eq_getElem hk2];have hk3:(l.mergeSort fun x y=>decide (x≤y))[k]?=some ((l.mergeSort fun x y=>decide (x≤y))[k]'hk2):=List.getElem?_eq_getElem hk2;simp [hk2]
    first | done | (rw [hk3];rfl)
   · rw [if_neg hk,List.getElem?_eq_none (by simp [hml];omega)]
  obtain ⟨s1,k1⟩:=uarr_over (E:=⟨0,c,h,w⟩) hs (.refl 0 hs) (w':=grow (putRow (Value.int .i64) (Sort.ahead w n) g 0 (l.mergeSort fun x y=>decide (x≤y)).toArray) os) (rows':=(l.mergeSort fun x y=>decide (x≤y)).map iR)
   (us:=(l.mergeSort fun x y=>decide (x≤y)).map (Value.int .i64)) hi (by simpa using hv) (by simp [hml]) (by simp)
   ⟨by simp [hml],.inr ⟨g,cap,_,by simp,Nat.zero_le _,(hold g hglt).trans p1,by simpa using hnc,hcm,by simp [putCells,hcur],by simpa using hput⟩⟩
   (by simpa using cells_ints (D:=c.D) (l.mergeSort fun x y=>decide (x≤y)) []) rfl rfl rfl (by simp [grow,Sort.ahead]) (fun b hb hlt=>by rw [hold b hlt,p2 b hb];rfl)
  exact ⟨_,_,c,⟨rfl,rfl⟩,.tuple [] #[] rfl (by simp),s1,k1⟩
end
end Go.Abs

namespace Go.Abs
open Go.Proofs Go.Shelf Go.Sort Go.Lib
section
variable {P:Program} {E:Ent}
theorem acalls_compact {ρ:Ren} (Ly:Lays2.n20 P ρ) (hEn:Enter P (ρ.f 20)) {h:qaa} {i T:Nat} {l:List Int} (hi:h[i]?=some (.uarr T 1 (l.map iR))) :
  ACalls P (ρ.f 20) [.own i l.length] h fun r h'=>r=.ret (.slice ((compact l).map iR))∧h'=h.set i (.arr T 1 ((compact l++List.replicate (l.length - (compact l).length) 0).map iR)):=by
 refine ⟨hEn,fun c w vs hs ha=>?_⟩;have hvs:vs = #[vs[0]!]:=by
  have:=ha.1;apply Array.ext
  · simpa using this
  ·
   intro k h1 h2;have:k=0:=by simp at h2;exact h2
   subst this;simp [getElem!_pos,h1]
 obtain ⟨v,rfl⟩:∃ v,vs = #[v]:=⟨_,hvs⟩
 have hr:=ha.2 0 _ v rfl rfl;obtain ⟨hv,us,hown,hrl,hcells⟩:=own_inv hs hi (by simp) hr;have hus:us=l.map (Value.int .i64):=ints_cells (by rw [hown.1]) hcells;have hcl:(compact l).length≤l.length:=compact_length_le l;obtain ⟨Z,hZ⟩:∃ Z,compact l++List.replicate (l.length - (compact l).length) 0=Z:=⟨_,rfl⟩
 have hZl:Z.length=l.length:=by rw [← hZ];simp;omega
 -- what is left: the array written anew,then written no more
 have fin:∀ (w':World) (cap g:Nat) (s1:HSim c (h.set i (.uarr T 1 (Z.map iR))) w') (k1:(⟨0,c,h,w⟩:Ent).ok c (h.set i (.uarr T 1 (Z.map iR))) w'),v=.slice (some ⟨g,0,none⟩) l.length cap→l.length≤cap →
   ∃ r h' c',(r=.ret (.slice ((compact l).map iR))∧h'=h.set i (.arr T 1 (Z.map iR)))∧EndR c' r (.returned (.slice (some ⟨g,0,none⟩) (compact l).length cap))∧HSim c' h' w'∧(⟨0,c,h,w⟩:Ent).ok c' h' w':=by
  intro w' cap g s1 k1 hvg hcap;have hil:i<h.length:=(List.getElem?_eq_some_iff.1 hi).1;obtain ⟨c',hle,s2,k2⟩:=demote_ok (E:=⟨0,c,h,w⟩) s1 k1 (i:=i) (List.getElem?_set_self hil);rw [List.set_set] at s2 k2;obtain ⟨v',us',g1,g2,g3,g4,g5,g6,g7,g8⟩:=s2.obj i _ (List.getElem?_set_self hil);refine ⟨_,_,c',⟨rfl,rfl⟩,?_,s2,k2⟩;have hvv:v'=.slice (some ⟨g,0,none⟩) l.length cap:=by
   have h9:=hle.sl _ _ _ hv;simp only [List.length_map,hZl] at g1;rw [h9,hvg] at g1;exact (Option.some.inj g1).symm
  subst hvv;have hD:∀ j,j<(compact l).length→c'.D g j=some (.int .i64 ((compact l).getD j 0)):=fun j hj=>by
   obtain ⟨u,hu⟩:=g8 g j rfl (by simp [hZl];omega);have hZj:Z[j]?=some ((compact l).getD j 0):=by rw [← hZ,List.getElem?_append_left hj,List.getD_eq_getElem?_getD,List.getElem?_eq_getElem hj];rfl
   obtain ⟨u',hu',hd⟩:=g7 j 0 (iR ((compact l).getD j 0)) (.val (.int .i64 ((compact l).getD j 0))) (by rw [List.getElem?_map,hZj];rfl) rfl;cases hd;rw [Nat.mul_one,Nat.add_zero] at hu';have hc:=g4.cells (g:=g) rfl j _ hu';rw [qca,Nat.zero_add] at hc;have:=s2.data g j u hu;rw [hu];rw [this] at hc;exact hc
  show Rel c' (.slice ((compact l).map iR)) (.slice (some ⟨g,0,none⟩) (compact l).length cap);have hdr:=DRel.slice (D:=c'.D) ((compact l).map iR) g 0 cap 1 (fun i' j=>.int .i64 ((compact l).getD i' 0)) (by simp) (by
    obtain ⟨_,_,_,_,_,_,h3,_⟩:=hs.obj i _ hi;simp at h3 ⊢;omega) (by simp;omega) (fun i' j r x hr' hx=>by
    rw [List.getElem?_map] at hr';obtain ⟨z,hz,rfl⟩:=Option.map_eq_some_iff.1 hr';cases j with
    | succ j=>simp [iR] at hx
    | zero =>
     rw [Nat.zero_add,Nat.mul_one,Nat.add_zero];exact hD i' (List.getElem?_eq_some_iff.1 hz).1) (fun i' j r x hr' hx=>by
    rw [List.getElem?_map] at hr';obtain ⟨z,hz,rfl⟩:=Option.map_eq_some_iff.1 hr';cases j with
    | succ j=>simp [iR] at hx
    | zero =>
     simp [iR] at hx;subst hx;rw [List.getD_eq_getElem?_getD,hz];exact .val _ rfl rfl)
  simp only [List.length_map] at hdr;exact .data hdr
 rcases hown.2 with ⟨rfl,hn⟩ | ⟨g,cap,cur,rfl,_,hh,hnc,hcm,hcur,htake⟩
 ·
  have hl0:l=[]:=List.eq_nil_of_length_eq_zero hn;subst hl0;refine (Any.slices_Compact_int_empty Ly none 0 w).mono ?_;rintro e w' ⟨rfl,rfl⟩;have hZ0:Z=[]:=List.eq_nil_of_length_eq_zero (by simpa using hZl);have hc0:compact ([]:List Int)=[]:=List.eq_nil_of_length_eq_zero (by omega);obtain ⟨c',hle,s2,k2⟩:=demote_ok (E:=⟨0,c,h,w'⟩) hs (.refl 0 hs) hi;exact ⟨_,_,c',⟨rfl,by rw [hZ,hZ0]⟩,by rw [hc0];exact .data .nil,s2,k2⟩
 ·
  have hH:=holds_ints hh (by rw [htake,hus]) hcur hnc;have hlen:l.length≤68719476736:=by obtain ⟨_,_,_,_,_,_,h3,_⟩:=hs.obj i _ hi;simpa using h3
  refine (Any.slices_Compact_int Ly g 0 cap l w hH (by omega) hnc).mono ?_;rintro e w' ⟨rfl,q,rfl⟩;rw [hZ];obtain ⟨p1,p2⟩:=putRow_heap (w:=Sort.ahead w q) (d:=Z.toArray) hh;have hput:(putCells (Value.int .i64) 0 Z.toArray cur).toList.take (l.length * 1)=Z.map (Value.int .i64):=by
   apply List.ext_getElem?;intro k;rw [List.getElem?_take];by_cases hk:k<l.length * 1
   ·
    rw [if_pos hk,Array.getElem?_toList];have hkc:k<cur.size:=by omega
    have hk2:k<Z.length:=by omega
    simp only [putCells,Array.getElem?_mapIdx,Array.getElem?_eq_getElem hkc,Option.map_some,List.size_toArray,Nat.zero_le,Nat.zero_add,true_and,Nat.sub_zero,hk2,if_true,List.getElem?_map,List.getElem?_eq_getElem hk2];simp [hk2]
   · rw [if_neg hk,List.getElem?_eq_none (by simp [hZl];omega)]
  obtain ⟨s1,k1⟩:=uarr_over (E:=⟨0,c,h,w⟩) hs (.refl 0 hs) (w':=putRow (Value.int .i64) (Sort.ahead w q) g 0 Z.toArray) (rows':=Z.map iR) (us:=Z.map (Value.int .i64)) hi (by simpa using hv) (by simp [hZl]) (by simp)
   ⟨by simp [hZl],.inr ⟨g,cap,_,by simp,Nat.zero_le _,p1,by simpa using hnc,hcm,by simp [putCells,hcur],by simpa using hput⟩⟩
   (by simpa using cells_ints (D:=c.D) Z []) rfl rfl rfl (by simp [Sort.ahead]) (fun b hb hlt=>by rw [p2 b hb];rfl)
  exact fin _ cap g s1 k1 rfl hnc
end
end Go.Abs

namespace Go.Abs
section
variable {P:Program} {E:Ent}
theorem wp_callR {c:Ctx} {e:Env} {a:Act} {w:World} (s:Sim E.N c e a w) (k:E.ok c e.h w) {ops:Array Oper} {rest:List Oper} {o1:Oper} {Q:Exit→Act→World→Prop} {fid:FuncId} {args:Array Operand} {ts:Array TypeId} {d1:Nat} {x:AV} {h2:qaa}
  (g1:o1.guard=none) (hd1:o1.dst=some d1) (hlt1:d1<E.N) (ho:o1.op=.call { callee:=.value (.func fid),args:=args,argTypes:=ts })
  (hall:qas e true args.toList) (hc:ACalls P fid (args.toList.map e.getS) e.h fun r h'=>r=.ret x∧h'=h2)
  (hnext:∀ c' a' w',Sim E.N c' (({ e with h:=h2 }:Env).put o1.dst x) a' w'→E.ok c' h2 w'→wpList P ops Q rest a' w') :
  wpList P ops Q (o1::rest) a w:=by
 have hrel:=qa2 s hall;have hargs:RelL c (args.toList.map e.getS) (args.map a.eval):=RelL.map fun x hx=>hrel x hx;refine qbx (G:=true) (by simp [Region.wanted,g1]) (fun _=>?_) (fun h=>by cases h);unfold Oper.wp;rw [run_enter (us:=#[]) (vs:=#[]) ho rfl hc.1];simp only [Array.empty_append,Array.append_empty];refine (hc.2 c w _ s.hs hargs).mono ?_;rintro en w' ⟨r,h',c',⟨rfl,rfl⟩,hE,hs',hk'⟩;cases en with
 | returned u=>exact hnext c' _ w' (s.put hk'.ext hs' (fun j hj=>by rw [hd1] at hj;cases hj;exact hlt1) hE) (k.trans hk')
 | _=>simp [EndR] at hE
end
end Go.Abs

namespace Go.Abs
open Go.Proofs
end Go.Abs

namespace Go.Abs
section
variable {P:Program} {E:Ent}
end
end Go.Abs

namespace Go.Abs
open Go.Proofs Go.Shelf
section
variable {P:Program} {E:Ent}
theorem append_nilU {c:Ctx} {h:qaa} {w:World} (s:HSim c h w) (k:E.ok c h w) {T ty e sz:Nat} {y:AV} {u:Value} {news:List (List AV)} (hy:Rel c y u) (hk:qae P T=.slice e sz) (hsrc:srcRows h y=some news) (hrow:RowsLen sz news) (hpos:0<sz) (hbytes:qal P e≤2048) (hsize:qao P e=sz) (hke:qae P e≠.other) (hlen:news.length≤68719476736) :
  ∃ v' w' c',(Builtin.append_ #[T,T] ty #[.slice none 0 0,u]).run P w=.ok v' w'∧c.le c'∧HSim c' (h++[.uarr e sz news]) w'∧E.ok c' (h++[.uarr e sz news]) w'∧Rel c' (.own h.length news.length) v':=by
 have hu:=src_rel s hsrc hy;obtain ⟨s1,k1⟩:=share_ok s k;have hle1:=share_le c h w;obtain ⟨hle2,s2,k2⟩:=uarr_nil s1 k1 e sz;obtain ⟨v',w',c',hrun,hle3,s3,k3,r3⟩:=append_uobj (P:=P) (ty:=ty) s2 k2 hk hpos hbytes hsize hke (i:=h.length) (rows:=[]) (news:=news) (by simp) (v:=.slice none 0 0) (by simp [Ctx.addSl]) (hu.mono hle2.D) hrow (by simpa using hlen);exact ⟨v',w',c',hrun,hle1.trans (hle2.trans hle3),by simpa using s3,by simpa using k3,by simpa using r3⟩
theorem wp_appU {c:Ctx} {e:Env} {a:Act} {w:World} (s:Sim E.N c e a w) (k:E.ok c e.h w) {ops:Array Oper} {rest:List Oper} {o:Oper} {Q:Exit→Act→World→Prop} {T el sz:Nat} {xa xb:Operand} {news:List (List AV)}
  (g:o.guard=none) (hd:dstOk E.N o.dst) (hop:o.op=.call { callee:=.builtin .append,args:=#[xa,xb],argTypes:=#[T,T] })
  (hT:qae P T=.slice el sz) (hel:qae P el≠.other) (hsz:qao P el=sz) (hpos:0<sz) (hby:qal P el≤2048) (hx:qas e true [xa,xb]) (hxa:e.getS xa=.nils) (hsrc:srcRows e.h (e.getS xb)=some news) (hrow:RowsLen sz news) (hlen:news.length≤68719476736)
  (hnext:∀ c' a' w',Sim E.N c' (({ e with h:=e.h++[.uarr el sz news] }:Env).put o.dst (.own e.h.length news.length)) a' w'→E.ok c' (e.h++[.uarr el sz news]) w'→wpList P ops Q rest a' w') :
  wpList P ops Q (o::rest) a w:=by
 have hrel:=qa2 s hx;have hra:=hrel xa (by simp);have hrb:=hrel xb (by simp);rw [hxa] at hra;have hva:a.eval xa=.slice none 0 0:=by
  generalize a.eval xa=v at hra;cases hra with
  | data h=>cases h
  | nils=>rfl
 obtain ⟨v',w',c',hrun,hle,hs',hk',hr'⟩:=append_nilU (P:=P) (E:=E) (ty:=o.type) s.hs k hrb hT hsrc hrow hpos hby hsz hel hlen;refine qbx (G:=true) (by simp [Region.wanted,g]) (fun _=>?_) (fun h=>by cases h);refine qbn (w':=w') (v:=v') (by simp only [execOp,hop,resolve,invoke,builtin,Sem.run_bind,Sem.run_pure,Result.andThen_ok,List.map_toArray,List.map_cons,List.map_nil,hva,hrun]) ?_;exact hnext c' _ w' (s.put (x:=.own e.h.length news.length) (d:=o.dst) hle hs' (dst_lt hd) hr') hk'
end
end Go.Abs
