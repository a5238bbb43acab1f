/- Part 15 of a proof: AbsRm, AbsRn -/
import Derived.Maps.RangeRun
import Derived.Test.YtilhejdbiionhaaGreatDoorR12
import Derived.Test.YtilhejdbiionhaaGreatDoorR14
set_option linter.all false

namespace Go.Abs
open Go.Proofs Go.ChangeMaps Go.MapKept
def qdg:List (ByteArray×AV)→List Nat→List Value→List MapEntry
 |p::l,b::bs,v::vs=>⟨.string p.1,v,b⟩::qdg l bs vs
 |_,_,_=>[]
abbrev frzO(mb:Nat)(l:List (ByteArray×AV))(bs:List Nat)(clock:Nat):AObj:=.raw mb (fun vs=>.map (qdg l bs vs.toList).toArray clock) (l.map (·.2))
abbrev itO(g mb since:Nat)(seen:List Nat)(c0:Nat):AObj:=.raw g (fun _=>.mapIter (some mb) since seen.toArray c0) []
structure FrzOk(l:List (ByteArray×AV))(bs:List Nat)(clock:Nat):Prop where
 len:bs.length=l.length
 nod:bs.Nodup
 lt:∀b,b∈bs→b<clock
 str:∀p,p∈l→strOk (.string p.1)=true
theorem entsOf_len:∀(l:List (ByteArray×AV)) (bs:List Nat) (vs:List Value),bs.length=l.length→vs.length=l.length→(qdg l bs vs).length=l.length
 | [],_,_,_,_=>by simp[qdg]
 |p::l,b::bs,v::vs,h1,h2=>by simp[qdg,entsOf_len l bs vs (by simpa using h1) (by simpa using h2)]
 |p::l,[],_,h1,_=>by simp at h1
 |p::l,_::_,[],_,h2=>by simp at h2
theorem entsOf_get:∀{l:List (ByteArray×AV)} {bs:List Nat} {vs:List Value} (h1:bs.length=l.length) (h2:vs.length=l.length) (j:Nat) (hj:j<l.length),(qdg l bs vs)[j]?=some ⟨.string l[j].1,vs[j],bs[j]⟩
 | [],_,_,_,_,j,hj=>by simp at hj
 |p::l,b::bs,v::vs,h1,h2,0,_=>by simp[qdg]
 |p::l,b::bs,v::vs,h1,h2,j+1,hj=>by
  have:=entsOf_get (l:=l) (bs:=bs) (vs:=vs) (by simpa using h1) (by simpa using h2) j (by simpa using hj);simpa[qdg]using this
 |p::l,[],_,h1,_,_,_=>by simp at h1
 |p::l,_::_,[],_,h2,_,_=>by simp at h2
theorem entsOf_mem{l:List (ByteArray×AV)}{bs:List Nat}{vs:List Value}(h1:bs.length=l.length)(h2:vs.length=l.length){e:MapEntry}(he:e∈qdg l bs vs):∃(j:Nat) (hj:j<l.length),e=⟨.string l[j].1,vs[j],bs[j]⟩:=by
 obtain⟨j,hj,rfl⟩:=List.mem_iff_getElem.1 he;have hl:j<l.length:=by rwa [entsOf_len l bs vs h1 h2]at hj
 have:=entsOf_get h1 h2 j hl;rw[List.getElem?_eq_getElem hj]at this;exact⟨j,hl,Option.some.inj this⟩
theorem entsOf_born:∀{l:List (ByteArray×AV)} {bs:List Nat} {vs:List Value},bs.length=l.length→vs.length=l.length→(qdg l bs vs).map (·.born)=bs
 | [],[],_,_,_=>by simp[qdg]
 | [],_::_,_,h1,_=>by simp at h1
 |p::l,b::bs,v::vs,h1,h2=>by simp[qdg,entsOf_born (l:=l) (bs:=bs) (vs:=vs) (by simpa using h1) (by simpa using h2)]
 |p::l,[],_,h1,_=>by simp at h1
 |p::l,_::_,[],_,h2=>by simp at h2
theorem entsOf_self:∀{l:List (ByteArray×AV)} {ces:List MapEntry},ces.length=l.length→(∀(j:Nat) (p:ByteArray×AV) (ce:MapEntry),l[j]?=some p→ces[j]?=some ce→ce.key=.string p.1)→qdg l (ces.map (·.born)) (ces.map (·.val))=ces
 | [],[],_,_=>rfl
 | [],_::_,h,_=>by simp at h
 |_::_,[],h,_=>by simp at h
 |p::l,ce::ces,h,hk=>by
  have h1:=hk 0 p ce rfl rfl;have ih:=entsOf_self (l:=l) (ces:=ces) (by simpa using h) fun j p' ce' h1 h2=>hk (j+1) p' ce' (by simpa using h1) (by simpa using h2);simp only[List.map_cons,qdg,ih,←h1]
section
variable {P:Program} {E:Ent}
theorem freeze_ok{c:Ctx}{h:qab}{w:World}(s:HSim c h w)(k:E.ok c h w){i:Nat}{l:List (ByteArray×AV)}(hi:h[i]?=some (.map (qb5 l))) :
  ∃mb bs clock,FrzOk l bs clock∧c.blk i=some mb∧HSim c (h.set i (frzO mb l bs clock)) w∧E.ok c (h.set i (frzO mb l bs clock)) w:=by
 obtain⟨mb,ces,clock,g1,g2,g3,g4,g5⟩:=s.obj i _ hi;obtain⟨n1,n2⟩:=relE_of g3 g4;have he:qdg l (ces.toList.map (·.born)) (ces.toList.map (·.val))=ces.toList:=entsOf_self n1 fun j p ce h1 h2=>(n2 j p ce h1 h2).1.1
 have hlt:∀j,j<l.length→∃ce,ces.toList[j]?=some ce:=fun j hj=>⟨_,List.getElem?_eq_getElem (by omega)⟩
 refine⟨mb,ces.toList.map (·.born),clock,⟨by simpa using n1,List.pairwise_map.2 g5.2,fun b hb=>?_,fun p hp=>?_⟩,g1,?_⟩
 ·obtain⟨e,he,rfl⟩:=List.mem_map.1 hb;exact g5.1 e he
 ·obtain⟨j,hj⟩:=List.getElem?_of_mem hp;obtain⟨ce,hce⟩:=hlt j (List.getElem?_eq_some_iff.1 hj).1;exact(n2 j p ce hj hce).1.2
 ·refine obj_repl s k hi (o':=frzO mb l (ces.toList.map (·.born)) clock) ⟨g1,(ces.toList.map (·.val)).toArray,?_,by simpa using n1,fun j x v hx hv=>?_⟩ (fun b hb=>hb) (fun j hj=>hj.elim)
  ·rw[g2];simp only[he]
  ·rw[List.getElem?_map]at hx;obtain⟨p,hp,rfl⟩:=Option.map_eq_some_iff.1 hx;have hv':(ces.toList.map (·.val))[j]?=some v:=by simpa using hv
   rw[List.getElem?_map]at hv';obtain⟨ce,hce,rfl⟩:=Option.map_eq_some_iff.1 hv';exact(n2 j p ce hp hce).2
theorem thaw_wk(e:Env){i mb:Nat}{l:List (ByteArray×AV)}{bs:List Nat}{clock:Nat}(hf:FrzOk l bs clock)(hi:e.h[i]?=some (frzO mb l bs clock)):Wk E e ⟨e.t,e.h.set i (.map (qb5 l))⟩:=fun c a w s k=>by
 obtain⟨g1,vs,g2,g3,g4⟩:=s.hs.obj i _ hi;have hvl:vs.toList.length=l.length:=by simpa using g3
 have hE:RelE c l (qdg l bs vs.toList):=by
  refine⟨entsOf_len l bs _ hf.len hvl,fun j p ce hp hc=>?_⟩;have hj:=(List.getElem?_eq_some_iff.1 hp).1;rw[entsOf_get hf.len hvl j hj]at hc;have hpj:l[j]=p:=(List.getElem?_eq_some_iff.1 hp).2;cases hc;rw[hpj];refine⟨⟨rfl,hf.str p (List.mem_of_getElem? hp)⟩,g4 j p.2 _ (by rw[List.getElem?_map,hp];rfl) ?_⟩;rw[←Array.getElem?_toList,List.getElem?_eq_getElem]
 obtain⟨e1,e2⟩:=of_relE (ces:=(qdg l bs vs.toList).toArray) (by simpa using hE);have hbn:=entsOf_born hf.len hvl;obtain⟨s1,k1⟩:=obj_repl s.hs k hi (o':=.map (qb5 l)) ⟨mb,_,clock,g1,g2,e1,e2,⟨fun e he=>by
  have:e.born∈(qdg l bs vs.toList).map (·.born):=List.mem_map.2 ⟨e,by simpa using he,rfl⟩
  rw[hbn]at this;exact hf.lt _ this,by
  have:=hf.nod;rw[←hbn]at this;simpa using List.pairwise_map.1 this⟩⟩ (fun b hb=>hb) (fun j hj=>hj.elim)
 exact⟨c,⟨s.defers,s.size,s.tmps,s1⟩,k1⟩
theorem rawsetM_ok{E:Ent}{c:Ctx}{h:qab}{w:World}(s:HSim c h w)(k:E.ok c h w){i b:Nat}{f f':Array Value→Obj}{xs:List AV}{o0':Obj}{p0:Obj}
  (hi:h[i]?=some (.raw b f xs)) (hb:c.blk i=some b) (hh:w.heap[b]?=some p0) (hR:∃vs:Array Value,o0'=f' vs∧vs.size=xs.length∧∀(j:Nat) (x:AV) (v:Value),xs[j]?=some x→vs[j]?=some v→Rel c x v) :
  HSim c (h.set i (.raw b f' xs)) { w with heap:=w.heap.setIfInBounds b o0' }∧E.ok c (h.set i (.raw b f' xs)) { w with heap:=w.heap.setIfInBounds b o0' }:=by
 have hlt:b<w.heap.size:=(Array.getElem?_eq_some_iff.1 hh).1;have hoth:∀g,g≠b→({ w with heap:=w.heap.setIfInBounds b o0' }:World).heap[g]?=w.heap[g]?:=fun g hg=>(heap_set hh).2 g hg;have hbo:qag c i (.raw b f xs)=some b:=hb;have hsize:({ w with heap:=w.heap.setIfInBounds b o0' }:World).heap.size=w.heap.size:=by simp
 have holt:∀j o b',(h.set i (.raw b f' xs))[j]?=some o→qag c j o=some b'→∃o0,h[j]?=some o0∧qag c j o0=some b':=fun j o b' hj hb'=>by
  rcases qad hj with⟨rfl,rfl⟩|⟨hne,h1⟩
  ·exact⟨_,hi,hb'⟩
  ·exact⟨o,h1,hb'⟩
 constructor
 ·refine⟨fun g j v hD=>?_,fun j hj=>s.dom j (by simpa using hj),fun j o hj=>?_,fun j j' o o' b' hj hj' hb1 hb2=>?_,fun j o b' m v hj hb1 hD=>?_⟩
  ·have hg:g≠b:=fun e=>by
    subst e;exact s.sep i _ g j v hi hbo hD
   rw[World.cell?_of_block (w:=w) (hoth g hg)];exact s.data g j v hD
  ·rcases qad hj with⟨rfl,rfl⟩|⟨hne,h1⟩
   ·obtain⟨vs,rfl,r1,r2⟩:=hR;exact⟨hb,vs,(heap_set hh).1,r1,r2⟩
   ·refine(s.obj j o h1).keep (.refl c) (fun _=>rfl) fun b' hb'=>hoth b' fun e=>hne ?_;subst e;exact s.apart j i o _ b' h1 hi hb' hbo
  ·obtain⟨o1,h1,h1'⟩:=holt j o b' hj hb1;obtain⟨o2,h2,h2'⟩:=holt j' o' b' hj' hb2;exact s.apart j j' o1 o2 b' h1 h2 h1' h2'
  ·rcases qad hj with⟨rfl,rfl⟩|⟨hne,h1⟩
   ·have:=s.sep j (.raw b f xs) b' m v hi hb1 hD;exact this
   ·exact s.sep j o b' m v h1 hb1 hD
 ·refine⟨k.edom,k.ext,k.blk0,by simpa using k.len,k.os,k.tape,k.output,by rw[hsize];exact k.size,fun g hg hno=>?_,fun j o b' hj hb1=>?_,k.dold⟩
  ·have hne:g≠b:=fun e=>by
    subst e;rcases k.newobj i _ g hi hbo with⟨o0,h0,h1⟩|h2
    ·exact hno i o0 h0 h1
    ·omega
   rw[hoth g hne];exact k.frame g hg hno
  ·obtain⟨o1,h1,h1'⟩:=holt j o b' hj hb1;exact k.newobj j o1 b' h1 h1'
theorem newrawM_ok{E:Ent}{c:Ctx}{h:qab}{w:World}(s:HSim c h w)(k:E.ok c h w)(o:Obj) :
  ∃c',c.le c'∧HSim c' (h++[.raw w.heap.size (fun _=>o) []]) (w.alloc o)∧E.ok c' (h++[.raw w.heap.size (fun _=>o) []]) (w.alloc o)∧c'.blk h.length=some w.heap.size:=by
 have hw:∀b,b<w.heap.size→(w.alloc o).heap[b]?=w.heap[b]?:=fun b hb=>by first|exact heap_alloc_old w _ b hb|exact heap_alloc_old w _ hb
 have s1:HSim c h (w.alloc o):=s.ext hw (.refl c) (fun _ _=>rfl) (fun _ _ _ h=>.inl h) s.dom;have k1:E.ok c h (w.alloc o):=k.ext' s hw (.refl c) (fun _=>rfl) rfl rfl rfl (alloc_le w _) (fun _ _ _ h=>.inl h);have hle:c.le (c.addBlk h.length w.heap.size):=Ctx.addBlk_le (s.dom h.length (Nat.le_refl _)).1;have hblk:(c.addBlk h.length w.heap.size).blk h.length=some w.heap.size:=by simp[Ctx.addBlk]
 have hb:∀b',qag (c.addBlk h.length w.heap.size) h.length (.raw w.heap.size (fun _=>o) [])=some b'→b'=w.heap.size:=fun b' hb'=>by
  simp only[qag,hblk,Option.some.injEq]at hb';exact hb'.symm
 exact⟨_,hle,s1.push (s.fresh (Nat.le_refl _)) (s.noD (Nat.le_refl _)) ⟨hblk,#[],heap_alloc_new w _,rfl,fun j x v hx _=>by simp at hx⟩ hb,k1.push s1 k.size hb,hblk⟩
theorem aops_rangeM{ops:Array Oper}{rest:List Oper}{o1:Oper}{Q:AExit→Env→Prop}{e:Env}{T kt et i:Nat}{x:Operand}{l:List (ByteArray×AV)}(g1:o1.guard=none)(hd:qee E.N o1.dst)(hop:o1.op=.range T x)(hT:qah P T=.map kt et)
  (hx:qaw e true [x]) (hxe:e.getS x=.mapr i) (hi:e.h[i]?=some (.map (qb5 l)))
  (hk:∀mb bs clock g,FrzOk l bs clock→AOps P E ops rest Q (({ e with h:=e.h.set i (frzO mb l bs clock)++[itO g mb clock [] clock] }:Env).put o1.dst (.ptr e.h.length 0))):AOps P E ops (o1::rest) Q e:=fun c a w s k=>by
 obtain⟨mb,bs,clock,hf,hb,s1,k1⟩:=freeze_ok (E:=E) s.hs k hi;have hr:=qbe s hx x (by simp);rw[hxe]at hr;obtain⟨b,hav,hb2⟩:=mapr_inv hr;rw[hb]at hb2;cases hb2;have hi1:(e.h.set i (frzO mb l bs clock))[i]?=some (frzO mb l bs clock):=List.getElem?_set_self (List.getElem?_eq_some_iff.1 hi).1;obtain⟨_,vs,g2,_,_⟩:=s1.obj i _ hi1;have hrun:=run_range_map (P:=P) w T kt et mb _ clock (map_und hT) g2;obtain⟨c',hle,s2,k2,hblk⟩:=newrawM_ok s1 k1 (.mapIter (some mb) clock #[] clock);refine qdq (G:=true) (by simp[Region.wanted,g1]) (fun _=>?_) (fun h=>by cases h);refine qb1 (w':=w.alloc (.mapIter (some mb) clock #[] clock)) (v:=.pointer (some ⟨w.heap.size,0,none⟩)) (by simp only[execOp,hop,hav,Sem.run_bind,hrun,Sem.run_pure,Result.andThen_ok]) ?_;have hlen:(e.h.set i (frzO mb l bs clock)).length=e.h.length:=by simp
 rw[hlen]at hblk;exact hk mb bs clock w.heap.size hf c' _ _ (s.put (h':=e.h.set i (frzO mb l bs clock)++[itO w.heap.size mb clock [] clock]) hle s2 (dst_lt hd) (.ptr _ _ _ hblk)) (by cases o1.dst<;>exact k2)
theorem aops_nextM{ops:Array Oper}{rest:List Oper}{o1:Oper}{Q:AExit→Env→Prop}{e:Env}{i k0 mb g since c0 clock:Nat}{x:Operand}{l:List (ByteArray×AV)}{bs seen:List Nat}(g1:o1.guard=none)(hd:qee E.N o1.dst)(hop:o1.op=.next x false)
  (hx:qaw e true [x]) (hxe:e.getS x=.ptr k0 0) (hf:FrzOk l bs clock) (hi:e.h[i]?=some (frzO mb l bs clock)) (hk0:e.h[k0]?=some (itO g mb since seen c0)) (hs:∀b,b∈bs→b<since) (hsc:since≤c0)
  (h0:(∀b,b∈bs→b∈seen)→AOps P E ops rest Q (e.put o1.dst (.tuple [.val (.bool false)])))
  (h1:∀(j:Nat) (hj:j<l.length) (hb:j<bs.length),bs[j]∉seen→AOps P E ops rest Q (({ e with h:=e.h.set k0 (itO g mb since (seen++[bs[j]]) clock) }:Env).put o1.dst (.tuple [.val (.bool true),.val (.string l[j].1),l[j].2]))):AOps P E ops (o1::rest) Q e:=fun c a w s k=>by
 have hr:=qbe s hx x (by simp);rw[hxe]at hr;obtain⟨g',hav,hg'⟩:=ptr_inv hr;obtain⟨q1,us,q2,_,_⟩:=s.hs.obj k0 _ hk0;rw[q1]at hg';cases hg';obtain⟨m1,vs,m2,m3,m4⟩:=s.hs.obj i _ hi;have hvl:vs.toList.length=l.length:=by simpa using m3
 refine qdq (G:=true) (by simp[Region.wanted,g1]) (fun _=>?_) (fun h=>by cases h);rcases run_next_at (P:=P) w o1.type g mb since c0 seen.toArray (qdg l bs vs.toList).toArray clock q2 m2 (fun z hz=>by
   obtain⟨j,hj,rfl⟩:=entsOf_mem hf.len hvl (by simpa using hz);exact hs _ (List.getElem_mem _)) hsc with⟨hn,hrun⟩|⟨z,hz,w1,hw1,hrun⟩
 ·refine qb1 (w':=w) (v:=.tuple #[.bool false]) (by simp only[execOp,hop,hav,Sem.run_bind,hrun,Sem.run_pure,Result.andThen_ok]) ?_;refine h0 (fun b hb=>?_) c _ w (s.put (h':=e.h) (.refl c) s.hs (dst_lt hd) (.tuple _ _ (by simp) fun j y v hy hv=>?_)) (by cases o1.dst<;>exact k)
  ·obtain⟨j,hj,rfl⟩:=List.mem_iff_getElem.1 hb;have hjl:j<l.length:=by rw[←hf.len];exact hj
   refine Classical.byContradiction fun hno=>?_;have hm:(⟨.string l[j].1,vs.toList[j],bs[j]⟩:MapEntry)∈(leftOf (qdg l bs vs.toList).toArray seen.toArray).toList:=by
    unfold leftOf;rw[Array.toList_filter];exact List.mem_filter.2 ⟨List.mem_of_getElem? (entsOf_get hf.len hvl j hjl),by simp[hno]⟩
   have h3:=List.length_pos_of_mem hm;rw[Array.length_toList]at h3;omega
  ·match j with
   | 0=>simp at hy hv;subst hy;subst hv;exact .val _
   |j+1=>simp at hy
 ·have hz2:z∈qdg l bs vs.toList∧z.born∉seen:=by
   unfold leftOf at hz;rw[Array.toList_filter]at hz;have:=List.mem_filter.1 hz;simpa using this
  obtain⟨j,hj,rfl⟩:=entsOf_mem hf.len hvl hz2.1;have hjb:j<bs.length:=by rw[hf.len];exact hj
  have hw1h:w1.heap=w.heap:=by rcases hw1 with rfl|rfl<;>rfl
  have s1:HSim c e.h w1:=s.hs.ext (fun b _=>by rw[hw1h]) (.refl c) (fun _ _=>rfl) (fun _ _ _ h=>.inl h) s.hs.dom;have k1:E.ok c e.h w1:=k.ext' s.hs (fun b _=>by rw[hw1h]) (.refl c) (fun _=>rfl) (by rcases hw1 with rfl|rfl<;>rfl) (by rcases hw1 with rfl|rfl<;>rfl) (by rcases hw1 with rfl|rfl<;>rfl) (by rw[hw1h];exact Nat.le_refl _) (fun _ _ _ h=>.inl h);have q3:w1.heap[g]?=some (.mapIter (some mb) since seen.toArray c0):=by rw[hw1h];exact q2
  obtain⟨s2,k2⟩:=rawsetM_ok s1 k1 (f':=fun _=>.mapIter (some mb) since (seen++[bs[j]]).toArray clock) (o0':=.mapIter (some mb) since (seen.toArray.push bs[j]) clock) hk0 q1 q3 ⟨#[],by simp,rfl,fun j x v hx _=>by simp at hx⟩;refine qb1 (w':=setBlock w1 g (.mapIter (some mb) since (seen.toArray.push bs[j]) clock)) (v:=.tuple #[.bool true,.string l[j].1,vs.toList[j]]) (by simp only[execOp,hop,hav,Sem.run_bind,hrun,Sem.run_pure,Result.andThen_ok]) ?_;refine h1 j hj hjb hz2.2 c _ _ (s.put (h':=e.h.set k0 (itO g mb since (seen++[bs[j]]) clock)) (.refl c) s2 (dst_lt hd) (.tuple _ _ (by simp) fun n y v hy hv=>?_)) (by cases o1.dst<;>exact k2)
  match n with
  | 0=>simp at hy hv;subst hy;subst hv;exact .val _
  | 1=>simp at hy hv;subst hy;subst hv;exact .val _ (hf.str _ (List.getElem_mem hj))
  | 2 =>
   simp at hy hv;subst hy;subst hv;exact m4 j _ _ (by rw[List.getElem?_map,List.getElem?_eq_getElem hj];rfl) (by simp)
  |n+3=>simp at hy
theorem aops_entryM{ops:Array Oper}{rest:List Oper}{o1:Oper}{Q:AExit→Env→Prop}{e:Env}{i k0 mb g since clock:Nat}{x:Operand}{l:List (ByteArray×AV)}{bs seen:List Nat}(g1:o1.guard=none)(hd:qee E.N o1.dst)(hop:o1.op=.entry x)
  (hx:qaw e true [x]) (hxe:e.getS x=.ptr k0 0) (hf:FrzOk l bs clock) (hi:e.h[i]?=some (frzO mb l bs clock)) (j:Nat) (hj:j<l.length) (hjb:j<bs.length) (hk0:e.h[k0]?=some (itO g mb since (seen++[bs[j]]) clock))
  (h1:AOps P E ops rest Q (e.put o1.dst (.tuple [.val (.string l[j].1),l[j].2]))):AOps P E ops (o1::rest) Q e:=fun c a w s k=>by
 have hr:=qbe s hx x (by simp);rw[hxe]at hr;obtain⟨g',hav,hg'⟩:=ptr_inv hr;obtain⟨q1,us,q2,_,_⟩:=s.hs.obj k0 _ hk0;rw[q1]at hg';cases hg';obtain⟨m1,vs,m2,m3,m4⟩:=s.hs.obj i _ hi;have hvl:vs.toList.length=l.length:=by simpa using m3
 have hmem:(⟨.string l[j].1,vs.toList[j],bs[j]⟩:MapEntry)∈qdg l bs vs.toList:=List.mem_of_getElem? (entsOf_get hf.len hvl j hj);have hrun:=run_entry_at (P:=P) w g mb since seen.toArray (qdg l bs vs.toList).toArray clock ⟨.string l[j].1,vs.toList[j],bs[j]⟩ (by rw[q2];simp) m2 (by simpa using hmem) (by simpa[entsOf_born hf.len hvl]using hf.nod);refine qdq (G:=true) (by simp[Region.wanted,g1]) (fun _=>?_) (fun h=>by cases h);refine qb1 (w':=w) (v:=.tuple #[.string l[j].1,vs.toList[j]]) (by simp only[execOp,hop,hav,Sem.run_bind,hrun,Sem.run_pure,Result.andThen_ok]) ?_;refine h1 c _ w (s.put (h':=e.h) (.refl c) s.hs (dst_lt hd) (.tuple _ _ (by simp) fun n y v hy hv=>?_)) (by cases o1.dst<;>exact k)
 match n with
 | 0=>simp at hy hv;subst hy;subst hv;exact .val _ (hf.str _ (List.getElem_mem hj))
 | 1 =>
  simp at hy hv;subst hy;subst hv;exact m4 j _ _ (by rw[List.getElem?_map,List.getElem?_eq_getElem hj];rfl) (by simp)
 |n+2=>simp at hy
end
end Go.Abs

namespace Go.Abs
theorem len_lt:∀(n:Nat) (l:List Nat),l.Nodup→(∀x,x∈l→x<n)→l.length≤n
 | 0,l,_,h=>by
  cases l with
  |nil=>simp
  |cons x l=>exact absurd (h x (by simp)) (by omega)
 |n+1,l,hn,h=>by
  by_cases hm:n∈l
  ·have:=len_lt n (l.erase n) (hn.erase n) fun x hx=>by
    have h1:=h x (List.mem_of_mem_erase hx);have h2:x≠n:=fun e=>by subst e;exact(List.Nodup.not_mem_erase hn) hx
    omega
   rw[List.length_erase_of_mem hm]at this;omega
  ·have:=len_lt n l hn fun x hx=>by
    have h1:=h x hx;have h2:x≠n:=fun e=>hm (e▸hx);omega
   omega
def wkZ(t:List (Nat×AV)):List (Nat×AV)→Prop
 | []=>True
 |(i,x)::l=>(qbb t i).Wk x∧wkZ t l
theorem wkZ.look{t:List (Nat×AV)}:∀{l:List (Nat×AV)},wkZ t l→∀i,(qbb t i).Wk (qbb l i)
 | [],_,i=>.top _
 |(j,x)::l,h,i=>by
  by_cases hj:j=i
  ·subst hj;simp only[qbb,beq_self_eq_true,cond_true];exact h.1
  ·have:(j == i)=false:=by simpa using hj
   simp only[qbb,this,cond_false];exact wkZ.look h.2 i
theorem Wk.same{E:Ent}{t t1:List (Nat×AV)}{h h1:qab}(e:h=h1)(ht:wkZ t t1):Wk E ⟨t,h⟩ ⟨t1,h1⟩:=by
 subst e;exact fun c a w s o=>⟨c,⟨s.defers,s.size,fun i=>ht.look i c _ (s.tmps i),s.hs⟩,o⟩
section
variable {P:Program} {E:Ent}
theorem awp_mloop{bid r3 sN d t:Nat}{ty1 ty2:TypeId}{p1 p2:String}{a1 a2:Array Edge}{body:Code}{Q:AExit→Env→Prop}{e:Env}{l:List (ByteArray×AV)}{bs:List Nat}{mb g clock i k0:Nat}(hf:FrzOk l bs clock)(S:List Nat→Env)
  (hd:d<E.N) (ht:t<E.N) (hdt:d≠t) (hS:∀js,qbb (S js).t sN=.ptr k0 0∧(S js).h[i]?=some (frzO mb l bs clock)∧(S js).h[k0]?=some (itO g mb clock (js.map fun j=>bs.getD j 0) clock)) (hw:Wk E e (S []))
  (hend:∀js,js.Perm (List.range l.length)→Q .normal (((S js).put (some d) (.tuple [.val (.bool false)])).put (some t) (.val (.bool false))))
  (hbody:∀(js:List Nat) (j:Nat) (hj:j<l.length),js.Nodup→(∀x,x∈js→x<l.length)→j∉js→AWp P E body (AExit.then (fun e'=>Wk E e' (S (js++[j]))) (AExit.inBlock bid Q))
   (((⟨(S js).t,(S js).h.set k0 (itO g mb clock ((js++[j]).map fun j=>bs.getD j 0) clock)⟩:Env).put (some d) (.tuple [.val (.bool true),.val (.string l[j].1),l[j].2])).put (some t) (.val (.bool true)))) :
  AWp P E (.block bid (.loop (.seq (.region r3 #[{ dst:=some d,op:=.next (.tmp sN) false,type:=ty1,pos:=p1,after:=a1,guard:=none },{ dst:=some t,op:=.extract (.tmp d) 0,type:=ty2,pos:=p2,after:=a2,guard:=none }] false) (.seq (.cond (.tmp t) .skip (.exit bid)) body)))) Q e:=by
 refine awp_block (awp_loop (ι:=List Nat) (fun js=>js.Nodup∧∀x,x∈js→x<l.length) S (fun js=>l.length - js.length) [] ⟨List.nodup_nil,by simp⟩ hw ?_);rintro js ⟨hn,hlt⟩;obtain⟨s1,s2,s3⟩:=hS js;have hbj:∀j (hj:j<l.length),bs.getD j 0=bs[j]'(by rw[hf.len];exact hj):=fun j hj=>by rw[List.getD_eq_getElem?_getD,List.getElem?_eq_getElem (by rw[hf.len];exact hj)];rfl
 have hmem:∀j (hj:j<l.length),bs[j]'(by rw[hf.len];exact hj)∈(js.map fun j=>bs.getD j 0)↔j∈js:=fun j hj=>by
  rw[List.mem_map];constructor
  ·rintro⟨x,hx,e⟩;rw[hbj x (hlt x hx)]at e;have:=(List.getElem_inj hf.nod).1 e;exact this▸hx
  ·intro hx;exact⟨j,hx,hbj j hj⟩
 refine qbj (qd7 ?_);refine aops_nextM rfl hd rfl (by simp[go_sem,s1]) (by simp[go_sem,s1]) hf s2 s3 hf.lt (Nat.le_refl _) (fun hall=>?_) (fun j hj hb hns=>?_)
 ·refine qc9 [_] [_] _ rfl ?_;simp[go_sem,ht];refine qbj (awp_cond (b:=false) (by simp[go_sem]) (fun h=>by cases h) (fun _=>awp_exit ?_));have hp:js.Perm (List.range l.length):=(List.perm_ext_iff_of_nodup hn List.nodup_range).2 fun a=>by
   rw[List.mem_range];refine⟨hlt a,fun ha=>?_⟩;exact(hmem a ha).1 (hall _ (List.getElem_mem _))
  have:=hend js hp;simp[go_sem]at this;simpa[AExit.then,AExit.inBlock]using this
 ·have hns':j∉js:=fun h=>hns ((hmem j hj).2 h);have hms:(js.map fun j=>bs.getD j 0)++[bs[j]]=(js++[j]).map fun j=>bs.getD j 0:=by rw[List.map_append,List.map_cons,List.map_nil,hbj j hj]
  rw[hms];refine qc9 [_] [_] _ rfl ?_;simp[go_sem,ht];have hb2:=hbody js j hj hn hlt hns';simp[go_sem]at hb2;refine qbj (awp_cond (b:=true) (by simp[go_sem]) (fun _=>awp_skip (hb2.mono fun x e' hx=>?_)) (fun h=>by cases h));cases x with
  |normal =>
   refine⟨js++[j],⟨List.nodup_append.2 ⟨hn,by simp,fun a ha b hb=>by simp at hb;subst hb;rintro rfl;exact hns' ha⟩,fun x hx=>?_⟩,?_,by simpa[AExit.then]using hx⟩
   ·rcases List.mem_append.1 hx with hx|hx
    ·exact hlt x hx
    ·rw[List.mem_singleton.1 hx];exact hj
   ·have hlen:js.length<l.length:=by
     have hsub:=len_lt l.length (js++[j]) (List.nodup_append.2 ⟨hn,by simp,fun a ha b hb=>by simp at hb;subst hb;rintro rfl;exact hns' ha⟩) (fun x hx=>by
      rcases List.mem_append.1 hx with hx|hx
      ·exact hlt x hx
      ·rw[List.mem_singleton.1 hx];exact hj)
     rw[List.length_append,List.length_singleton]at hsub;omega
    simp only[List.length_append,List.length_singleton];omega
  |_=>simpa[AExit.then]using hx
end
end Go.Abs
