/- Part 2 of a proof: AbsC, AbsCn, AbsD -/
import Derived.ChangeKeysEq
import Derived.Test.YtilhejdbiionhaaGreatDoorR01
set_option linter.all false

namespace Go.Abs
theorem ObjR.lt{c:Ctx}{w:World}{i:Nat}{o:AObj}(k:ObjR c w i o){b:Nat}(hb:qag c i o=some b):b<w.heap.size:=by
 cases o with
 |none=>simp[qag]at hb
 |cells xs =>
  obtain⟨b',vs,T,h1,h2,_⟩:=k;simp only[qag,h1,Option.some.injEq]at hb;subst hb;exact(Array.getElem?_eq_some_iff.1 h2).1
 |map es =>
  obtain⟨b',vs,T,h1,h2,_⟩:=k;simp only[qag,h1,Option.some.injEq]at hb;subst hb;exact(Array.getElem?_eq_some_iff.1 h2).1
 |iter s pos =>
  obtain⟨b',h1,h2⟩:=k;simp only[qag,h1,Option.some.injEq]at hb;subst hb;exact(Array.getElem?_eq_some_iff.1 h2).1
 |raw g f xs =>
  obtain⟨h1,vs,h2,_⟩:=k;simp only[qag,h1,Option.some.injEq]at hb;subst hb;exact(Array.getElem?_eq_some_iff.1 h2).1
 |arr e sz rows =>
  obtain⟨v,vs,h1,_,_,h2,_⟩:=k;simp only[qag,h1,Option.bind_some]at hb;exact(h2.lt b hb).2
 |uarr e sz rows =>
  obtain⟨v,vs,h1,_,_,h2,_⟩:=k;simp only[qag,h1,Option.bind_some]at hb;exact(h2.lt b hb).2
 |oarr e sz rows =>
  obtain⟨v,vs,h1,_,_,h2,_⟩:=k;simp only[qag,h1,Option.bind_some]at hb;exact(h2.lt b hb).2
theorem ObjR.blk{c c':Ctx}{w:World}{i:Nat}{o:AObj}(k:ObjR c w i o)(hc:c.le c'):qag c' i o=qag c i o:=by
 cases o with
 |none=>rfl
 |cells xs=>obtain⟨b',vs,T,h1,h2,_⟩:=k;simp[qag,h1,hc.blk _ _ h1]
 |map es=>obtain⟨b',vs,T,h1,h2,_⟩:=k;simp[qag,h1,hc.blk _ _ h1]
 |iter s pos=>obtain⟨b',h1,h2⟩:=k;simp[qag,h1,hc.blk _ _ h1]
 |raw g f xs=>obtain⟨h1,h2⟩:=k;simp[qag,h1,hc.blk _ _ h1]
 |arr e sz rows=>obtain⟨v,vs,h1,_⟩:=k;simp[qag,h1,hc.sl _ _ _ h1]
 |uarr e sz rows=>obtain⟨v,vs,h1,_⟩:=k;simp[qag,h1,hc.sl _ _ _ h1]
 |oarr e sz rows=>obtain⟨v,vs,h1,_⟩:=k;simp[qag,h1,hc.sl _ _ _ h1]
theorem ObjR.keep{c c':Ctx}{w w':World}{i:Nat}{o:AObj}(k:ObjR c w i o)(hc:c.le c')(hsl:∀m,c'.sl i m=c.sl i m)(hw:∀b,qag c i o=some b→w'.heap[b]?=w.heap[b]?):ObjR c' w' i o:=by
 cases o with
 |none=>trivial
 |cells xs =>
  obtain⟨b',vs,T,h1,h2,h3,h4⟩:=k;exact⟨b',vs,T,hc.blk _ _ h1,by rw[hw b' (by simp[qag,h1]),h2],h3,fun j x v hx hv=>⟨(h4 j x v hx hv).1.mono hc,(h4 j x v hx hv).2⟩⟩
 |map es =>
  obtain⟨b',ces,clock,h1,h2,h3,h4,h5⟩:=k;exact⟨b',ces,clock,hc.blk _ _ h1,by rw[hw b' (by simp[qag,h1]),h2],h3,fun j k x ce hx hv=>⟨(h4 j k x ce hx hv).1.mono hc,(h4 j k x ce hx hv).2.mono hc⟩,h5⟩
 |iter s pos =>
  obtain⟨b',h1,h2⟩:=k;exact⟨b',hc.blk _ _ h1,by rw[hw b' (by simp[qag,h1]),h2]⟩
 |raw g f xs =>
  obtain⟨h1,vs,h2,h3,h4⟩:=k;exact⟨hc.blk _ _ h1,vs,by rw[hw g (by simp[qag,h1]),h2],h3,fun j x v hx hv=>(h4 j x v hx hv).mono hc⟩
 |arr e sz rows =>
  obtain⟨v,vs,h1,ho,hm,h2,h3,h4,h5,h6⟩:=k;refine⟨v,vs,hc.sl _ _ _ h1,ho,fun m hm'=>by rw[hsl,hm m hm'],⟨h2.1,?_⟩,h3,h4,fun i' j r x hr hx=>?_,fun b j hb hj=>(h6 b j hb hj).imp fun u hu=>hc.D _ _ _ hu⟩
  ·rcases h2.2 with hn|⟨g,cap,cur,hv,hg,hh,rest⟩
   ·exact .inl hn
   ·exact .inr ⟨g,cap,cur,hv,hg,by rw[hw g (by simp[qag,h1,hv,Value.ownBlock]),hh],rest⟩
  ·obtain⟨u,hu,hd⟩:=h5 i' j r x hr hx;exact⟨u,hu,hd.mono hc.D⟩
 |uarr e sz rows =>
  obtain⟨v,vs,h1,ho,hm,h2,h3,h4,h5⟩:=k;refine⟨v,vs,hc.sl _ _ _ h1,ho,fun m hm'=>by rw[hsl,hm m hm'],⟨h2.1,?_⟩,h3,h4,fun i' j r x hr hx=>?_⟩
  ·rcases h2.2 with hn|⟨g,cap,cur,hv,hg,hh,rest⟩
   ·exact .inl hn
   ·exact .inr ⟨g,cap,cur,hv,hg,by rw[hw g (by simp[qag,h1,hv,Value.ownBlock]),hh],rest⟩
  ·obtain⟨u,hu,hd⟩:=h5 i' j r x hr hx;exact⟨u,hu,hd.mono hc.D⟩
 |oarr e sz rows =>
  obtain⟨v,vs,h1,ho,hm,h2,h3,h4,h5⟩:=k;refine⟨v,vs,hc.sl _ _ _ h1,ho,fun m hm'=>by rw[hsl,hm m hm'],⟨h2.1,?_⟩,h3,h4,fun i' j r x hr hx=>?_⟩
  ·rcases h2.2 with hn|⟨g,cap,cur,hv,hg,hh,rest⟩
   ·exact .inl hn
   ·exact .inr ⟨g,cap,cur,hv,hg,by rw[hw g (by simp[qag,h1,hv,Value.ownBlock]),hh],rest⟩
  ·obtain⟨u,hu,hd,ho1⟩:=h5 i' j r x hr hx;exact⟨u,hu,hd.mono hc,ho1⟩
theorem HSim.ext{c c':Ctx}{h:qab}{w w':World}(s:HSim c h w)(hw:∀b,b<w.heap.size→w'.heap[b]?=w.heap[b]?)(hc:c.le c')(hsl:∀i m,c'.sl i m=c.sl i m)
  (hD:∀b j v,c'.D b j=some v→c.D b j=some v∨(w.heap.size≤b∧w'.cell? ⟨b,j,none⟩=some v))
  (hdom:∀i,h.length≤i→c'.blk i=none∧∀m,c'.sl i m=none):HSim c' h w' where
 data:=fun b j v hv=>by
  rcases hD b j v hv with h1|h1
  ·have h2:=s.data b j v h1;have hb:b<w.heap.size:=World.block_lt_of_cell? w ⟨b,j,none⟩ h2;rw[World.cell?_of_block (w:=w) (hw b hb)];exact h2
  ·exact h1.2
 dom:=hdom
 obj:=fun i o ho=>(s.obj i o ho).keep hc (hsl i) fun b hb=>hw b ((s.obj i o ho).lt hb)
 apart:=fun i j o o' b hi hj hb hb'=>by
  rw[(s.obj i o hi).blk hc]at hb;rw[(s.obj j o' hj).blk hc]at hb';exact s.apart i j o o' b hi hj hb hb'
 sep:=fun i o b j v hi hb hv=>by
  rw[(s.obj i o hi).blk hc]at hb;rcases hD b j v hv with h1|h1
  ·exact s.sep i o b j v hi hb h1
  ·have:=(s.obj i o hi).lt hb;omega
theorem Ent.ok.ext'{E:Ent}{c c':Ctx}{h:qab}{w w':World}(k:E.ok c h w)(s:HSim c h w)(hw:∀b,b<w.heap.size→w'.heap[b]?=w.heap[b]?)(hc:c.le c')(hbk:∀n,c'.blk n=c.blk n)
  (hos:w'.os=w.os) (ht:w'.tape=w.tape) (hou:w'.output=w.output) (hsz:w.heap.size≤w'.heap.size)
  (hDo:∀b j v,c'.D b j=some v→c.D b j=some v∨w.heap.size≤b∨∃i o,h[i]?=some o∧qag c i o=some b):E.ok c' h w' where
 edom:=k.edom
 ext:=k.ext.trans hc
 blk0:=fun n hn=>(hbk n).trans (k.blk0 n hn)
 len:=k.len
 os:=hos.trans k.os
 tape:=ht.trans k.tape
 output:=hou.trans k.output
 size:=Nat.le_trans k.size hsz
 frame:=fun b hb hno=>(hw b (Nat.lt_of_lt_of_le hb k.size)).trans (k.frame b hb hno)
 newobj:=fun i o b hi hb=>by
  rw[(s.obj i o hi).blk hc]at hb;exact k.newobj i o b hi hb
 dold:=fun b j v hD=>by
  rcases hDo b j v hD with h|h|⟨i,o,h1,h2⟩
  ·exact k.dold b j v h
  ·exact .inr (.inl (Nat.le_trans k.size h))
  ·rcases k.newobj i o b h1 h2 with⟨o0,g0,g1⟩|g
   ·exact .inr (.inr ⟨i,o0,g0,g1⟩)
   ·exact .inr (.inl g)
def Ctx.addBlk(c:Ctx)(n b:Nat):Ctx:={ c with blk:=fun i=>if i=n then some b else c.blk i }
theorem Ctx.addBlk_le{c:Ctx}{n b:Nat}(h:c.blk n=none):c.le (c.addBlk n b) :=
 ⟨fun _ _ _ h=>h,fun i b' hb=>by
  simp only[Ctx.addBlk];split
  ·rename_i hi;rw[hi,h]at hb;cases hb
  ·exact hb,fun _ _ _ h=>h⟩
theorem qav{α:Type}{l:List α}{x y:α}{i:Nat}(h:(l++[x])[i]?=some y):l[i]?=some y∨(i=l.length∧y=x):=by
 rw[List.getElem?_append]at h;split at h
 ·exact .inl h
 ·rename_i hi;have:i - l.length=0:=by
   rcases Nat.eq_zero_or_pos (i - l.length)with h'|h'
   ·exact h'
   ·rw[List.getElem?_eq_none (by simp;omega)]at h;cases h
  rw[this]at h;simp at h;exact .inr ⟨by omega,h.symm⟩
theorem HSim.push{c:Ctx}{h:qab}{w:World}(s:HSim c h w){b:Nat}{o:AObj}(hfresh:∀i o,h[i]?=some o→qag c i o≠some b)(hnoD:∀j,c.D b j=none)
  (hobj:ObjR (c.addBlk h.length b) w h.length o) (hb:∀b',qag (c.addBlk h.length b) h.length o=some b'→b'=b):HSim (c.addBlk h.length b) (h++[o]) w where
 data:=s.data
 dom:=fun i hi=>by
  simp only[List.length_append,List.length_cons,List.length_nil]at hi;have:=s.dom i (by omega);refine⟨?_,this.2⟩;simp only[Ctx.addBlk];rw[if_neg (by omega)];exact this.1
 obj:=fun i p hp=>by
  rcases qav hp with h1|⟨rfl,rfl⟩
  ·exact(s.obj i p h1).keep (Ctx.addBlk_le (s.dom _ (Nat.le_refl _)).1) (fun _=>rfl) fun _ _=>rfl
  ·exact hobj
 apart:=fun i j p q b' hi hj hbi hbj=>by
  have hle:=Ctx.addBlk_le (b:=b) (s.dom _ (Nat.le_refl h.length)).1;rcases qav hi with h1|⟨rfl,rfl⟩<;>rcases qav hj with h2|⟨rfl,rfl⟩
  ·rw[(s.obj i p h1).blk hle]at hbi;rw[(s.obj j q h2).blk hle]at hbj;exact s.apart i j p q b' h1 h2 hbi hbj
  ·rw[(s.obj i p h1).blk hle]at hbi;have:=hb b' hbj;subst this;exact(hfresh i p h1 hbi).elim
  ·rw[(s.obj j q h2).blk hle]at hbj;have:=hb b' hbi;subst this;exact(hfresh j q h2 hbj).elim
  ·rfl
 sep:=fun i p b' j v hi hbi hD=>by
  have hle:=Ctx.addBlk_le (b:=b) (s.dom _ (Nat.le_refl h.length)).1;rcases qav hi with h1|⟨rfl,rfl⟩
  ·rw[(s.obj i p h1).blk hle]at hbi;exact s.sep i p b' j v h1 hbi hD
  ·have:=hb b' hbi;subst this;have hD':c.D b' j=some v:=hD;rw[hnoD j]at hD';cases hD'
theorem Ent.ok.push{E:Ent}{c:Ctx}{h:qab}{w:World}(k:E.ok c h w)(s:HSim c h w){b:Nat}{o:AObj}(hE:E.w.heap.size≤b)
  (hb:∀b',qag (c.addBlk h.length b) h.length o=some b'→b'=b):E.ok (c.addBlk h.length b) (h++[o]) w where
 edom:=k.edom
 ext:=k.ext.trans (Ctx.addBlk_le (s.dom _ (Nat.le_refl _)).1)
 blk0:=fun n hn=>by
  have:=k.len;simp only[Ctx.addBlk];rw[if_neg (by omega)];exact k.blk0 n hn
 len:=by have:=k.len;simp;omega
 os:=k.os
 tape:=k.tape
 output:=k.output
 size:=k.size
 frame:=k.frame
 newobj:=fun i p b' hi hbi=>by
  have hle:=Ctx.addBlk_le (b:=b) (s.dom _ (Nat.le_refl h.length)).1;rcases qav hi with h1|⟨rfl,rfl⟩
  ·rw[(s.obj i p h1).blk hle]at hbi;exact k.newobj i p b' h1 hbi
  ·have:=hb b' hbi;subst this;exact .inr hE
 dold:=k.dold
theorem HSim.noD{c:Ctx}{h:qab}{w:World}(s:HSim c h w){b:Nat}(hb:w.heap.size≤b)(j:Nat):c.D b j=none:=by
 cases hD:c.D b j with
 |none=>rfl
 |some v=>have:b<w.heap.size:=World.block_lt_of_cell? w ⟨b,j,none⟩ (s.data b j v hD);omega
theorem HSim.fresh{c:Ctx}{h:qab}{w:World}(s:HSim c h w){b:Nat}(hb:w.heap.size≤b):∀i o,h[i]?=some o→qag c i o≠some b:=fun i o hi he=>by
 have:=(s.obj i o hi).lt he;omega
theorem alloc_le(w:World)(o:Obj):w.heap.size≤(w.alloc o).heap.size:=by
 show w.heap.size≤(w.heap.push o).size;simp
theorem alloc_ok{E:Ent}{c:Ctx}{h:qab}{w:World}(s:HSim c h w)(k:E.ok c h w){xs:List AV}{vs:Array Value}(T:TypeId)(hl:vs.size=xs.length)
  (hr:∀(j:Nat) (x:AV) (v:Value),xs[j]?=some x→vs[j]?=some v→Rel c x v∧v.oneCell'=true) :
  ∃c',c.le c'∧HSim c' (h++[.cells xs]) (w.alloc (.cells vs T))∧E.ok c' (h++[.cells xs]) (w.alloc (.cells vs T))∧c'.blk h.length=some w.heap.size:=by
 have hw:∀b,b<w.heap.size→(w.alloc (.cells vs T)).heap[b]?=w.heap[b]?:=fun b hb=>heap_alloc_old w _ b hb;have s1:HSim c h (w.alloc (.cells vs T)):=s.ext hw (.refl c) (fun _ _=>rfl) (fun _ _ _ h=>.inl h) s.dom;have k1:E.ok c h (w.alloc (.cells vs T)):=k.ext' s hw (.refl c) (fun _=>rfl) rfl rfl rfl (alloc_le w _) (fun _ _ _ h=>.inl h);have hle:c.le (c.addBlk h.length w.heap.size):=Ctx.addBlk_le (s.dom _ (Nat.le_refl _)).1;have hblk:(c.addBlk h.length w.heap.size).blk h.length=some w.heap.size:=by simp[Ctx.addBlk]
 have hb:∀b',qag (c.addBlk h.length w.heap.size) h.length (.cells xs)=some b'→b'=w.heap.size:=fun b' hb'=>by
  simp only[qag,hblk,Option.some.injEq]at hb';exact hb'.symm
 refine⟨_,hle,s1.push (s.fresh (Nat.le_refl _)) (s.noD (Nat.le_refl _)) ⟨_,vs,T,hblk,heap_alloc_new w _,hl,fun j x v hx hv=>⟨(hr j x v hx hv).1.mono hle,(hr j x v hx hv).2⟩⟩ hb,k1.push s1 (k.size) hb,hblk⟩
theorem data_ok{E:Ent}{c:Ctx}{h:qab}{w:World}(s:HSim c h w)(k:E.ok c h w)(vs:Array Value)(T:TypeId) :
  ∃c',c.le c'∧HSim c' h (w.alloc (.cells vs T))∧E.ok c' h (w.alloc (.cells vs T))∧∀(j:Nat) (v:Value),vs[j]?=some v→c'.D w.heap.size j=some v:=by
 have hw:∀b,b<w.heap.size→(w.alloc (.cells vs T)).heap[b]?=w.heap[b]?:=fun b hb=>heap_alloc_old w _ b hb
 let c':Ctx:={ c with D:=fun b j=>if b=w.heap.size then vs[j]? else c.D b j }
 have hle:c.le c':=⟨fun b j v hv=>by
  have hne:b≠w.heap.size:=fun e=>by rw[e,s.noD (Nat.le_refl _)]at hv;cases hv
  simp[c',hne,hv],fun _ _ h=>h,fun _ _ _ h=>h⟩
 refine⟨c',hle,s.ext hw hle (fun _ _=>rfl) (fun b j v hv=>?_) s.dom,k.ext' s hw hle (fun _=>rfl) rfl rfl rfl (alloc_le w _) (fun b j v hv=>by
  by_cases hb:b=w.heap.size
  ·exact .inr (.inl (by omega))
  ·exact .inl (by simpa[c',hb]using hv)),fun j v hv=>by simp[c',hv]⟩
 by_cases hb:b=w.heap.size
 ·subst hb;simp only[c',if_true]at hv;refine .inr ⟨Nat.le_refl _,?_⟩;rw[cell_of_row _ _ j vs T (0,0) (heap_alloc_new w _)];exact hv
 ·simp only[c',hb,if_false]at hv;exact .inl hv
theorem qad{α:Type}{l:List α}{i j:Nat}{x y:α}(h:(l.set i x)[j]?=some y):(j=i∧y=x)∨(j≠i∧l[j]?=some y):=by
 rw[List.getElem?_set]at h;split at h
 ·rename_i hij;split at h
  ·simp at h;exact .inl ⟨hij.symm,h.symm⟩
  ·cases h
 ·rename_i hij;exact .inr ⟨fun e=>hij e.symm,h⟩
theorem store_ok{E:Ent}{c:Ctx}{h:qab}{w:World}(s:HSim c h w)(k:E.ok c h w){i b:Nat}{xs xs':List AV}{vs vs':Array Value}{T:TypeId}
  (hi:h[i]?=some (.cells xs)) (hb:c.blk i=some b) (hh:w.heap[b]?=some (.cells vs T (0,0))) (hl:vs'.size=xs'.length)
  (hr:∀(j:Nat) (x:AV) (v:Value),xs'[j]?=some x→vs'[j]?=some v→Rel c x v∧v.oneCell'=true) :
  HSim c (h.set i (.cells xs')) (w.setRow b vs')∧E.ok c (h.set i (.cells xs')) (w.setRow b vs'):=by
 have hoth:∀g,g≠b→(w.setRow b vs').heap[g]?=w.heap[g]?:=fun g hg=>setRow_other w b g vs' hg;have hbo:qag c i (.cells xs)=some b:=hb;have hsize:(w.setRow b vs').heap.size=w.heap.size:=by simp[World.setRow]
 have holt:∀j o b',(h.set i (.cells xs'))[j]?=some o→qag c j o=some b'→∃o0,h[j]?=some o0∧qag c j o0=some b':=fun j o b' hj hb'=>by
  rcases qad hj with⟨rfl,rfl⟩|⟨hne,h1⟩
  ·exact⟨_,hi,hb'⟩
  ·exact⟨o,h1,hb'⟩
 constructor
 ·refine⟨fun g j v hD=>?_,fun j hj=>s.dom j (by simpa using hj),fun j o hj=>?_,fun j j' o o' b' hj hj' hb1 hb2=>?_,fun j o b' m v hj hb1 hD=>?_⟩
  ·have hg:g≠b:=fun e=>by
    subst e;exact s.sep i _ g j v hi hbo hD
   rw[World.cell?_of_block (w:=w) (hoth g hg)];exact s.data g j v hD
  ·rcases qad hj with⟨rfl,rfl⟩|⟨hne,h1⟩
   ·exact⟨b,vs',T,hb,setRow_heap w b vs vs' T (0,0) hh,hl,hr⟩
   ·refine(s.obj j o h1).keep (.refl c) (fun _=>rfl) fun b' hb'=>hoth b' fun e=>hne ?_;subst e;exact s.apart j i o _ b' h1 hi hb' hbo
  ·obtain⟨o1,h1,h1'⟩:=holt j o b' hj hb1;obtain⟨o2,h2,h2'⟩:=holt j' o' b' hj' hb2;exact s.apart j j' o1 o2 b' h1 h2 h1' h2'
  ·rcases qad hj with⟨rfl,rfl⟩|⟨hne,h1⟩
   ·have:=s.sep j (.cells xs) b' m v hi hb1 hD;exact this
   ·exact s.sep j o b' m v h1 hb1 hD
 ·refine⟨k.edom,k.ext,k.blk0,by simpa using k.len,k.os,k.tape,k.output,by rw[hsize];exact k.size,fun g hg hno=>?_,fun j o b' hj hb1=>?_,k.dold⟩
  ·have hne:g≠b:=fun e=>by
    subst e;rcases k.newobj i _ g hi hbo with⟨o0,h0,h1⟩|h2
    ·exact hno i o0 h0 h1
    ·omega
   rw[hoth g hne];exact k.frame g hg hno
  ·obtain⟨o1,h1,h1'⟩:=holt j o b' hj hb1;exact k.newobj j o1 b' h1 h1'
end Go.Abs

namespace Go.Abs
mutual
def AV.norm(h:qab):AV→AV
 | .nils=>.slice []
 | .own i n=>match h[i]? with
  |some (.arr _ _ rows)=>if rows.length=n then .slice rows else .own i n
  |_=>.own i n
 | .agg xs=>.agg (qbi h xs)
 | .tuple xs=>.tuple (qbi h xs)
 | .iface t v=>.iface t (v.norm h)
 | .opt g v=>.opt g v
 | .top=>.top
 | .val v=>.val v
 | .slice r=>.slice r
 | .ptr i o=>.ptr i o
 | .eptr c=>.eptr c
 | .lit c=>.lit c
 | .mapr i=>.mapr i
 | .fn f a b=>.fn f a b
 | .optr i n sz r q=>.optr i n sz r q
def qbi(h:qab):List AV→List AV
 | []=>[]
 |x::xs=>x.norm h::qbi h xs
end
theorem normL_eq(h:qab):∀xs,qbi h xs=xs.map (AV.norm h)
 | []=>rfl
 |x::xs=>by simp[qbi,normL_eq h xs]
def Ctx.share(c:Ctx)(_:qab)(_:World):Ctx:=c
theorem share_le(c:Ctx)(h:qab)(w:World):c.le (c.share h w):=.refl c
theorem share_ok{E:Ent}{c:Ctx}{h:qab}{w:World}(s:HSim c h w)(k:E.ok c h w):HSim (c.share h w) h w∧E.ok (c.share h w) h w:=⟨s,k⟩
theorem own_data{c:Ctx}{h:qab}{w:World}(s:HSim c h w){i:Nat}{e sz:Nat}{rows:List (List AV)}(hi:h[i]?=some (.arr e sz rows)){v:Value}(hv:c.sl i rows.length=some v) :
  DRel (c.share h w).D (.slice rows) v:=by
 obtain⟨v',vs,h1,ho,_,h2,h3,h4,h5,h6⟩:=s.obj i _ hi;rw[hv]at h1;cases h1;rcases h2.2 with⟨rfl,hn⟩|⟨g,cap,cur,rfl,hg,hh,hnc,hcm,hcs,htake⟩
 ·have:rows=[]:=List.eq_nil_of_length_eq_zero hn;subst this;exact .nil
 ·have hcell:∀(i' j:Nat) (r:List AV) (x:AV),rows[i']?=some r→r[j]?=some x→∃u,vs[i' * sz+j]?=some u∧DRel c.D x u∧(c.share h w).D g (0+i' * sz+j)=some u:=by
   intro i' j r x hr hx;obtain⟨u,hu,hd⟩:=h5 i' j r x hr hx;have hrl:=h4 r (List.mem_of_getElem? hr);have hj:j<sz:=by rw[←hrl];exact(List.getElem?_eq_some_iff.1 hx).1
   have hi':i'<rows.length:=(List.getElem?_eq_some_iff.1 hr).1;have hlt:i' * sz+j<rows.length * sz:=by
    have:(i'+1) * sz≤rows.length * sz:=Nat.mul_le_mul_right _ hi';rw[Nat.add_mul]at this;omega
   refine⟨u,hu,hd,?_⟩;rw[Nat.zero_add];obtain⟨u',hu'⟩:=h6 g (i' * sz+j) rfl hlt;have hw:=s.data _ _ _ hu';rw[cell_of_row w g _ cur e (0,0) hh]at hw;rw[←htake,List.getElem?_take,if_pos hlt]at hu;have:u'=u:=by
    rw[Array.getElem?_toList]at hu;rw[hu]at hw;exact(Option.some.inj hw).symm
   rw[←this];exact hu'
  exact .slice rows g 0 cap sz (fun i' j=>(vs[i' * sz+j]?).getD undef) h4 h3 hnc (fun i' j r x hr hx=>by
   obtain⟨u,hu,hd,hD⟩:=hcell i' j r x hr hx;rw[hu];exact hD) fun i' j r x hr hx=>by
   obtain⟨u,hu,hd,hD⟩:=hcell i' j r x hr hx;rw[hu];exact hd.mono (share_le c h w).D
theorem norm_rel{c:Ctx}{h:qab}{w:World}(s:HSim c h w){x:AV}{v:Value}(hr:Rel c x v):Rel (c.share h w) (x.norm h) v:=by
 have hle:=share_le c h w
 induction hr with
 |data hd =>
  cases hd with
  |val _ _ hs=>exact Rel.val _ hs
  |nil=>exact .data .nil
  |empty a=>exact .data (.empty a)
  |slice rows b off cap sz g hsz hB hc hD hh=>exact(Rel.data (.slice rows b off cap sz g hsz hB hc hD hh)).mono hle
 |top v=>exact .top v
 |val v hs=>exact .val v hs
 |nils=>exact .data .nil
 |agg xs vs hl ho h ih =>
  simp only[AV.norm,normL_eq];refine .agg _ vs (by simp[hl]) ho fun j x v hx hv=>?_;simp only[List.getElem?_map,Option.map_eq_some_iff]at hx;obtain⟨y,hy,rfl⟩:=hx;exact ih j y v hy hv
 |tuple xs vs hl h ih =>
  simp only[AV.norm,normL_eq];refine .tuple _ vs (by simp[hl]) fun j x v hx hv=>?_;simp only[List.getElem?_map,Option.map_eq_some_iff]at hx;obtain⟨y,hy,rfl⟩:=hx;exact ih j y v hy hv
 |ptr i off b h=>exact .ptr i off b h
 |eptr cells b o g hD h=>exact(Rel.eptr cells b o g hD h).mono hle
 |lit cells b o cap g hD h ho=>exact(Rel.lit cells b o cap g hD h ho).mono hle
 |mapr i b h=>exact .mapr i b h
 |fn f ys xs us vs hl' hl h' h ih' ih=>exact(Rel.fn f ys xs us vs hl' hl h' h).mono hle
 |iface t x v h ih=>exact .iface t _ v ih
 |own i n v hv ho =>
  simp only[AV.norm];split
  ·rename_i e sz rows hi;split
   ·rename_i hn;subst hn;exact .data (own_data s hi hv)
   ·exact(Rel.own i n v hv ho).mono hle
  ·exact(Rel.own i n v hv ho).mono hle
 |opt g x v h hn ih=>exact(Rel.opt g x v h hn).mono hle
 |optr i n sz r q b o len cap h=>exact .optr i n sz r q b o len cap h
end Go.Abs

namespace Go.Abs
inductive TK where
 |other
 |bool
 |int (k:IntKind)
 |string
 |struct (fs:List (Nat×Nat))
 |array (n e sz:Nat)
 |slice (e sz:Nat)
 |map (k e:Nat)
 |iface
 |ptr
 |func
structure TI where
 size:Nat
 bytes:Nat
 zero:List AV
 kind:TK
def qbd(P:Program):TypeDesc→TK
 | .bool=>.bool
 | .int k=>.int k
 | .string=>.string
 | .struct fs=>if fs.toList.all fun f=>(P.info? f.type).isSome then .struct (fs.toList.map fun f=>(f.offset,P.cellsOf f.type))else .other
 | .array n e=>if (P.info? e).isSome then .array n e (P.cellsOf e)else .other
 | .slice e=>if (P.info? e).isSome then .slice e (P.cellsOf e)else .other
 | .map k e=>.map k e
 | .interface _=>.iface
 | .pointer _=>.ptr
 | .func _ _ _=>.func
 |_=>.other
def ti(P:Program)(t:TypeId):Option TI :=
 match P.info? t,P.underlying t with
 |some i,some d=>match i.zero with
  |some z=>if z.cells.size=i.size∧z.cells.toList.all (·.oneCell')=true then some ⟨i.size,i.bytes,z.cells.toList.map liftC,qbd P d⟩else none
  |none=>none
 |_,_=>none
theorem ti_spec{P:Program}{t:TypeId}{x:TI}(h:ti P t=some x) :
  ∃i d z,P.info? t=some i∧P.underlying t=some d∧i.zero=some z∧x=⟨i.size,i.bytes,z.cells.toList.map liftC,qbd P d⟩∧z.cells.size=i.size∧∀v,v∈z.cells.toList→v.oneCell'=true:=by
 unfold ti at h;split at h
 ·rename_i i d hi hd;split at h
  ·rename_i z hz;split at h
   ·rename_i hc;exact⟨i,d,z,hi,hd,hz,by simpa using h.symm,hc.1,List.all_eq_true.1 hc.2⟩
   ·cases h
  ·cases h
 ·cases h
def TK.agg:TK→Bool
 | .struct _| .array ..=>true
 |_=>false
def qah(P:Program)(t:TypeId):TK:=match ti P t with|some x=>x.kind|none=>.other
def qat(P:Program)(t:TypeId):Nat:=match ti P t with|some x=>x.size|none=>0
def qba(P:Program)(t:TypeId):List AV:=match ti P t with|some x=>x.zero|none=>[]
structure SV where
 side:Prop
 val:AV
def SV.no:SV:=⟨False,.top⟩
def aInt(op:BinOp)(k:IntKind)(a b:Int):SV :=
 match op with
 | .add=>⟨True,.val (.int k (k.wrap (a+b)))⟩
 | .sub=>⟨True,.val (.int k (k.wrap (a - b)))⟩
 | .mul=>⟨True,.val (.int k (k.wrap (a * b)))⟩
 | .quo=>⟨b≠0,.val (.int k (k.wrap (a.tdiv b)))⟩
 | .rem=>⟨b≠0,.val (.int k (a.tmod b))⟩
 | .eql=>⟨True,.val (.bool (decide (a=b)))⟩
 | .neq=>⟨True,.val (.bool (!decide (a=b)))⟩
 | .lss=>⟨True,.val (.bool (decide (a<b)))⟩
 | .leq=>⟨True,.val (.bool (decide (a≤b)))⟩
 | .gtr=>⟨True,.val (.bool (decide (b<a)))⟩
 | .geq=>⟨True,.val (.bool (decide (b≤a)))⟩
 | .and=>⟨True,.val (.int k (k.wrap (BitVec.ofInt k.bits a &&& BitVec.ofInt k.bits b).toNat))⟩
 | .or=>⟨True,.val (.int k (k.wrap (BitVec.ofInt k.bits a ||| BitVec.ofInt k.bits b).toNat))⟩
 | .xor=>⟨True,.val (.int k (k.wrap (BitVec.ofInt k.bits a ^^^ BitVec.ofInt k.bits b).toNat))⟩
 | .andNot=>⟨True,.val (.int k (k.wrap (BitVec.ofInt k.bits a &&& ~~~ BitVec.ofInt k.bits b).toNat))⟩
 |_=>.no
def sLt(a b:ByteArray):Bool:=Op.bytesLess a.toList b.toList
def aStr(op:BinOp)(a b:ByteArray):SV :=
 match op with
 | .add=>⟨a.size+b.size≤68719476736,.val (.string (a++b))⟩
 | .eql=>⟨True,.val (.bool (decide (a=b)))⟩
 | .neq=>⟨True,.val (.bool (!decide (a=b)))⟩
 | .lss=>⟨True,.val (.bool (sLt a b))⟩
 | .leq=>⟨True,.val (.bool (sLt a b||decide (a=b)))⟩
 | .gtr=>⟨True,.val (.bool (!(sLt a b||decide (a=b))))⟩
 | .geq=>⟨True,.val (.bool (!(sLt a b)))⟩
 |_=>.no
def flatFields(g:TypeId→Option (List TK))(P:Program):Nat→List Field→Option (List TK)
 |_,[]=>some []
 |off,f::fs =>
  if f.name≠ "_"∧f.offset=off then
   match g f.type with
   |some ks=>if ks.length=P.cellsOf f.type then(flatFields g P (off+ks.length) fs).map (ks++·)else none
   |none=>none
  else none
def flatEq(P:Program):Nat→TypeId→Option (List TK)
 | 0,_=>none
 |d+1,t =>
  match P.underlying t with
  |some .bool=>some [.bool]
  |some (.int k)=>some [.int k]
  |some .string=>some [.string]
  |some (.struct fs)=>if P.stoodInHeld t=true then none else flatFields (flatEq P d) P 0 fs.toList
  |_=>none
def flatOf(P:Program)(t:TypeId):List TK :=
 if P.eqGuardType P.depth t=false∧(qah P t).agg=true then(flatEq P 8 t).getD []else []
def fitA:List TK→List AV→Prop
 | [],[]=>True
 | .bool::ks,.val (.bool _)::xs=>fitA ks xs
 | .int k::ks,.val (.int k' _)::xs=>k'=k∧fitA ks xs
 | .string::ks,.val (.string _)::xs=>fitA ks xs
 |_,_=>False
def eqA:List AV→List AV→Bool
 | [],[]=>true
 | .val (.bool a)::xs,.val (.bool b)::ys=>decide (a=b)&&eqA xs ys
 | .val (.int _ a)::xs,.val (.int _ b)::ys=>decide (a=b)&&eqA xs ys
 | .val (.string a)::xs,.val (.string b)::ys=>decide (a=b)&&eqA xs ys
 |_,_=>false
def anyT(P:Program)(t:TypeId):Bool :=
 match P.underlying t with
 |some (.interface ms)=>ms.isEmpty
 |_=>false
def aBin(P:Program)(op:BinOp)(T:TypeId)(x y:AV):SV :=
 match x,y with
 | .val (.int k a),.val (.int k' b) =>
  match op with
  | .shl=>⟨0≤b,.val (.int k (k.wrap (a * 2 ^ (min b.toNat k.bits))))⟩
  | .shr=>⟨0≤b,.val (.int k (a.fdiv (2 ^ (min b.toNat k.bits))))⟩
  |op=>⟨k=k'∧(aInt op k a b).side,(aInt op k a b).val⟩
 | .val (.string a),.val (.string b)=>aStr op a b
 | .val (.bool a),.val (.bool b) =>
  match op with
  | .eql=>⟨qah P T=.bool,.val (.bool (decide (a=b)))⟩
  | .neq=>⟨qah P T=.bool,.val (.bool (!decide (a=b)))⟩
  |_=>.no
 | .agg xs,.agg ys =>
  match op with
  | .eql=>⟨flatOf P T≠[]∧fitA (flatOf P T) xs∧fitA (flatOf P T) ys,.val (.bool (eqA xs ys))⟩
  | .neq=>⟨flatOf P T≠[]∧fitA (flatOf P T) xs∧fitA (flatOf P T) ys,.val (.bool (!eqA xs ys))⟩
  |_=>.no
 | .iface _ _,.val .nilIface =>
  match op with
  | .eql=>⟨qah P T=.iface,.val (.bool false)⟩
  | .neq=>⟨qah P T=.iface,.val (.bool true)⟩
  |_=>.no
 | .val .nilIface,.val .nilIface =>
  match op with
  | .eql=>⟨anyT P T=true,.val (.bool true)⟩
  | .neq=>⟨anyT P T=true,.val (.bool false)⟩
  |_=>.no
 |_,_=>.no
def aLoad(s:Nat)(agg:Bool)(cells:List AV):SV :=
 match agg with
 |true=>⟨s≤cells.length,.agg (cells.take s)⟩
 |false=>⟨0<cells.length,cells.getD 0 .top⟩
def aLoadAt(P:Program)(t:TypeId)(a:AV)(h:qab):SV :=
 match a with
 | .ptr i off=>match h[i]? with
  |some (.cells xs)=>⟨(aLoad (qat P t) (qah P t).agg (xs.drop off)).side∧qah P t≠.other,(aLoad (qat P t) (qah P t).agg (xs.drop off)).val⟩
  |_=>.no
 | .eptr cells=>⟨(aLoad (qat P t) (qah P t).agg cells).side∧qah P t≠.other,(aLoad (qat P t) (qah P t).agg cells).val⟩
 | .optr i n sz r q=>match h[i]? with
  |some (.uarr _ sz' rows)=>⟨rows.length=n∧sz'=sz∧r<rows.length∧(aLoad (qat P t) (qah P t).agg ((rows.getD r []).drop q)).side∧qah P t≠.other,(aLoad (qat P t) (qah P t).agg ((rows.getD r []).drop q)).val⟩
  |some (.oarr _ sz' rows)=>⟨rows.length=n∧sz'=sz∧r<rows.length∧(aLoad (qat P t) (qah P t).agg ((rows.getD r []).drop q)).side∧qah P t≠.other,(aLoad (qat P t) (qah P t).agg ((rows.getD r []).drop q)).val⟩
  |_=>.no
 |_=>.no
def aField(P:Program)(s f:Nat):Option (Nat×Nat) :=
 match qah P s with
 | .struct fs=>match fs[f]? with
  |some (o,n)=>if n=0 then none else some (o,n)
  |none=>none
 |_=>none
def AV.cells:AV→List AV
 | .agg xs=>xs
 |y=>[y]
def AV.one:AV→Bool
 | .val v=>v.oneCell'
 | .nils| .slice _| .ptr .. | .eptr _| .mapr _| .fn .. | .iface .. | .own .. | .optr ..=>true
 |_=>false
def AV.cellsOk:AV→Bool
 | .agg _=>true
 |y=>y.one
def fillL(fs:List (Nat×Nat)):List (Nat×AV)→List AV→Option (List AV)
 | [],cells=>some cells
 |(i,x)::rest,cells =>
  match fs[i]? with
  |some (o,n)=>if x.cellsOk=true∧x.cells.length=n∧o+n≤cells.length then fillL fs rest (cells.take o++x.cells++cells.drop (o+n))else none
  |none=>none
def places(P:Program)(t:TypeId):List (Nat×Nat) :=
 match qah P t with
 | .struct fs=>fs
 | .array n _ sz=>(List.range n).map fun i=>(i * sz,sz)
 |_=>[]
def byteAt(s:ByteArray)(n:Int):UInt8:=s.data.toList.getD n.toNat 0
def qd8(P:Program)(T:TypeId)(x i:AV)(h:qab):SV :=
 match qah P T,x,i with
 | .slice _ sz,.slice rows,.val (.int _ n)=>⟨0≤n∧n.toNat<rows.length∧(rows.getD n.toNat []).length=sz∧0<sz,.eptr (rows.getD n.toNat [])⟩
 | .array len _ sz,.ptr o off,.val (.int _ n)=>⟨0≤n∧n.toNat<len∧0<sz,.ptr o (off+n.toNat * sz)⟩
 | .array len _ sz,.eptr cells,.val (.int _ n)=>⟨0≤n∧n.toNat<len∧0<sz,.eptr (cells.drop (n.toNat * sz))⟩
 | .array len _ sz,.optr o m sz' r q,.val (.int _ n)=>⟨0≤n∧n.toNat<len∧0<sz,.optr o m sz' r (q+n.toNat * sz)⟩
 | .slice _ sz,.own o m,.val (.int _ n)=>match h[o]? with
  |some (.uarr _ sz' rows)=>⟨rows.length=m∧sz'=sz∧0≤n∧n.toNat<rows.length∧0<sz,.optr o m sz n.toNat 0⟩
  |some (.oarr _ sz' rows)=>⟨rows.length=m∧sz'=sz∧0≤n∧n.toNat<rows.length∧0<sz,.optr o m sz n.toNat 0⟩
  |_=>.no
 |_,_,_=>.no
def aIndex(P:Program)(T:TypeId)(x i:AV):SV :=
 match qah P T,x,i with
 | .string,.val (.string s),.val (.int _ n)=>⟨0≤n∧n.toNat<s.size,.val (.int .u8 (byteAt s n).toNat)⟩
 | .array len e sz,.agg cs,.val (.int _ n)=>⟨0≤n∧n.toNat<len∧n.toNat<cs.length∧sz=1∧qah P e≠.other∧(qah P e).agg=false,cs.getD n.toNat .top⟩
 |_,_,_=>.no
def aLen(P:Program)(T:TypeId)(x:AV)(h:qab):SV :=
 match qah P T,x with
 | .slice ..,.slice rows=>⟨True,.val (.int .i64 rows.length)⟩
 | .slice ..,.nils=>⟨True,.val (.int .i64 0)⟩
 | .slice ..,.own o m=>match h[o]? with
  |some (.uarr _ _ rows)=>⟨rows.length=m,.val (.int .i64 rows.length)⟩
  |some (.oarr _ _ rows)=>⟨rows.length=m,.val (.int .i64 rows.length)⟩
  |_=>.no
 | .string,.val (.string s)=>⟨True,.val (.int .i64 s.size)⟩
 | .array n _ _,_=>⟨True,.val (.int .i64 n)⟩
 | .map ..,.mapr i=>match h[i]? with
  |some (.map es)=>⟨True,.val (.int .i64 es.length)⟩
  |_=>.no
 |_,_=>.no
def boundAV(d:Int):Option AV→Option Int
 |none=>some d
 |some (.val (.int _ n))=>some n
 |some _=>none
def RowsLen(sz:Nat)(rows:List (List AV)):Prop:=∀r,r∈rows→r.length=sz
def aSlice(P:Program)(T:TypeId)(x:AV)(lo hi mx:Option AV):SV :=
 match mx with
 |some _=>.no
 |none =>
  match qah P T,x with
  | .slice _ sz,.slice rows =>
   match boundAV 0 lo,boundAV rows.length hi with
   |some l,some h=>⟨0≤l∧l≤h∧h≤rows.length∧RowsLen sz rows,.slice ((rows.take h.toNat).drop l.toNat)⟩
   |_,_=>.no
  | .string,.val (.string s) =>
   match boundAV 0 lo,boundAV s.size hi with
   |some l,some h=>⟨0≤l∧l≤h∧h≤s.size,.val (.string (s.extract l.toNat h.toNat))⟩
   |_,_=>.no
  |_,_=>.no
def strKeys:List (AV×AV)→Option (List (ByteArray×AV))
 | []=>some []
 |(.val (.string s),v)::l=>(strKeys l).map ((s,v)::·)
 |_=>none
def qb5(l:List (ByteArray×AV)):List (AV×AV):=l.map fun p=>(.val (.string p.1),p.2)
def kvGet:List (ByteArray×AV)→ByteArray→Option AV
 | [],_=>none
 |p::l,s=>if p.1=s then some p.2 else kvGet l s
def kvSet:List (ByteArray×AV)→ByteArray→AV→List (ByteArray×AV)
 | [],s,v=>[(s,v)]
 |p::l,s,v=>if p.1=s then(s,v)::l else p::kvSet l s v
def kvDel:List (ByteArray×AV)→ByteArray→List (ByteArray×AV)
 | [],_=>[]
 |p::l,s=>if p.1=s then l else p::kvDel l s
def zeroAV(P:Program)(e:TypeId):Option AV :=
 match P.info? e with
 |some i=>match i.zero with
  |some (.agg vs)=>if vs.toList.all (·.oneCell')=true then some (.agg (vs.toList.map liftC))else none
  |some z=>some (liftC z)
  |none=>none
 |none=>none
def aLookup(P:Program)(T:TypeId)(x i:AV)(ok:Bool)(h:qab):SV :=
 match qah P T,x,i with
 | .map k e,.mapr o,.val (.string s)=>match h[o]? with
  |some (.map es)=>match strKeys es,zeroAV P e with
   |some l,some z=>⟨qah P k=.string,match ok with
    |true=>.tuple [(kvGet l s).getD z,.val (.bool (kvGet l s).isSome)]
    |false=>(kvGet l s).getD z⟩
   |_,_=>.no
  |_=>.no
 |_,_,_=>.no
def aMin(x y:AV):SV :=
 match x,y with
 | .val (.int k a),.val (.int k' b)=>⟨k=k',.val (.int k (if b<a then b else a))⟩
 |_,_=>.no
def aMin3(x y z:AV):SV :=
 match x,y,z with
 | .val (.int k a),.val (.int k' b),.val (.int k2 c)=>⟨k=k'∧k=k2,.val (.int k (if c<(if b<a then b else a)then c else(if b<a then b else a)))⟩
 |_,_,_=>.no
def aMax(x y:AV):SV :=
 match x,y with
 | .val (.int k a),.val (.int k' b)=>⟨k=k',.val (.int k (if a<b then b else a))⟩
 |_,_=>.no
def byteSl(P:Program)(src:TypeId):Prop:=match qah P src with| .slice e sz=>sz=1∧qah P e=.int .u8|_=>False
def aConv(P:Program)(src dst:TypeId)(x:AV):SV :=
 match qah P dst,x with
 | .int k,.val (.int _ n)=>⟨qah P src≠.other,.val (.int k (k.wrap n))⟩
 | .string,.val (.string s)=>⟨qah P src≠.other,.val (.string s)⟩
 | .string,.slice [[.val (.int .u8 n)]]=>⟨byteSl P src,.val (.string ⟨#[UInt8.ofNat n.toNat]⟩)⟩
 |_,_=>.no
def aAssert(P:Program)(dst:TypeId)(ok:Bool)(x:AV):SV :=
 match x,ok with
 | .iface t v,true=>match t == dst with
  |true=>⟨qah P dst≠.iface∧qah P dst≠.other,.tuple [v,.val (.bool true)]⟩
  |false=>match zeroAV P dst with
   |some z=>⟨qah P dst≠.iface∧qah P dst≠.other,.tuple [z,.val (.bool false)]⟩
   |none=>.no
 | .iface t v,false=>⟨t=dst∧qah P dst≠.iface∧qah P dst≠.other,v⟩
 | .val .nilIface,true=>match zeroAV P dst with
  |some z=>⟨qah P dst≠.iface∧qah P dst≠.other,.tuple [z,.val (.bool false)]⟩
  |none=>.no
 |_,_=>.no
def aFieldK(P:Program)(s f:Nat):Option (Nat×TypeId) :=
 match P.underlying s with
 |some (.struct fs)=>(fs[f]?).map fun d=>(d.offset,d.type)
 |_=>none
def qbp(P:Program)(g:Operand→AV)(h:qab):Op→SV
 | .move x| .assign x=>⟨True,g x⟩
 | .build t parts =>
  match fillL (places P t) (parts.toList.map fun p=>(p.1,g p.2)) (qba P t)with
  |some cells=>⟨(qah P t).agg=true,.agg cells⟩
  |none=>.no
 | .load t a=>aLoadAt P t (g a) h
 | .nilCheck x =>
  match g x with
  | .ptr i o=>⟨True,.ptr i o⟩
  | .eptr c=>⟨True,.eptr c⟩
  | .optr i n sz r q=>⟨True,.optr i n sz r q⟩
  | .fn (.func f) a c=>⟨True,.fn (.func f) a c⟩
  |_=>.no
 | .binOp op T x y _=>aBin P op T (g x) (g y)
 | .unOp .not _ x=>match g x with
  | .val (.bool b)=>⟨True,.val (.bool (!b))⟩
  |_=>.no
 | .unOp .neg _ x=>match g x with
  | .val (.int k n)=>⟨True,.val (.int k (k.wrap (0 - n)))⟩
  |_=>.no
 | .convert src dst x=>aConv P src dst (g x)
 | .makeInterface T x=>⟨qah P T≠.iface∧qah P T≠.other,.iface T (g x)⟩
 | .makeFunc f first caps=>⟨True,.fn f (first.toList.map g) (caps.toList.map g)⟩
 | .fieldAddr s x f =>
  match aField P s f,g x with
  |some (o,_),.ptr i off=>⟨True,.ptr i (off+o)⟩
  |some (o,_),.eptr cells=>⟨True,.eptr (cells.drop o)⟩
  |some (o,_),.optr i n sz r q=>⟨True,.optr i n sz r (q+o)⟩
  |_,_=>.no
 | .indexAddr T x i=>qd8 P T ((g x).norm h) (g i) h
 | .field s x f =>
  match aFieldK P s f,g x with
  |some (o,t),.agg cs=>⟨o<cs.length∧qah P t≠.other∧(qah P t).agg=false,cs.getD o .top⟩
  |_,_=>.no
 | .index T x i=>aIndex P T (g x) (g i)
 | .lookup T x i ok=>aLookup P T (g x) (g i) ok h
 | .typeAssert x _ dst ok=>aAssert P dst ok (g x)
 | .extract x n =>
  match g x with
  | .tuple vs=>⟨n<vs.length,vs.getD n .top⟩
  |_=>.no
 | .slice T x lo hi mx=>aSlice P T ((g x).norm h) (lo.map g) (hi.map g) (mx.map g)
 | .call { callee:=.builtin .len,args,argTypes }=>match args.toList,argTypes.toList with
  | [x],[T]=>aLen P T ((g x).norm h) h
  |_,_=>.no
 | .call { callee:=.builtin .min,args,.. }=>match args.toList with
  | [x,y]=>aMin (g x) (g y)
  | [x,y,z]=>aMin3 (g x) (g y) (g z)
  |_=>.no
 | .call { callee:=.builtin .max,args,.. }=>match args.toList with
  | [x,y]=>aMax (g x) (g y)
  |_=>.no
 |_=>.no
end Go.Abs
