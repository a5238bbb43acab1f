/- Part 2 of a proof. -/
import Derived.ChangeKeysEq
import Derived.Test.YtbimdamecieomaaGreatDoorR01
set_option linter.all false
namespace Go.Abs
theorem ObjR.lt{c:Ctx}{w:World}{i:Nat}{o:AObj}(k:ObjR c w i o){b:Nat}(hb:jb c i o=some b):b<w.heap.size:=by
 cases o with
 |none=>simp[jb]at hb
 |cells xs =>
  obtain⟨b',vs,T,h1,h2,_⟩:=k;simp only[jb,h1,d7]at hb;subst hb;exact(f0.1 h2).1
 |map es =>
  obtain⟨b',vs,T,h1,h2,_⟩:=k;simp only[jb,h1,d7]at hb;subst hb;exact(f0.1 h2).1
 |iter s pos =>
  obtain⟨b',h1,h2⟩:=k;simp only[jb,h1,d7]at hb;subst hb;exact(f0.1 h2).1
 |raw g f xs =>
  obtain⟨h1,vs,h2,_⟩:=k;simp only[jb,h1,d7]at hb;subst hb;exact(f0.1 h2).1
 |arr e sz rows =>
  obtain⟨v,vs,h1,_,_,h2,_⟩:=k;simp only[jb,h1,f5]at hb;exact(h2.lt b hb).2
 |uarr e sz rows =>
  obtain⟨v,vs,h1,_,_,h2,_⟩:=k;simp only[jb,h1,f5]at hb;exact(h2.lt b hb).2
 |oarr e sz rows =>
  obtain⟨v,vs,h1,_,_,h2,_⟩:=k;simp only[jb,h1,f5]at hb;exact(h2.lt b hb).2
theorem ObjR.blk{c c':Ctx}{w:World}{i:Nat}{o:AObj}(k:ObjR c w i o)(hc:c.le c'):jb c' i o=jb c i o:=by
 cases o with
 |none=>rfl
 |cells xs=>obtain⟨b',vs,T,h1,h2,_⟩:=k;simp[jb,h1,hc.blk _ _ h1]
 |map es=>obtain⟨b',vs,T,h1,h2,_⟩:=k;simp[jb,h1,hc.blk _ _ h1]
 |iter s pos=>obtain⟨b',h1,h2⟩:=k;simp[jb,h1,hc.blk _ _ h1]
 |raw g f xs=>obtain⟨h1,h2⟩:=k;simp[jb,h1,hc.blk _ _ h1]
 |arr e sz rows=>obtain⟨v,vs,h1,_⟩:=k;simp[jb,h1,hc.sl _ _ _ h1]
 |uarr e sz rows=>obtain⟨v,vs,h1,_⟩:=k;simp[jb,h1,hc.sl _ _ _ h1]
 |oarr e sz rows=>obtain⟨v,vs,h1,_⟩:=k;simp[jb,h1,hc.sl _ _ _ h1]
theorem ObjR.keep{c c':Ctx}{w w':World}{i:Nat}{o:AObj}(k:ObjR c w i o)(hc:c.le c')(pn:∀m,c'.sl i m=c.sl i m)(hw:∀b,jb c i o=some b→w'.heap[b]?=w.heap[b]?):ObjR c' w' i o:=by
 cases o with
 |none=>trivial
 |cells xs =>
  obtain⟨b',vs,T,h1,h2,h3,h4⟩:=k;exact⟨b',vs,T,hc.blk _ _ h1,qis,h3,fun j x v hx hv=>⟨(h4 j x v hx hv).1.mono hc,(h4 j x v hx hv).2⟩⟩
 |map es =>
  obtain⟨b',lz,clock,h1,h2,h3,h4⟩:=k;exact⟨b',lz,clock,hc.blk _ _ h1,qis,h3,fun j k x ce hx hv=>⟨(h4 j k x ce hx hv).1.mono hc,(h4 j k x ce hx hv).2.mono hc⟩⟩
 |iter s pos =>
  obtain⟨b',h1,h2⟩:=k;exact⟨b',hc.blk _ _ h1,qis⟩
 |raw g f xs =>
  obtain⟨h1,vs,h2,h3,h4⟩:=k;exact⟨hc.blk _ _ h1,vs,by rw[hw g qki,h2],h3,fun j x v hx hv=>(h4 j x v hx hv).mono hc⟩
 |arr e sz rows =>
  obtain⟨v,vs,h1,ho,hm,h2,h3,h4,h5,h6⟩:=k;refine⟨v,vs,hc.sl _ _ _ h1,ho,fun m pc=>by rw[pn,hm m pc],⟨h2.1,?_⟩,h3,h4,fun i' j r x hr hx=>?_,fun b j hb hj=>(h6 b j hb hj).imp fun u hu=>hc.D _ _ _ hu⟩
  ·rcases h2.2 with hn|⟨g,cap,cur,hv,hg,hh,rest⟩
   ·exact .inl hn
   ·exact .inr ⟨g,cap,cur,hv,hg,qg8,rest⟩
  ·obtain⟨u,hu,hd⟩:=h5 i' j r x hr hx;exact⟨u,hu,hd.mono hc.D⟩
 |uarr e sz rows =>
  obtain⟨v,vs,h1,ho,hm,h2,h3,h4,h5⟩:=k;refine⟨v,vs,hc.sl _ _ _ h1,ho,fun m pc=>by rw[pn,hm m pc],⟨h2.1,?_⟩,h3,h4,fun i' j r x hr hx=>?_⟩
  ·rcases h2.2 with hn|⟨g,cap,cur,hv,hg,hh,rest⟩
   ·exact .inl hn
   ·exact .inr ⟨g,cap,cur,hv,hg,qg8,rest⟩
  ·obtain⟨u,hu,hd⟩:=h5 i' j r x hr hx;exact⟨u,hu,hd.mono hc.D⟩
 |oarr e sz rows =>
  obtain⟨v,vs,h1,ho,hm,h2,h3,h4,h5⟩:=k;refine⟨v,vs,hc.sl _ _ _ h1,ho,fun m pc=>by rw[pn,hm m pc],⟨h2.1,?_⟩,h3,h4,fun i' j r x hr hx=>?_⟩
  ·rcases h2.2 with hn|⟨g,cap,cur,hv,hg,hh,rest⟩
   ·exact .inl hn
   ·exact .inr ⟨g,cap,cur,hv,hg,qg8,rest⟩
  ·obtain⟨u,hu,hd,ly⟩:=h5 i' j r x hr hx;exact⟨u,hu,hd.mono hc,ly⟩
theorem HSim.ext{c c':Ctx}{h:gz}{w w':World}(s:HSim c h w)(hw:∀b,b<w.heap.size→w'.heap[b]?=w.heap[b]?)(hc:c.le c')(pn:∀i m,c'.sl i m=c.sl i m)
  (hD:∀b j v,c'.D b j=some v→c.D b j=some v∨(w.heap.size≤b∧w'.cell? ⟨b,j,none⟩=some v))
  (hdom:∀i,h.length≤i→c'.blk i=none∧∀m,c'.sl i m=none):HSim c' h w' where
 data:=fun b j v hv=>by
  rcases hD b j v hv with h1|h1
  ·have h2:=s.data b j v h1;have hb:b<w.heap.size:=World.block_lt_of_cell? w ⟨b,j,none⟩ h2;rw[World.cell?_of_block (w:=w) (hw b hb)];exact h2
  ·exact h1.2
 dom:=hdom
 obj:=fun i o ho=>(s.obj i o ho).keep hc (pn i) fun b hb=>hw b ((s.obj i o ho).lt hb)
 apart:=fun i j o o' b hi hj hb il=>by
  rw[(s.obj i o hi).blk hc]at hb;rw[(s.obj j o' hj).blk hc]at il;exact s.apart i j o o' b hi hj hb il
 sep:=fun i o b j v hi hb hv=>by
  rw[(s.obj i o hi).blk hc]at hb;rcases hD b j v hv with h1|h1
  ·exact s.sep i o b j v hi hb h1
  ·have:=(s.obj i o hi).lt hb;omega
theorem Ent.ok.ext'{E:Ent}{c c':Ctx}{h:gz}{w w':World}(k:E.ok c h w)(s:HSim c h w)(hw:∀b,b<w.heap.size→w'.heap[b]?=w.heap[b]?)(hc:c.le c')(hbk:∀n,c'.blk n=c.blk n)
  (hos:w'.os=w.os) (ht:w'.tape=w.tape) (hou:w'.output=w.output) (jq:w.heap.size≤w'.heap.size)
  (hDo:∀b j v,c'.D b j=some v→c.D b j=some v∨w.heap.size≤b∨∃i o,h[i]?=some o∧jb c i o=some b):E.ok c' h w' where
 edom:=k.edom
 ext:=k.ext.trans hc
 blk0:=fun n hn=>(hbk n).trans (k.blk0 n hn)
 len:=k.len
 os:=hos.trans k.os
 tape:=ht.trans k.tape
 output:=hou.trans k.output
 size:=d9 k.size jq
 frame:=fun b hb iz=>(hw b (qlo hb k.size)).trans (k.frame b hb iz)
 newobj:=fun i o b hi hb=>by
  rw[(s.obj i o hi).blk hc]at hb;exact k.newobj i o b hi hb
 dold:=fun b j v hD=>by
  rcases hDo b j v hD with h|h|⟨i,o,h1,h2⟩
  ·exact k.dold b j v h
  ·exact .inr (.inl (d9 k.size h))
  ·rcases k.newobj i o b h1 h2 with⟨o0,g0,g1⟩|g
   ·exact .inr (.inr ⟨i,o0,g0,g1⟩)
   ·exact .inr (.inl g)
def Ctx.addBlk(c:Ctx)(n b:Nat):Ctx:={ c with blk:=fun i=>if i=n then some b else c.blk i }
theorem Ctx.addBlk_le{c:Ctx}{n b:Nat}(h:c.blk n=none):c.le (c.addBlk n b) :=
 ⟨fun _ _ _ h=>h,fun i b' hb=>by
  simp only[Ctx.addBlk];split
  ·rename_i hi;rw[hi,h]at hb;cases hb
  ·exact hb,fun _ _ _ h=>h⟩
theorem r4{α:Type}{l:List α}{x y:α}{i:Nat}(h:(l++[x])[i]?=some y):l[i]?=some y∨(i=l.length∧y=x):=by
 rw[List.getElem?_append]at h;split at h
 ·exact .inl h
 ·rename_i hi;have:i - l.length=0:=by
   rcases Nat.eq_zero_or_pos (i - l.length)with h'|h'
   ·exact h'
   ·rw[fa am]at h;cases h
  rw[this]at h;simp at h;exact .inr ⟨aa,h.symm⟩
theorem HSim.push{c:Ctx}{h:gz}{w:World}(s:HSim c h w){b:Nat}{o:AObj}(qrq:∀i o,h[i]?=some o→jb c i o≠some b)(qt7:∀j,c.D b j=none)
  (qw8:ObjR (c.addBlk h.length b) w h.length o) (hb:∀b',jb (c.addBlk h.length b) h.length o=some b'→b'=b):HSim (c.addBlk h.length b) (h++[o]) w where
 data:=s.data
 dom:=fun i hi=>by
  simp only[cz,d5,ee]at hi;have:=s.dom i aa;refine⟨?_,this.2⟩;simp only[Ctx.addBlk];rw[if_neg aa];exact this.1
 obj:=fun i p hp=>by
  rcases r4 hp with h1|⟨rfl,rfl⟩
  ·exact(s.obj i p h1).keep (Ctx.addBlk_le (s.dom _ (ct _)).1) (fun _=>rfl) fun _ _=>rfl
  ·exact qw8
 apart:=fun i j p q b' hi hj qi hbj=>by
  have ig:=Ctx.addBlk_le (b:=b) (s.dom _ (ct h.length)).1;rcases r4 hi with h1|⟨rfl,rfl⟩<;>rcases r4 hj with h2|⟨rfl,rfl⟩
  ·rw[(s.obj i p h1).blk ig]at qi;rw[(s.obj j q h2).blk ig]at hbj;exact s.apart i j p q b' h1 h2 qi hbj
  ·rw[(s.obj i p h1).blk ig]at qi;have:=hb b' hbj;subst this;exact(qrq i p h1 qi).elim
  ·rw[(s.obj j q h2).blk ig]at hbj;have:=hb b' qi;subst this;exact(qrq j q h2 hbj).elim
  ·rfl
 sep:=fun i p b' j v hi qi hD=>by
  have ig:=Ctx.addBlk_le (b:=b) (s.dom _ (ct h.length)).1;rcases r4 hi with h1|⟨rfl,rfl⟩
  ·rw[(s.obj i p h1).blk ig]at qi;exact s.sep i p b' j v h1 qi hD
  ·have:=hb b' qi;subst this;have o6:c.D b' j=some v:=hD;rw[qt7 j]at o6;cases o6
theorem Ent.ok.push{E:Ent}{c:Ctx}{h:gz}{w:World}(k:E.ok c h w)(s:HSim c h w){b:Nat}{o:AObj}(hE:E.w.heap.size≤b)
  (hb:∀b',jb (c.addBlk h.length b) h.length o=some b'→b'=b):E.ok (c.addBlk h.length b) (h++[o]) w where
 edom:=k.edom
 ext:=k.ext.trans (Ctx.addBlk_le (s.dom _ (ct _)).1)
 blk0:=fun n hn=>by
  have:=k.len;simp only[Ctx.addBlk];rw[if_neg aa];exact k.blk0 n hn
 len:=qf5
 os:=k.os
 tape:=k.tape
 output:=k.output
 size:=k.size
 frame:=k.frame
 newobj:=fun i p b' hi qi=>by
  have ig:=Ctx.addBlk_le (b:=b) (s.dom _ (ct h.length)).1;rcases r4 hi with h1|⟨rfl,rfl⟩
  ·rw[(s.obj i p h1).blk ig]at qi;exact k.newobj i p b' h1 qi
  ·have:=hb b' qi;subst this;exact .inr hE
 dold:=k.dold
theorem HSim.noD{c:Ctx}{h:gz}{w:World}(s:HSim c h w){b:Nat}(hb:w.heap.size≤b)(j:Nat):c.D b j=none:=by
 cases hD:c.D b j with
 |none=>rfl
 |some v=>have:b<w.heap.size:=World.block_lt_of_cell? w ⟨b,j,none⟩ (s.data b j v hD);omega
theorem HSim.fresh{c:Ctx}{h:gz}{w:World}(s:HSim c h w){b:Nat}(hb:w.heap.size≤b):∀i o,h[i]?=some o→jb c i o≠some b:=fun i o hi he=>by
 have:=(s.obj i o hi).lt he;omega
theorem qfg(w:World)(o:Obj):w.heap.size≤(w.alloc o).heap.size:=by
 show w.heap.size≤(w.heap.push o).size;simp
theorem xrc{E:Ent}{c:Ctx}{h:gz}{w:World}(s:HSim c h w)(k:E.ok c h w){xs:List AV}{vs:Array Value}(T:TypeId)(hl:vs.size=xs.length)
  (hr:∀(j:Nat) (x:AV) (v:Value),xs[j]?=some x→vs[j]?=some v→Rel c x v∧v.oneCell'=true) :
  ∃c',c.le c'∧HSim c' (h++[.cells xs]) (w.alloc (.cells vs T))∧E.ok c' (h++[.cells xs]) (w.alloc (.cells vs T))∧c'.blk h.length=some w.heap.size:=by
 have hw:∀b,b<w.heap.size→(w.alloc (.cells vs T)).heap[b]?=w.heap[b]?:=fun b hb=>heap_alloc_old w _ b hb;have s1:HSim c h (w.alloc (.cells vs T)):=s.ext hw (.refl c) (fun _ _=>rfl) (fun _ _ _ h=>.inl h) s.dom;have k1:E.ok c h (w.alloc (.cells vs T)):=k.ext' s hw (.refl c) (fun _=>rfl) rfl rfl rfl (qfg w _) (fun _ _ _ h=>.inl h);have ig:c.le (c.addBlk h.length w.heap.size):=Ctx.addBlk_le (s.dom _ (ct _)).1;have sn:(c.addBlk h.length w.heap.size).blk h.length=some w.heap.size:=qh4;have hb:∀b',jb (c.addBlk h.length w.heap.size) h.length (.cells xs)=some b'→b'=w.heap.size:=fun b' il=>by
  simp only[jb,sn,d7]at il;exact il.symm
 refine⟨_,ig,s1.push (s.fresh (ct _)) (s.noD (ct _)) ⟨_,vs,T,sn,heap_alloc_new w _,hl,fun j x v hx hv=>⟨(hr j x v hx hv).1.mono ig,(hr j x v hx hv).2⟩⟩ hb,k1.push s1 (k.size) hb,sn⟩
theorem xdk{E:Ent}{c:Ctx}{h:gz}{w:World}(s:HSim c h w)(k:E.ok c h w)(vs:Array Value)(T:TypeId) :
  ∃c',c.le c'∧HSim c' h (w.alloc (.cells vs T))∧E.ok c' h (w.alloc (.cells vs T))∧∀(j:Nat) (v:Value),vs[j]?=some v→c'.D w.heap.size j=some v:=by
 have hw:∀b,b<w.heap.size→(w.alloc (.cells vs T)).heap[b]?=w.heap[b]?:=fun b hb=>heap_alloc_old w _ b hb
 let c':Ctx:={ c with D:=fun b j=>if b=w.heap.size then vs[j]? else c.D b j }
 have ig:c.le c':=⟨fun b j v hv=>by
  have ii:b≠w.heap.size:=fun e=>by rw[e,s.noD (ct _)]at hv;cases hv
  simp[c',ii,hv],fun _ _ h=>h,fun _ _ _ h=>h⟩
 refine⟨c',ig,s.ext hw ig (fun _ _=>rfl) (fun b j v hv=>?_) s.dom,k.ext' s hw ig (fun _=>rfl) rfl rfl rfl (qfg w _) (fun b j v hv=>by
  by_cases hb:b=w.heap.size
  ·exact .inr (.inl aa)
  ·exact .inl (by simpa[c',hb]using hv)),fun j v hv=>by simp[c',hv]⟩
 by_cases hb:b=w.heap.size
 ·subst hb;simp only[c',if_true]at hv;refine .inr ⟨ct _,?_⟩;rw[cell_of_row _ _ j vs T (0,0) (heap_alloc_new w _)];exact hv
 ·simp only[c',hb,if_false]at hv;exact .inl hv
theorem l7{α:Type}{l:List α}{i j:Nat}{x y:α}(h:(l.set i x)[j]?=some y):(j=i∧y=x)∨(j≠i∧l[j]?=some y):=by
 rw[List.getElem?_set]at h;split at h
 ·rename_i hij;split at h
  ·simp at h;exact .inl ⟨hij.symm,h.symm⟩
  ·cases h
 ·rename_i hij;exact .inr ⟨fun e=>hij e.symm,h⟩
theorem xuv{E:Ent}{c:Ctx}{h:gz}{w:World}(s:HSim c h w)(k:E.ok c h w){i b:Nat}{xs xs':List AV}{vs vs':Array Value}{T:TypeId}
  (hi:h[i]?=some (.cells xs)) (hb:c.blk i=some b) (hh:w.heap[b]?=some (.cells vs T (0,0))) (hl:vs'.size=xs'.length)
  (hr:∀(j:Nat) (x:AV) (v:Value),xs'[j]?=some x→vs'[j]?=some v→Rel c x v∧v.oneCell'=true) :
  HSim c (h.set i (.cells xs')) (w.setRow b vs')∧E.ok c (h.set i (.cells xs')) (w.setRow b vs'):=by
 have o9:∀g,g≠b→(w.setRow b vs').heap[g]?=w.heap[g]?:=fun g hg=>setRow_other w b g vs' hg;have px:jb c i (.cells xs)=some b:=hb;have pr:(w.setRow b vs').heap.size=w.heap.size:=qgw;have o7:∀j o b',(h.set i (.cells xs'))[j]?=some o→jb c j o=some b'→∃o0,h[j]?=some o0∧jb c j o0=some b':=fun j o b' hj il=>by
  rcases l7 hj with⟨rfl,rfl⟩|⟨ii,h1⟩
  ·exact⟨_,hi,il⟩
  ·exact⟨o,h1,il⟩
 constructor
 ·refine⟨fun g j v hD=>?_,fun j hj=>s.dom j bf,fun j o hj=>?_,fun j j' o o' b' hj oq jw li=>?_,fun j o b' m v hj jw hD=>?_⟩
  ·have hg:g≠b:=fun e=>by
    subst e;exact s.sep i _ g j v hi px hD
   rw[World.cell?_of_block (w:=w) (o9 g hg)];exact s.data g j v hD
  ·rcases l7 hj with⟨rfl,rfl⟩|⟨ii,h1⟩
   ·exact⟨b,vs',T,hb,setRow_heap w b vs vs' T (0,0) hh,hl,hr⟩
   ·refine(s.obj j o h1).keep (.refl c) (fun _=>rfl) fun b' il=>o9 b' fun e=>ii ?_;subst e;exact s.apart j i o _ b' h1 hi il px
  ·obtain⟨o1,h1,ll⟩:=o7 j o b' hj jw;obtain⟨o2,h2,vo⟩:=o7 j' o' b' oq li;exact s.apart j j' o1 o2 b' h1 h2 ll vo
  ·rcases l7 hj with⟨rfl,rfl⟩|⟨ii,h1⟩
   ·have:=s.sep j (.cells xs) b' m v hi jw hD;exact this
   ·exact s.sep j o b' m v h1 jw hD
 ·refine⟨k.edom,k.ext,k.blk0,bz,k.os,k.tape,k.output,qig,fun g hg iz=>?_,fun j o b' hj jw=>?_,k.dold⟩
  ·have ii:g≠b:=fun e=>by
    subst e;rcases k.newobj i _ g hi px with⟨o0,h0,h1⟩|h2
    ·exact iz i o0 h0 h1
    ·omega
   rw[o9 g ii];exact k.frame g hg iz
  ·obtain⟨o1,h1,ll⟩:=o7 j o b' hj jw;exact k.newobj j o1 b' h1 ll
mutual
def AV.norm(h:gz):AV→AV
 | .nils=>.slice []
 | .own i n=>match h[i]? with
  |some (.arr _ _ rows)=>if rows.length=n then .slice rows else .own i n
  |_=>.own i n
 | .agg xs=>.agg (kc h xs)
 | .tuple xs=>.tuple (kc h xs)
 | .iface t v=>.iface t (v.norm h)
 | .opt g v=>.opt g v
 | .top=>.top
 | .val v=>.val v
 | .slice r=>.slice r
 | .ptr i o=>.ptr i o
 | .eptr c=>.eptr c
 | .lit c=>.lit c
 | .mapr i=>.mapr i
 | .fn f a b=>.fn f a b
 | .optr i n sz r q=>.optr i n sz r q
def kc(h:gz):List AV→List AV
 | []=>[]
 |x::xs=>x.norm h::kc h xs
end
theorem qd8(h:gz):∀xs,kc h xs=xs.map (AV.norm h)
 | []=>rfl
 |x::xs=>by simp[kc,qd8 h xs]
def Ctx.share(c:Ctx)(_:gz)(_:World):Ctx:=c
theorem qxd(c:Ctx)(h:gz)(w:World):c.le (c.share h w):=.refl c
theorem qx1{E:Ent}{c:Ctx}{h:gz}{w:World}(s:HSim c h w)(k:E.ok c h w):HSim (c.share h w) h w∧E.ok (c.share h w) h w:=⟨s,k⟩
theorem jam{c:Ctx}{h:gz}{w:World}(s:HSim c h w){i:Nat}{e sz:Nat}{rows:List (List AV)}(hi:h[i]?=some (.arr e sz rows)){v:Value}(hv:c.sl i rows.length=some v) :
  DRel (c.share h w).D (.slice rows) v:=by
 obtain⟨v',vs,h1,ho,_,h2,h3,h4,h5,h6⟩:=s.obj i _ hi;rw[hv]at h1;cases h1;rcases h2.2 with⟨rfl,hn⟩|⟨g,cap,cur,rfl,hg,hh,nz,pz,ma,u5⟩
 ·have:rows=[]:=fk hn;subst this;exact .nil
 ·have mw:∀(i' j:Nat) (r:List AV) (x:AV),rows[i']?=some r→r[j]?=some x→∃u,vs[i' * sz+j]?=some u∧DRel c.D x u∧(c.share h w).D g (0+i' * sz+j)=some u:=by
   intro i' j r x hr hx;obtain⟨u,hu,hd⟩:=h5 i' j r x hr hx;have nk:=h4 r (c7 hr);have hj:j<sz:=by rw[←nk];exact(cq.1 hx).1
   have ke:i'<rows.length:=(cq.1 hr).1;have ib:i' * sz+j<rows.length * sz:=by
    have:(i'+1) * sz≤rows.length * sz:=fb _ ke;rw[fi]at this;omega
   refine⟨u,hu,hd,?_⟩;rw[db];obtain⟨u',vl⟩:=h6 g (i' * sz+j) rfl ib;have hw:=s.data _ _ _ vl;rw[cell_of_row w g _ cur e (0,0) hh]at hw;rw[←u5,dx,if_pos ib]at hu;have:u'=u:=by
    rw[fc]at hu;rw[hu]at hw;exact(gh hw).symm
   rw[←this];exact vl
  exact .slice rows g 0 cap sz (fun i' j=>(vs[i' * sz+j]?).getD undef) h4 h3 nz (fun i' j r x hr hx=>by
   obtain⟨u,hu,hd,hD⟩:=mw i' j r x hr hx;rw[hu];exact hD) fun i' j r x hr hx=>by
   obtain⟨u,hu,hd,hD⟩:=mw i' j r x hr hx;rw[hu];exact hd.mono (qxd c h w).D
theorem qep{c:Ctx}{h:gz}{w:World}(s:HSim c h w){x:AV}{v:Value}(hr:Rel c x v):Rel (c.share h w) (x.norm h) v:=by
 have ig:=qxd c h w
 induction hr with
 |data hd =>
  cases hd with
  |val _ _ hs=>exact Rel.val _ hs
  |nil=>exact .data .nil
  |empty a=>exact .data (.empty a)
  |slice rows b off cap sz g jq hB hc hD hh=>exact(Rel.data (.slice rows b off cap sz g jq hB hc hD hh)).mono ig
 |top v=>exact .top v
 |val v hs=>exact .val v hs
 |nils=>exact .data .nil
 |agg xs vs hl ho h ih =>
  simp only[AV.norm,qd8];refine .agg _ vs qhh ho fun j x v hx hv=>?_;simp only[dq,dn]at hx;obtain⟨y,hy,rfl⟩:=hx;exact ih j y v hy hv
 |tuple xs vs hl h ih =>
  simp only[AV.norm,qd8];refine .tuple _ vs qhh fun j x v hx hv=>?_;simp only[dq,dn]at hx;obtain⟨y,hy,rfl⟩:=hx;exact ih j y v hy hv
 |ptr i off b h=>exact .ptr i off b h
 |eptr cells b o g hD h=>exact(Rel.eptr cells b o g hD h).mono ig
 |lit cells b o cap g hD h ho=>exact(Rel.lit cells b o cap g hD h ho).mono ig
 |mapr i b h=>exact .mapr i b h
 |fn f ys xs us vs pf hl h' h ih' ih=>exact(Rel.fn f ys xs us vs pf hl h' h).mono ig
 |iface t x v h ih=>exact .iface t _ v ih
 |own i n v hv ho =>
  simp only[AV.norm];split
  ·rename_i e sz rows hi;split
   ·rename_i hn;subst hn;exact .data (jam s hi hv)
   ·exact(Rel.own i n v hv ho).mono ig
  ·exact(Rel.own i n v hv ho).mono ig
 |opt g x v h hn ih=>exact(Rel.opt g x v h hn).mono ig
 |optr i n sz r q b o len cap h=>exact .optr i n sz r q b o len cap h
inductive TK where
 |other
 |bool
 |int (k:IntKind)
 |string
 |struct (fs:List (Nat×Nat))
 |array (n e sz:Nat)
 |slice (e sz:Nat)
 |map (k e:Nat)
 |iface
 |ptr
 |func
structure TI where
 size:Nat
 bytes:Nat
 zero:List AV
 kind:TK
def nj(P:Program):TypeDesc→TK
 | .bool=>.bool
 | .int k=>.int k
 | .string=>.string
 | .struct fs=>if fs.toList.all fun f=>(P.info? f.type).isSome then .struct (fs.toList.map fun f=>(f.offset,P.cellsOf f.type))else .other
 | .array n e=>if (P.info? e).isSome then .array n e (P.cellsOf e)else .other
 | .slice e=>if (P.info? e).isSome then .slice e (P.cellsOf e)else .other
 | .map k e=>.map k e
 | .interface _=>.iface
 | .pointer _=>.ptr
 | .func _ _ _=>.func
 |_=>.other
def ti(P:Program)(t:TypeId):Option TI :=
 match P.info? t,P.underlying t with
 |some i,some d=>match i.zero with
  |some z=>if z.cells.size=i.size∧z.cells.toList.all (·.oneCell')=true then some ⟨i.size,i.bytes,z.cells.toList.map tr,nj P d⟩else none
  |none=>none
 |_,_=>none
theorem qvk{P:Program}{t:TypeId}{x:TI}(h:ti P t=some x) :
  ∃i d z,P.info? t=some i∧P.underlying t=some d∧i.zero=some z∧x=⟨i.size,i.bytes,z.cells.toList.map tr,nj P d⟩∧z.cells.size=i.size∧∀v,v∈z.cells.toList→v.oneCell'=true:=by
 unfold ti at h;split at h
 ·rename_i i d hi hd;split at h
  ·rename_i z hz;split at h
   ·rename_i hc;exact⟨i,d,z,hi,hd,hz,by simpa using h.symm,hc.1,dw.1 hc.2⟩
   ·cases h
  ·cases h
 ·cases h
def TK.agg:TK→Bool
 | .struct _| .array ..=>true
 |_=>false
def ij(P:Program)(t:TypeId):TK:=match ti P t with|some x=>x.kind|none=>.other
def iy(P:Program)(t:TypeId):Nat:=match ti P t with|some x=>x.size|none=>0
def jo(P:Program)(t:TypeId):List AV:=match ti P t with|some x=>x.zero|none=>[]
structure SV where
 side:Prop
 val:AV
def SV.no:SV:=⟨False,.top⟩
def xf0(op:BinOp)(k:IntKind)(a b:Int):SV :=
 match op with
 | .add=>⟨True,.val (.int k (k.wrap (a+b)))⟩
 | .sub=>⟨True,.val (.int k (k.wrap (a - b)))⟩
 | .mul=>⟨True,.val (.int k (k.wrap (a * b)))⟩
 | .quo=>⟨b≠0,.val (.int k (k.wrap (a.tdiv b)))⟩
 | .rem=>⟨b≠0,.val (.int k (a.tmod b))⟩
 | .eql=>⟨True,.val (.bool (decide (a=b)))⟩
 | .neq=>⟨True,.val (.bool (!decide (a=b)))⟩
 | .lss=>⟨True,.val (.bool (decide (a<b)))⟩
 | .leq=>⟨True,.val (.bool (decide (a≤b)))⟩
 | .gtr=>⟨True,.val (.bool (decide (b<a)))⟩
 | .geq=>⟨True,.val (.bool (decide (b≤a)))⟩
 | .and=>⟨True,.val (.int k (k.wrap (BitVec.ofInt k.bits a &&& BitVec.ofInt k.bits b).toNat))⟩
 | .or=>⟨True,.val (.int k (k.wrap (BitVec.ofInt k.bits a ||| BitVec.ofInt k.bits b).toNat))⟩
 | .xor=>⟨True,.val (.int k (k.wrap (BitVec.ofInt k.bits a ^^^ BitVec.ofInt k.bits b).toNat))⟩
 | .andNot=>⟨True,.val (.int k (k.wrap (BitVec.ofInt k.bits a &&& ~~~ BitVec.ofInt k.bits b).toNat))⟩
 |_=>.no
def ju(a b:ByteArray):Bool:=Op.bytesLess a.toList b.toList
def xhp(op:BinOp)(a b:ByteArray):SV :=
 match op with
 | .add=>⟨a.size+b.size≤68719476736,.val (.string (a++b))⟩
 | .eql=>⟨True,.val (.bool (decide (a=b)))⟩
 | .neq=>⟨True,.val (.bool (!decide (a=b)))⟩
 | .lss=>⟨True,.val (.bool (ju a b))⟩
 | .leq=>⟨True,.val (.bool (ju a b||decide (a=b)))⟩
 | .gtr=>⟨True,.val (.bool (!(ju a b||decide (a=b))))⟩
 | .geq=>⟨True,.val (.bool (!(ju a b)))⟩
 |_=>.no
def xcx(g:TypeId→Option (List TK))(P:Program):Nat→List Field→Option (List TK)
 |_,[]=>some []
 |off,f::fs =>
  if f.name≠ "_"∧f.offset=off then
   match g f.type with
   |some ks=>if ks.length=P.cellsOf f.type then(xcx g P (off+ks.length) fs).map (ks++·)else none
   |none=>none
  else none
def qo8(P:Program):Nat→TypeId→Option (List TK)
 | 0,_=>none
 |d+1,t =>
  match P.underlying t with
  |some .bool=>some [.bool]
  |some (.int k)=>some [.int k]
  |some .string=>some [.string]
  |some (.struct fs)=>if P.stoodInHeld t=true then none else xcx (qo8 P d) P 0 fs.toList
  |_=>none
def qm2(P:Program)(t:TypeId):List TK :=
 if P.eqGuardType P.depth t=false∧(ij P t).agg=true then(qo8 P 8 t).getD []else []
def y9:List TK→List AV→Prop
 | [],[]=>True
 | .bool::ks,.val (.bool _)::xs=>y9 ks xs
 | .int k::ks,.val (.int k' _)::xs=>k'=k∧y9 ks xs
 | .string::ks,.val (.string _)::xs=>y9 ks xs
 |_,_=>False
def eqA:List AV→List AV→Bool
 | [],[]=>true
 | .val (.bool a)::xs,.val (.bool b)::ys=>decide (a=b)&&eqA xs ys
 | .val (.int _ a)::xs,.val (.int _ b)::ys=>decide (a=b)&&eqA xs ys
 | .val (.string a)::xs,.val (.string b)::ys=>decide (a=b)&&eqA xs ys
 |_,_=>false
def xbp(P:Program)(t:TypeId):Bool :=
 match P.underlying t with
 |some (.interface ms)=>ms.isEmpty
 |_=>false
def xby(P:Program)(op:BinOp)(T:TypeId)(x y:AV):SV :=
 match x,y with
 | .val (.int k a),.val (.int k' b) =>
  match op with
  | .shl=>⟨0≤b,.val (.int k (k.wrap (a * 2 ^ (min b.toNat k.bits))))⟩
  | .shr=>⟨0≤b,.val (.int k (a.fdiv (2 ^ (min b.toNat k.bits))))⟩
  |op=>⟨k=k'∧(xf0 op k a b).side,(xf0 op k a b).val⟩
 | .val (.string a),.val (.string b)=>xhp op a b
 | .val (.bool a),.val (.bool b) =>
  match op with
  | .eql=>⟨ij P T=.bool,.val (.bool (decide (a=b)))⟩
  | .neq=>⟨ij P T=.bool,.val (.bool (!decide (a=b)))⟩
  |_=>.no
 | .agg xs,.agg ys =>
  match op with
  | .eql=>⟨qm2 P T≠[]∧y9 (qm2 P T) xs∧y9 (qm2 P T) ys,.val (.bool (eqA xs ys))⟩
  | .neq=>⟨qm2 P T≠[]∧y9 (qm2 P T) xs∧y9 (qm2 P T) ys,.val (.bool (!eqA xs ys))⟩
  |_=>.no
 | .iface _ _,.val .nilIface =>
  match op with
  | .eql=>⟨ij P T=.iface,.val (.bool false)⟩
  | .neq=>⟨ij P T=.iface,.val (.bool true)⟩
  |_=>.no
 | .val .nilIface,.val .nilIface =>
  match op with
  | .eql=>⟨xbp P T=true,.val (.bool true)⟩
  | .neq=>⟨xbp P T=true,.val (.bool false)⟩
  |_=>.no
 |_,_=>.no
def qnq(s:Nat)(agg:Bool)(cells:List AV):SV :=
 match agg with
 |true=>⟨s≤cells.length,.agg (cells.take s)⟩
 |false=>⟨0<cells.length,cells.getD 0 .top⟩
def qvy(P:Program)(t:TypeId)(a:AV)(h:gz):SV :=
 match a with
 | .ptr i off=>match h[i]? with
  |some (.cells xs)=>⟨(qnq (iy P t) (ij P t).agg (xs.drop off)).side∧ij P t≠.other,(qnq (iy P t) (ij P t).agg (xs.drop off)).val⟩
  |_=>.no
 | .eptr cells=>⟨(qnq (iy P t) (ij P t).agg cells).side∧ij P t≠.other,(qnq (iy P t) (ij P t).agg cells).val⟩
 | .optr i n sz r q=>match h[i]? with
  |some (.uarr _ kl rows)=>⟨rows.length=n∧kl=sz∧r<rows.length∧(qnq (iy P t) (ij P t).agg ((rows.getD r []).drop q)).side∧ij P t≠.other,(qnq (iy P t) (ij P t).agg ((rows.getD r []).drop q)).val⟩
  |some (.oarr _ kl rows)=>⟨rows.length=n∧kl=sz∧r<rows.length∧(qnq (iy P t) (ij P t).agg ((rows.getD r []).drop q)).side∧ij P t≠.other,(qnq (iy P t) (ij P t).agg ((rows.getD r []).drop q)).val⟩
  |_=>.no
 |_=>.no
def xcn(P:Program)(s f:Nat):Option (Nat×Nat) :=
 match ij P s with
 | .struct fs=>match fs[f]? with
  |some (o,n)=>if n=0 then none else some (o,n)
  |none=>none
 |_=>none
def AV.cells:AV→List AV
 | .agg xs=>xs
 |y=>[y]
def AV.one:AV→Bool
 | .val v=>v.oneCell'
 | .nils| .slice _| .ptr .. | .eptr _| .mapr _| .fn .. | .iface .. | .own .. | .optr ..=>true
 |_=>false
def AV.cellsOk:AV→Bool
 | .agg _=>true
 |y=>y.one
def qyr(fs:List (Nat×Nat)):List (Nat×AV)→List AV→Option (List AV)
 | [],cells=>some cells
 |(i,x)::rest,cells =>
  match fs[i]? with
  |some (o,n)=>if x.cellsOk=true∧x.cells.length=n∧o+n≤cells.length then qyr fs rest (cells.take o++x.cells++cells.drop (o+n))else none
  |none=>none
def qrf(P:Program)(t:TypeId):List (Nat×Nat) :=
 match ij P t with
 | .struct fs=>fs
 | .array n _ sz=>(List.range n).map fun i=>(i * sz,sz)
 |_=>[]
def xay(s:ByteArray)(n:Int):UInt8:=s.data.toList.getD n.toNat 0
def qe4(P:Program)(T:TypeId)(x i:AV)(h:gz):SV :=
 match ij P T,x,i with
 | .slice _ sz,.slice rows,.val (.int _ n)=>⟨0≤n∧n.toNat<rows.length∧(rows.getD n.toNat []).length=sz∧0<sz,.eptr (rows.getD n.toNat [])⟩
 | .array len _ sz,.ptr o off,.val (.int _ n)=>⟨0≤n∧n.toNat<len∧0<sz,.ptr o (off+n.toNat * sz)⟩
 | .array len _ sz,.eptr cells,.val (.int _ n)=>⟨0≤n∧n.toNat<len∧0<sz,.eptr (cells.drop (n.toNat * sz))⟩
 | .array len _ sz,.optr o m kl r q,.val (.int _ n)=>⟨0≤n∧n.toNat<len∧0<sz,.optr o m kl r (q+n.toNat * sz)⟩
 | .slice _ sz,.own o m,.val (.int _ n)=>match h[o]? with
  |some (.uarr _ kl rows)=>⟨rows.length=m∧kl=sz∧0≤n∧n.toNat<rows.length∧0<sz,.optr o m sz n.toNat 0⟩
  |some (.oarr _ kl rows)=>⟨rows.length=m∧kl=sz∧0≤n∧n.toNat<rows.length∧0<sz,.optr o m sz n.toNat 0⟩
  |_=>.no
 |_,_,_=>.no
def xcb(P:Program)(T:TypeId)(x i:AV):SV :=
 match ij P T,x,i with
 | .string,.val (.string s),.val (.int _ n)=>⟨0≤n∧n.toNat<s.size,.val (.int .u8 (xay s n).toNat)⟩
 | .array len e sz,.agg cs,.val (.int _ n)=>⟨0≤n∧n.toNat<len∧n.toNat<cs.length∧sz=1∧ij P e≠.other∧(ij P e).agg=false,cs.getD n.toNat .top⟩
 |_,_,_=>.no
def qwk(P:Program)(T:TypeId)(x:AV)(h:gz):SV :=
 match ij P T,x with
 | .slice ..,.slice rows=>⟨True,.val (.int .i64 rows.length)⟩
 | .slice ..,.nils=>⟨True,.val (.int .i64 0)⟩
 | .slice ..,.own o m=>match h[o]? with
  |some (.uarr _ _ rows)=>⟨rows.length=m,.val (.int .i64 rows.length)⟩
  |some (.oarr _ _ rows)=>⟨rows.length=m,.val (.int .i64 rows.length)⟩
  |_=>.no
 | .string,.val (.string s)=>⟨True,.val (.int .i64 s.size)⟩
 | .array n _ _,_=>⟨True,.val (.int .i64 n)⟩
 |_,_=>.no
def qxa(d:Int):Option AV→Option Int
 |none=>some d
 |some (.val (.int _ n))=>some n
 |some _=>none
def RowsLen(sz:Nat)(rows:List (List AV)):Prop:=∀r,r∈rows→r.length=sz
def xbx(P:Program)(T:TypeId)(x:AV)(lo hi mx:Option AV):SV :=
 match mx with
 |some _=>.no
 |none =>
  match ij P T,x with
  | .slice _ sz,.slice rows =>
   match qxa 0 lo,qxa rows.length hi with
   |some l,some h=>⟨0≤l∧l≤h∧h≤rows.length∧RowsLen sz rows,.slice ((rows.take h.toNat).drop l.toNat)⟩
   |_,_=>.no
  | .string,.val (.string s) =>
   match qxa 0 lo,qxa s.size hi with
   |some l,some h=>⟨0≤l∧l≤h∧h≤s.size,.val (.string (s.extract l.toNat h.toNat))⟩
   |_,_=>.no
  |_,_=>.no
def strKeys:List (AV×AV)→Option (List (ByteArray×AV))
 | []=>some []
 |(.val (.string s),v)::l=>(strKeys l).map ((s,v)::·)
 |_=>none
def qj(l:List (ByteArray×AV)):List (AV×AV):=l.map fun p=>(.val (.string p.1),p.2)
def qto:List (ByteArray×AV)→ByteArray→Option AV
 | [],_=>none
 |p::l,s=>if p.1=s then some p.2 else qto l s
def qua:List (ByteArray×AV)→ByteArray→AV→List (ByteArray×AV)
 | [],s,v=>[(s,v)]
 |p::l,s,v=>if p.1=s then(s,v)::l else p::qua l s v
def qwm:List (ByteArray×AV)→ByteArray→List (ByteArray×AV)
 | [],_=>[]
 |p::l,s=>if p.1=s then l else p::qwm l s
def qvt(P:Program)(e:TypeId):Option AV :=
 match P.info? e with
 |some i=>match i.zero with
  |some (.agg vs)=>if vs.toList.all (·.oneCell')=true then some (.agg (vs.toList.map tr))else none
  |some z=>some (tr z)
  |none=>none
 |none=>none
def qwa(P:Program)(T:TypeId)(x i:AV)(ok:Bool)(h:gz):SV :=
 match ij P T,x,i with
 | .map k e,.mapr o,.val (.string s)=>match h[o]? with
  |some (.map es)=>match strKeys es,qvt P e with
   |some l,some z=>⟨ij P k=.string,match ok with
    |true=>.tuple [(qto l s).getD z,.val (.bool (qto l s).isSome)]
    |false=>(qto l s).getD z⟩
   |_,_=>.no
  |_=>.no
 |_,_,_=>.no
def xb9(x y:AV):SV :=
 match x,y with
 | .val (.int k a),.val (.int k' b)=>⟨k=k',.val (.int k (if b<a then b else a))⟩
 |_,_=>.no
def xbu(x y z:AV):SV :=
 match x,y,z with
 | .val (.int k a),.val (.int k' b),.val (.int k2 c)=>⟨k=k'∧k=k2,.val (.int k (if c<(if b<a then b else a)then c else(if b<a then b else a)))⟩
 |_,_,_=>.no
def xaz(x y:AV):SV :=
 match x,y with
 | .val (.int k a),.val (.int k' b)=>⟨k=k',.val (.int k (if a<b then b else a))⟩
 |_,_=>.no
def xl3(P:Program)(src:TypeId):Prop:=match ij P src with| .slice e sz=>sz=1∧ij P e=.int .u8|_=>False
def xax(P:Program)(src dst:TypeId)(x:AV):SV :=
 match ij P dst,x with
 | .int k,.val (.int _ n)=>⟨ij P src≠.other,.val (.int k (k.wrap n))⟩
 | .string,.val (.string s)=>⟨ij P src≠.other,.val (.string s)⟩
 | .string,.slice [[.val (.int .u8 n)]]=>⟨xl3 P src,.val (.string ⟨#[UInt8.ofNat n.toNat]⟩)⟩
 |_,_=>.no
def xbz(P:Program)(dst:TypeId)(ok:Bool)(x:AV):SV :=
 match x,ok with
 | .iface t v,true=>match t == dst with
  |true=>⟨ij P dst≠.iface∧ij P dst≠.other,.tuple [v,.val (.bool true)]⟩
  |false=>match qvt P dst with
   |some z=>⟨ij P dst≠.iface∧ij P dst≠.other,.tuple [z,.val (.bool false)]⟩
   |none=>.no
 | .iface t v,false=>⟨t=dst∧ij P dst≠.iface∧ij P dst≠.other,v⟩
 | .val .nilIface,true=>match qvt P dst with
  |some z=>⟨ij P dst≠.iface∧ij P dst≠.other,.tuple [z,.val (.bool false)]⟩
  |none=>.no
 |_,_=>.no
def qb(P:Program)(g:Operand→AV)(h:gz):Op→SV
 | .move x| .assign x=>⟨True,g x⟩
 | .build t parts =>
  match qyr (qrf P t) (parts.toList.map fun p=>(p.1,g p.2)) (jo P t)with
  |some cells=>⟨(ij P t).agg=true,.agg cells⟩
  |none=>.no
 | .load t a=>qvy P t (g a) h
 | .nilCheck x =>
  match g x with
  | .ptr i o=>⟨True,.ptr i o⟩
  | .eptr c=>⟨True,.eptr c⟩
  | .optr i n sz r q=>⟨True,.optr i n sz r q⟩
  | .fn (.func f) a c=>⟨True,.fn (.func f) a c⟩
  |_=>.no
 | .binOp op T x y _=>xby P op T (g x) (g y)
 | .unOp .not _ x=>match g x with
  | .val (.bool b)=>⟨True,.val (.bool (!b))⟩
  |_=>.no
 | .unOp .neg _ x=>match g x with
  | .val (.int k n)=>⟨True,.val (.int k (k.wrap (0 - n)))⟩
  |_=>.no
 | .convert src dst x=>xax P src dst (g x)
 | .makeInterface T x=>⟨ij P T≠.iface∧ij P T≠.other,.iface T (g x)⟩
 | .makeFunc f first caps=>⟨True,.fn f (first.toList.map g) (caps.toList.map g)⟩
 | .fieldAddr s x f =>
  match xcn P s f,g x with
  |some (o,_),.ptr i off=>⟨True,.ptr i (off+o)⟩
  |some (o,_),.eptr cells=>⟨True,.eptr (cells.drop o)⟩
  |some (o,_),.optr i n sz r q=>⟨True,.optr i n sz r (q+o)⟩
  |_,_=>.no
 | .indexAddr T x i=>qe4 P T ((g x).norm h) (g i) h
 | .index T x i=>xcb P T (g x) (g i)
 | .lookup T x i ok=>qwa P T (g x) (g i) ok h
 | .typeAssert x _ dst ok=>xbz P dst ok (g x)
 | .extract x n =>
  match g x with
  | .tuple vs=>⟨n<vs.length,vs.getD n .top⟩
  |_=>.no
 | .slice T x lo hi mx=>xbx P T ((g x).norm h) (lo.map g) (hi.map g) (mx.map g)
 | .call { callee:=.builtin .len,args,argTypes }=>match args.toList,argTypes.toList with
  | [x],[T]=>qwk P T ((g x).norm h) h
  |_,_=>.no
 | .call { callee:=.builtin .min,args,.. }=>match args.toList with
  | [x,y]=>xb9 (g x) (g y)
  | [x,y,z]=>xbu (g x) (g y) (g z)
  |_=>.no
 | .call { callee:=.builtin .max,args,.. }=>match args.toList with
  | [x,y]=>xaz (g x) (g y)
  |_=>.no
 |_=>.no
end Go.Abs
