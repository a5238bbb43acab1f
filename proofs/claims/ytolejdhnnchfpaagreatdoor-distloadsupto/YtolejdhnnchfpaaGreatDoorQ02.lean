/- Part 2 of a proof. -/
import Derived.ChangeKeysEq
import Derived.Test.YtolejdhnnchfpaaGreatDoorQ01
set_option linter.all false
namespace Go.Abs
theorem ObjR.lt{c:Ctx}{w:World}{i:Nat}{o:AObj}(k:ObjR c w i o){b:Nat}(hb:je c i o=some b):b<w.heap.size:=by
 cases o with
 |none=>simp[je]at hb
 |cells xs =>
  obtain⟨b',vs,T,h1,h2,_⟩:=k;simp only[je,h1,eb]at hb;subst hb;exact(fv.1 h2).1
 |map es =>
  obtain⟨b',vs,T,h1,h2,_⟩:=k;simp only[je,h1,eb]at hb;subst hb;exact(fv.1 h2).1
 |iter s pos =>
  obtain⟨b',h1,h2⟩:=k;simp only[je,h1,eb]at hb;subst hb;exact(fv.1 h2).1
 |raw g f xs =>
  obtain⟨h1,vs,h2,_⟩:=k;simp only[je,h1,eb]at hb;subst hb;exact(fv.1 h2).1
 |arr e sz rows =>
  obtain⟨v,vs,h1,_,_,h2,_⟩:=k;simp only[je,h1,fp]at hb;exact(h2.lt b hb).2
 |uarr e sz rows =>
  obtain⟨v,vs,h1,_,_,h2,_⟩:=k;simp only[je,h1,fp]at hb;exact(h2.lt b hb).2
 |oarr e sz rows =>
  obtain⟨v,vs,h1,_,_,h2,_⟩:=k;simp only[je,h1,fp]at hb;exact(h2.lt b hb).2
theorem ObjR.blk{c c':Ctx}{w:World}{i:Nat}{o:AObj}(k:ObjR c w i o)(hc:c.le c'):je c' i o=je c i o:=by
 cases o with
 |none=>rfl
 |cells xs=>obtain⟨b',vs,T,h1,h2,_⟩:=k;simp[je,h1,hc.blk _ _ h1]
 |map es=>obtain⟨b',vs,T,h1,h2,_⟩:=k;simp[je,h1,hc.blk _ _ h1]
 |iter s pos=>obtain⟨b',h1,h2⟩:=k;simp[je,h1,hc.blk _ _ h1]
 |raw g f xs=>obtain⟨h1,h2⟩:=k;simp[je,h1,hc.blk _ _ h1]
 |arr e sz rows=>obtain⟨v,vs,h1,_⟩:=k;simp[je,h1,hc.sl _ _ _ h1]
 |uarr e sz rows=>obtain⟨v,vs,h1,_⟩:=k;simp[je,h1,hc.sl _ _ _ h1]
 |oarr e sz rows=>obtain⟨v,vs,h1,_⟩:=k;simp[je,h1,hc.sl _ _ _ h1]
theorem ObjR.keep{c c':Ctx}{w w':World}{i:Nat}{o:AObj}(k:ObjR c w i o)(hc:c.le c')(na:∀m,c'.sl i m=c.sl i m)(hw:∀b,je c i o=some b->w'.heap[b]?=w.heap[b]?):ObjR c' w' i o:=by
 cases o with
 |none=>trivial
 |cells xs =>
  obtain⟨b',vs,T,h1,h2,h3,h4⟩:=k;exact⟨b',vs,T,hc.blk _ _ h1,qg5,h3,λj x v hx hv=>⟨(h4 j x v hx hv).1.mono hc,(h4 j x v hx hv).2⟩⟩
 |map es =>
  obtain⟨b',kj,clock,h1,h2,h3,h4,h5⟩:=k;exact⟨b',kj,clock,hc.blk _ _ h1,qg5,h3,λj k x ce hx hv=>⟨(h4 j k x ce hx hv).1.mono hc,(h4 j k x ce hx hv).2.mono hc⟩,h5⟩
 |iter s pos =>
  obtain⟨b',h1,h2⟩:=k;exact⟨b',hc.blk _ _ h1,qg5⟩
 |raw g f xs =>
  obtain⟨h1,vs,h2,h3,h4⟩:=k;exact⟨hc.blk _ _ h1,vs,by rw[hw g qh9,h2],h3,λj x v hx hv=>(h4 j x v hx hv).mono hc⟩
 |arr e sz rows =>
  obtain⟨v,vs,h1,ho,hm,h2,h3,h4,h5,h6⟩:=k;refine⟨v,vs,hc.sl _ _ _ h1,ho,λm og=>by rw[na,hm m og],⟨h2.1,?_⟩,h3,h4,λi' j r x hr hx=>?_,λb j hb hj=>(h6 b j hb hj).imp λu hu=>hc.D _ _ _ hu⟩
  .rcases h2.2 with hn|⟨g,cap,cur,hv,hg,hh,rest⟩
   .grind
   .exact .inr ⟨g,cap,cur,hv,hg,qf3,rest⟩
  .obtain⟨u,hu,hd⟩:=h5 i' j r x hr hx;exact⟨u,hu,hd.mono hc.D⟩
 |uarr e sz rows =>
  obtain⟨v,vs,h1,ho,hm,h2,h3,h4,h5⟩:=k;refine⟨v,vs,hc.sl _ _ _ h1,ho,λm og=>by rw[na,hm m og],⟨h2.1,?_⟩,h3,h4,λi' j r x hr hx=>?_⟩
  .rcases h2.2 with hn|⟨g,cap,cur,hv,hg,hh,rest⟩
   .grind
   .exact .inr ⟨g,cap,cur,hv,hg,qf3,rest⟩
  .obtain⟨u,hu,hd⟩:=h5 i' j r x hr hx;exact⟨u,hu,hd.mono hc.D⟩
 |oarr e sz rows =>
  obtain⟨v,vs,h1,ho,hm,h2,h3,h4,h5⟩:=k;refine⟨v,vs,hc.sl _ _ _ h1,ho,λm og=>by rw[na,hm m og],⟨h2.1,?_⟩,h3,h4,λi' j r x hr hx=>?_⟩
  .rcases h2.2 with hn|⟨g,cap,cur,hv,hg,hh,rest⟩
   .grind
   .exact .inr ⟨g,cap,cur,hv,hg,qf3,rest⟩
  .obtain⟨u,hu,hd,xx⟩:=h5 i' j r x hr hx;exact⟨u,hu,hd.mono hc,xx⟩
theorem HSim.ext{c c':Ctx}{h:g9}{w w':World}(s:HSim c h w)(hw:∀b,b<w.heap.size->w'.heap[b]?=w.heap[b]?)(hc:c.le c')(na:∀i m,c'.sl i m=c.sl i m)
  (hD:∀b j v,c'.D b j=some v->c.D b j=some v\/(w.heap.size<=b/\w'.cell? ⟨b,j,none⟩=some v))
  (hdom:∀i,h.length<=i->c'.blk i=none/\∀m,c'.sl i m=none):HSim c' h w' where
 data:=λb j v hv=>by
  rcases hD b j v hv with h1|h1
  .have h2:=s.data b j v h1;have hb:b<w.heap.size:=World.block_lt_of_cell? w ⟨b,j,none⟩ h2;rw[World.cell?_of_block (w:=w) (hw b hb)];exact h2
  .exact h1.2
 dom:=hdom
 obj:=λi o ho=>(s.obj i o ho).keep hc (na i) λb hb=>hw b ((s.obj i o ho).lt hb)
 apart:=λi j o o' b hi hj hb iq=>by
  rw[(s.obj i o hi).blk hc]at hb;rw[(s.obj j o' hj).blk hc]at iq;exact s.apart i j o o' b hi hj hb iq
 sep:=λi o b j v hi hb hv=>by
  rw[(s.obj i o hi).blk hc]at hb;rcases hD b j v hv with h1|h1
  .exact s.sep i o b j v hi hb h1
  .have:=(s.obj i o hi).lt hb;omega
theorem Ent.ok.ext'{E:Ent}{c c':Ctx}{h:g9}{w w':World}(k:E.ok c h w)(s:HSim c h w)(hw:∀b,b<w.heap.size->w'.heap[b]?=w.heap[b]?)(hc:c.le c')(hbk:∀n,c'.blk n=c.blk n)
  (zz:w'.os=w.os) (ht:w'.tape=w.tape) (y9:w'.output=w.output) (jx:w.heap.size<=w'.heap.size)
  (hDo:∀b j v,c'.D b j=some v->c.D b j=some v\/w.heap.size<=b\/∃i o,h[i]?=some o/\je c i o=some b):E.ok c' h w' where
 edom:=k.edom
 ext:=k.ext.trans hc
 blk0:=λn hn=>(hbk n).trans (k.blk0 n hn)
 len:=k.len
 os:=zz.trans k.os
 tape:=ht.trans k.tape
 output:=y9.trans k.output
 size:=dv k.size jx
 frame:=λb hb kf=>(hw b (qi4 hb k.size)).trans (k.frame b hb kf)
 newobj:=λi o b hi hb=>by
  rw[(s.obj i o hi).blk hc]at hb;exact k.newobj i o b hi hb
 dold:=λb j v hD=>by
  rcases hDo b j v hD with h|h|⟨i,o,h1,h2⟩
  .exact k.dold b j v h
  .exact .inr (.inl (dv k.size h))
  .rcases k.newobj i o b h1 h2 with⟨i0,o0,g0,g1⟩|g
   .grind
   .omega
def Ctx.addBlk(c:Ctx)(n b:Nat):Ctx:={ c with blk:=λi=>if i=n then some b else c.blk i }
theorem Ctx.addBlk_le{c:Ctx}{n b:Nat}(h:c.blk n=none):c.le (c.addBlk n b) :=
 ⟨λ_ _ _ h=>h,λi b' hb=>by
  simp only[Ctx.addBlk];split
  .grind
  .exact hb,λ_ _ _ h=>h⟩
theorem oy{α:Type}{l:List α}{x y:α}{i:Nat}(h:(l++[x])[i]?=some y):l[i]?=some y\/(i=l.length/\y=x):=af
theorem HSim.push{c:Ctx}{h:g9}{w:World}(s:HSim c h w){b:Nat}{o:AObj}(qnw:∀i o,h[i]?=some o->je c i o≠some b)(qv6:∀j,c.D b j=none)
  (qxb:ObjR (c.addBlk h.length b) w h.length o) (hb:∀b',je (c.addBlk h.length b) h.length o=some b'->b'=b):HSim (c.addBlk h.length b) (h++[o]) w where
 data:=s.data
 dom:=λi hi=>by
  simp only[c7,dy,ed]at hi;have:=s.dom i aa;refine⟨?_,this.2⟩;simp only[Ctx.addBlk];rw[if_neg aa];exact this.1
 obj:=λi p hp=>by
  rcases oy hp with h1|⟨rfl,rfl⟩
  .exact(s.obj i p h1).keep (Ctx.addBlk_le (s.dom _ (cn _)).1) (λ_=>rfl) λ_ _=>rfl
  .exact qxb
 apart:=λi j p q b' hi hj p9 hbj=>by
  have ij:=Ctx.addBlk_le (b:=b) (s.dom _ (cn h.length)).1;rcases oy hi with h1|⟨rfl,rfl⟩<;>rcases oy hj with h2|⟨rfl,rfl⟩
  .rw[(s.obj i p h1).blk ij]at p9;rw[(s.obj j q h2).blk ij]at hbj;exact s.apart i j p q b' h1 h2 p9 hbj
  .rw[(s.obj i p h1).blk ij]at p9;have:=hb b' hbj;subst this;exact(qnw i p h1 p9).elim
  .rw[(s.obj j q h2).blk ij]at hbj;have:=hb b' p9;subst this;exact(qnw j q h2 hbj).elim
  .rfl
 sep:=λi p b' j v hi p9 hD=>by
  have ij:=Ctx.addBlk_le (b:=b) (s.dom _ (cn h.length)).1;rcases oy hi with h1|⟨rfl,rfl⟩
  .rw[(s.obj i p h1).blk ij]at p9;exact s.sep i p b' j v h1 p9 hD
  .have:=hb b' p9;subst this;have o7:c.D b' j=some v:=hD;rw[qv6 j]at o7;cases o7
theorem Ent.ok.push{E:Ent}{c:Ctx}{h:g9}{w:World}(k:E.ok c h w)(s:HSim c h w){b:Nat}{o:AObj}(hE:E.w.heap.size<=b)
  (hb:∀b',je (c.addBlk h.length b) h.length o=some b'->b'=b):E.ok (c.addBlk h.length b) (h++[o]) w where
 edom:=k.edom
 ext:=k.ext.trans (Ctx.addBlk_le (s.dom _ (cn _)).1)
 blk0:=λn hn=>by
  have:=k.len;simp only[Ctx.addBlk];rw[if_neg aa];exact k.blk0 n hn
 len:=qe1
 os:=k.os
 tape:=k.tape
 output:=k.output
 size:=k.size
 frame:=k.frame
 newobj:=λi p b' hi p9=>by
  have ij:=Ctx.addBlk_le (b:=b) (s.dom _ (cn h.length)).1;rcases oy hi with h1|⟨rfl,rfl⟩
  .rw[(s.obj i p h1).blk ij]at p9;exact k.newobj i p b' h1 p9
  .grind
 dold:=k.dold
theorem HSim.noD{c:Ctx}{h:g9}{w:World}(s:HSim c h w){b:Nat}(hb:w.heap.size<=b)(j:Nat):c.D b j=none:=by
 cases hD:c.D b j with
 |none=>rfl
 |some v=>have:b<w.heap.size:=World.block_lt_of_cell? w ⟨b,j,none⟩ (s.data b j v hD);omega
theorem HSim.fresh{c:Ctx}{h:g9}{w:World}(s:HSim c h w){b:Nat}(hb:w.heap.size<=b):∀i o,h[i]?=some o->je c i o≠some b:=λi o hi he=>by
 have:=(s.obj i o hi).lt he;omega
theorem qdy(w:World)(o:Obj):w.heap.size<=(w.alloc o).heap.size:=ac
theorem xpx{E:Ent}{c:Ctx}{h:g9}{w:World}(s:HSim c h w)(k:E.ok c h w){xs:List AV}{vs:Array Value}(T:TypeId)(hl:vs.size=xs.length)
  (hr:∀(j:Nat) (x:AV) (v:Value),xs[j]?=some x->vs[j]?=some v->Rel c x v/\v.oneCell'=true) :
  ∃c',c.le c'/\HSim c' (h++[.cells xs]) (w.alloc (.cells vs T))/\E.ok c' (h++[.cells xs]) (w.alloc (.cells vs T))/\c'.blk h.length=some w.heap.size:=by
 have hw:∀b,b<w.heap.size->(w.alloc (.cells vs T)).heap[b]?=w.heap[b]?:=λb hb=>heap_alloc_old w _ b hb;have s1:HSim c h (w.alloc (.cells vs T)):=s.ext hw (.refl c) (λ_ _=>rfl) (λ_ _ _ h=>.inl h) s.dom;have k1:E.ok c h (w.alloc (.cells vs T)):=k.ext' s hw (.refl c) (λ_=>rfl) rfl rfl rfl (qdy w _) (λ_ _ _ h=>.inl h);have ij:c.le (c.addBlk h.length w.heap.size):=Ctx.addBlk_le (s.dom _ (cn _)).1;have r8:(c.addBlk h.length w.heap.size).blk h.length=some w.heap.size:=qfp;have hb:∀b',je (c.addBlk h.length w.heap.size) h.length (.cells xs)=some b'->b'=w.heap.size:=λb' iq=>by grind[je,eb]
 refine⟨_,ij,s1.push (s.fresh (cn _)) (s.noD (cn _)) ⟨_,vs,T,r8,heap_alloc_new w _,hl,λj x v hx hv=>⟨(hr j x v hx hv).1.mono ij,(hr j x v hx hv).2⟩⟩ hb,k1.push s1 (k.size) hb,r8⟩
theorem qzg{E:Ent}{c:Ctx}{h:g9}{w:World}(s:HSim c h w)(k:E.ok c h w)(vs:Array Value)(T:TypeId) :
  ∃c',c.le c'/\HSim c' h (w.alloc (.cells vs T))/\E.ok c' h (w.alloc (.cells vs T))/\∀(j:Nat) (v:Value),vs[j]?=some v->c'.D w.heap.size j=some v:=by
 have hw:∀b,b<w.heap.size->(w.alloc (.cells vs T)).heap[b]?=w.heap[b]?:=λb hb=>heap_alloc_old w _ b hb
 let c':Ctx:={ c with D:=λb j=>if b=w.heap.size then vs[j]? else c.D b j }
 have ij:c.le c':=⟨λb j v hv=>by
  have it:b≠w.heap.size:=λe=>by rw[e,s.noD (cn _)]at hv;cases hv
  simp[c',it,hv],λ_ _ h=>h,λ_ _ _ h=>h⟩
 refine⟨c',ij,s.ext hw ij (λ_ _=>rfl) (λb j v hv=>?_) s.dom,k.ext' s hw ij (λ_=>rfl) rfl rfl rfl (qdy w _) (λb j v hv=>by
  by_cases hb:b=w.heap.size
  .omega
  .exact .inl (by simpa[c',hb]using hv)),λj v hv=>by simp[c',hv]⟩
 by_cases hb:b=w.heap.size
 .subst hb;simp only[c',if_true]at hv;refine .inr ⟨cn _,?_⟩;rw[cell_of_row _ _ j vs T (0,0) (heap_alloc_new w _)];exact hv
 .grind
theorem jg4{E:Ent}{c:Ctx}{h:g9}{w:World}(s:HSim c h w)(k:E.ok c h w)(n:Nat):HSim c h { w with drawn:=n }/\E.ok c h { w with drawn:=n } :=
 ⟨s.ext (w':={ w with drawn:=n }) (λ_ _=>rfl) (.refl c) (λ_ _=>rfl) (λ_ _ _ h=>.inl h) s.dom,k.ext' s (w':={ w with drawn:=n }) (λ_ _=>rfl) (.refl c) (λ_=>rfl) rfl rfl rfl (cn _) (λ_ _ _ h=>.inl h)⟩
theorem m7{α:Type}{l:List α}{i j:Nat}{x y:α}(h:(l.set i x)[j]?=some y):(j=i/\y=x)\/(j≠i/\l[j]?=some y):=af
theorem xpd{E:Ent}{c:Ctx}{h:g9}{w:World}(s:HSim c h w)(k:E.ok c h w){i b:Nat}{xs xs':List AV}{vs vs':Array Value}{T:TypeId}
  (hi:h[i]?=some (.cells xs)) (hb:c.blk i=some b) (hh:w.heap[b]?=some (.cells vs T (0,0))) (hl:vs'.size=xs'.length)
  (hr:∀(j:Nat) (x:AV) (v:Value),xs'[j]?=some x->vs'[j]?=some v->Rel c x v/\v.oneCell'=true) :
  HSim c (h.set i (.cells xs')) (w.setRow b vs')/\E.ok c (h.set i (.cells xs')) (w.setRow b vs'):=by
 have ov:∀g,g≠b->(w.setRow b vs').heap[g]?=w.heap[g]?:=λg hg=>setRow_other w b g vs' hg;have ry:je c i (.cells xs)=some b:=hb;have hsize:(w.setRow b vs').heap.size=w.heap.size:=ac;have o9:∀j o b',(h.set i (.cells xs'))[j]?=some o->je c j o=some b'->∃o0,h[j]?=some o0/\je c j o0=some b':=λj o b' hj iq=>by
  rcases m7 hj with⟨rfl,rfl⟩|⟨it,h1⟩
  .exact⟨_,hi,iq⟩
  .grind
 constructor
 .refine⟨λg j v hD=>?_,λj hj=>s.dom j af,λj o hj=>?_,λj j' o o' b' hj ny kr nm=>?_,λj o b' m v hj kr hD=>?_⟩
  .have hg:g≠b:=λe=>by
    subst e;exact s.sep i _ g j v hi ry hD
   rw[World.cell?_of_block (w:=w) (ov g hg)];exact s.data g j v hD
  .rcases m7 hj with⟨rfl,rfl⟩|⟨it,h1⟩
   .exact⟨b,vs',T,hb,setRow_heap w b vs vs' T (0,0) hh,hl,hr⟩
   .refine(s.obj j o h1).keep (.refl c) (λ_=>rfl) λb' iq=>ov b' λe=>it ?_;subst e;exact s.apart j i o _ b' h1 hi iq ry
  .obtain⟨o1,h1,mz⟩:=o9 j o b' hj kr;obtain⟨o2,h2,zq⟩:=o9 j' o' b' ny nm;exact s.apart j j' o1 o2 b' h1 h2 mz zq
  .rcases m7 hj with⟨rfl,rfl⟩|⟨it,h1⟩
   .have:=s.sep j (.cells xs) b' m v hi kr hD;exact this
   .exact s.sep j o b' m v h1 kr hD
 .refine⟨k.edom,k.ext,k.blk0,bs,k.os,k.tape,k.output,qgx,λg hg kf=>?_,λj o b' hj kr=>?_,k.dold⟩
  .have it:g≠b:=λe=>by
    subst e;rcases k.newobj i _ g hi ry with⟨i0,o0,h0,h1⟩|h2
    .grind
    .omega
   rw[ov g it];exact k.frame g hg kf
  .obtain⟨o1,h1,mz⟩:=o9 j o b' hj kr;exact k.newobj j o1 b' h1 mz
mutual
def AV.norm(h:g9):AV->AV
 | .nils=>.slice []
 | .own i n=>match h[i]? with
  |some (.arr _ _ rows)=>if rows.length=n then .slice rows else .own i n
  |_=>.own i n
 | .agg xs=>.agg (ko h xs)
 | .tuple xs=>.tuple (ko h xs)
 | .iface t v=>.iface t (v.norm h)
 | .opt g v=>.opt g v
 | .top=>.top
 | .val v=>.val v
 | .slice r=>.slice r
 | .ptr i o=>.ptr i o
 | .eptr c=>.eptr c
 | .lit c=>.lit c
 | .cap r=>.slice r
 | .mapr i=>.mapr i
 | .fn f a b=>.fn f a b
 | .optr i n sz r q=>.optr i n sz r q
def ko(h:g9):List AV->List AV
 | []=>[]
 |x::xs=>x.norm h::ko h xs
end
theorem qdi(h:g9):∀xs,ko h xs=xs.map (AV.norm h)
 | []=>rfl
 |x::xs=>by simp[ko,qdi h xs]
def Ctx.share(c:Ctx)(_:g9)(_:World):Ctx:=c
theorem qww(c:Ctx)(h:g9)(w:World):c.le (c.share h w):=.refl c
theorem qxo{E:Ent}{c:Ctx}{h:g9}{w:World}(s:HSim c h w)(k:E.ok c h w):HSim (c.share h w) h w/\E.ok (c.share h w) h w:=⟨s,k⟩
theorem jkt{c:Ctx}{h:g9}{w:World}(s:HSim c h w){i:Nat}{e sz:Nat}{rows:List (List AV)}(hi:h[i]?=some (.arr e sz rows)){v:Value}(hv:c.sl i rows.length=some v) :
  DRel (c.share h w).D (.slice rows) v:=by
 obtain⟨v',vs,h1,ho,_,h2,h3,h4,h5,h6⟩:=s.obj i _ hi;rw[hv]at h1;cases h1;rcases h2.2 with⟨rfl,hn⟩|⟨g,cap,cur,rfl,hg,hh,ng,lw,md,xy⟩
 .have:rows=[]:=fg hn;subst this;exact .nil
 .have mb:∀(i' j:Nat) (r:List AV) (x:AV),rows[i']?=some r->r[j]?=some x->∃u,vs[i' * sz+j]?=some u/\DRel c.D x u/\(c.share h w).D g (0+i' * sz+j)=some u:=by
   intro i' j r x hr hx;obtain⟨u,hu,hd⟩:=h5 i' j r x hr hx;have oz:=h4 r (cv hr);have hj:j<sz:=af;have ke:i'<rows.length:=(cm.1 hr).1;have il:i' * sz+j<rows.length * sz:=af;refine⟨u,hu,hd,?_⟩;rw[cz];obtain⟨u',wo⟩:=h6 g (i' * sz+j) rfl il;have hw:=s.data _ _ _ wo;rw[cell_of_row w g _ cur e (0,0) hh]at hw;rw[<-xy,dt,if_pos il]at hu;have:u'=u:=af;rw[<-this];exact wo
  exact .slice rows g 0 cap sz (λi' j=>(vs[i' * sz+j]?).getD undef) h4 h3 ng (λi' j r x hr hx=>by
   obtain⟨u,hu,hd,hD⟩:=mb i' j r x hr hx;rw[hu];exact hD) λi' j r x hr hx=>by
   obtain⟨u,hu,hd,hD⟩:=mb i' j r x hr hx;rw[hu];exact hd.mono (qww c h w).D
theorem qdw{c:Ctx}{h:g9}{w:World}(s:HSim c h w){x:AV}{v:Value}(hr:Rel c x v):Rel (c.share h w) (x.norm h) v:=by
 have ij:=qww c h w
 induction hr with
 |data hd =>
  cases hd with
  |val _ _ hs=>exact Rel.val _ hs
  |nil=>exact .data .nil
  |empty a=>exact .data (.empty a)
  |slice rows b off cap sz g jx hB hc hD hh=>exact(Rel.data (.slice rows b off cap sz g jx hB hc hD hh)).mono ij
 |top v=>exact .top v
 |val v hs=>exact .val v hs
 |nils=>exact .data .nil
 |agg xs vs hl ho h ih =>
  simp only[AV.norm,qdi];refine .agg _ vs qgk ho λj x v hx hv=>?_;simp only[di,db]at hx;obtain⟨y,hy,rfl⟩:=hx;exact ih j y v hy hv
 |tuple xs vs hl h ih =>
  simp only[AV.norm,qdi];refine .tuple _ vs qgk λj x v hx hv=>?_;simp only[di,db]at hx;obtain⟨y,hy,rfl⟩:=hx;exact ih j y v hy hv
 |ptr i off b h=>exact .ptr i off b h
 |eptr cells b o g hD h=>exact(Rel.eptr cells b o g hD h).mono ij
 |lit cells b o cap g hD h ho=>exact(Rel.lit cells b o cap g hD h ho).mono ij
 |cap rows a n h=>exact .data (h.mono ij.D)
 |mapr i b h=>exact .mapr i b h
 |fn f ys xs us vs po hl h' h ih' ih=>exact(Rel.fn f ys xs us vs po hl h' h).mono ij
 |iface t x v h ih=>exact .iface t _ v ih
 |own i n v hv ho =>
  simp only[AV.norm];split
  .rename_i e sz rows hi;split
   .rename_i hn;subst hn;exact .data (jkt s hi hv)
   .exact(Rel.own i n v hv ho).mono ij
  .exact(Rel.own i n v hv ho).mono ij
 |opt g x v h hn ih=>exact(Rel.opt g x v h hn).mono ij
 |optr i n sz r q b o len cap h=>exact .optr i n sz r q b o len cap h
inductive TK where
 |other
 |bool
 |int (k:IntKind)
 |string
 |struct (fs:List (Nat×Nat))
 |array (n e sz:Nat)
 |slice (e sz:Nat)
 |map (k e:Nat)
 |iface
 |ptr
 |func
structure TI where
 size:Nat
 bytes:Nat
 zero:List AV
 kind:TK
def qd(P:Program):TypeDesc->TK
 | .bool=>.bool
 | .int k=>.int k
 | .string=>.string
 | .struct fs=>if fs.toList.all λf=>(P.info? f.type).isSome then .struct (fs.toList.map λf=>(f.offset,P.cellsOf f.type))else .other
 | .array n e=>if (P.info? e).isSome then .array n e (P.cellsOf e)else .other
 | .slice e=>if (P.info? e).isSome then .slice e (P.cellsOf e)else .other
 | .map k e=>.map k e
 | .interface _=>.iface
 | .pointer _=>.ptr
 | .func _ _ _=>.func
 |_=>.other
def ti(P:Program)(t:TypeId):Option TI :=
 match P.info? t,P.underlying t with
 |some i,some d=>match i.zero with
  |some z=>if z.cells.size=i.size/\z.cells.toList.all (·.oneCell')=true then some ⟨i.size,i.bytes,z.cells.toList.map ul,qd P d⟩else none
  |none=>none
 |_,_=>none
theorem xdx{P:Program}{t:TypeId}{x:TI}(h:ti P t=some x) :
  ∃i d z,P.info? t=some i/\P.underlying t=some d/\i.zero=some z/\x=⟨i.size,i.bytes,z.cells.toList.map ul,qd P d⟩/\z.cells.size=i.size/\∀v,v∈z.cells.toList->v.oneCell'=true:=by
 unfold ti at h;split at h
 .grind
 .cases h
def TK.agg:TK->Bool
 | .struct _| .array ..=>true
 |_=>false
def im(P:Program)(t:TypeId):TK:=match ti P t with|some x=>x.kind|none=>.other
def jd(P:Program)(t:TypeId):Nat:=match ti P t with|some x=>x.size|none=>0
def jh(P:Program)(t:TypeId):List AV:=match ti P t with|some x=>x.zero|none=>[]
structure SV where
 side:Prop
 val:AV
def SV.no:SV:=⟨False,.top⟩
def xdu(op:BinOp)(k:IntKind)(a b:Int):SV :=
 match op with
 | .add=>⟨True,.val (.int k (k.wrap (a+b)))⟩
 | .sub=>⟨True,.val (.int k (k.wrap (a - b)))⟩
 | .mul=>⟨True,.val (.int k (k.wrap (a * b)))⟩
 | .quo=>⟨b≠0,.val (.int k (k.wrap (a.tdiv b)))⟩
 | .rem=>⟨b≠0,.val (.int k (a.tmod b))⟩
 | .eql=>⟨True,.val (.bool (decide (a=b)))⟩
 | .neq=>⟨True,.val (.bool (!decide (a=b)))⟩
 | .lss=>⟨True,.val (.bool (decide (a<b)))⟩
 | .leq=>⟨True,.val (.bool (decide (a<=b)))⟩
 | .gtr=>⟨True,.val (.bool (decide (b<a)))⟩
 | .geq=>⟨True,.val (.bool (decide (b<=a)))⟩
 | .and=>⟨True,.val (.int k (k.wrap (BitVec.ofInt k.bits a &&& BitVec.ofInt k.bits b).toNat))⟩
 | .or=>⟨True,.val (.int k (k.wrap (BitVec.ofInt k.bits a ||| BitVec.ofInt k.bits b).toNat))⟩
 | .xor=>⟨True,.val (.int k (k.wrap (BitVec.ofInt k.bits a ^^^ BitVec.ofInt k.bits b).toNat))⟩
 | .andNot=>⟨True,.val (.int k (k.wrap (BitVec.ofInt k.bits a &&& ~~~ BitVec.ofInt k.bits b).toNat))⟩
 |_=>.no
def js(a b:ByteArray):Bool:=Op.bytesLess a.toList b.toList
def xgw(op:BinOp)(a b:ByteArray):SV :=
 match op with
 | .add=>⟨a.size+b.size<=68719476736,.val (.string (a++b))⟩
 | .eql=>⟨True,.val (.bool (decide (a=b)))⟩
 | .neq=>⟨True,.val (.bool (!decide (a=b)))⟩
 | .lss=>⟨True,.val (.bool (js a b))⟩
 | .leq=>⟨True,.val (.bool (js a b||decide (a=b)))⟩
 | .gtr=>⟨True,.val (.bool (!(js a b||decide (a=b))))⟩
 | .geq=>⟨True,.val (.bool (!(js a b)))⟩
 |_=>.no
def qzb(g:TypeId->Option (List TK))(P:Program):Nat->List Field->Option (List TK)
 |_,[]=>some []
 |off,f::fs =>
  if f.name≠ "_"/\f.offset=off then
   match g f.type with
   |some ks=>if ks.length=P.cellsOf f.type then(qzb g P (off+ks.length) fs).map (ks++·)else none
   |none=>none
  else none
def qm1(P:Program):Nat->TypeId->Option (List TK)
 | 0,_=>none
 |d+1,t =>
  match P.underlying t with
  |some .bool=>some [.bool]
  |some (.int k)=>some [.int k]
  |some .string=>some [.string]
  |some (.struct fs)=>if P.stoodInHeld t=true then none else qzb (qm1 P d) P 0 fs.toList
  |_=>none
def qkr(P:Program)(t:TypeId):List TK :=
 if P.eqGuardType P.depth t=false/\(im P t).agg=true then(qm1 P 8 t).getD []else []
def zo:List TK->List AV->Prop
 | [],[]=>True
 | .bool::ks,.val (.bool _)::xs=>zo ks xs
 | .int k::ks,.val (.int k' _)::xs=>k'=k/\zo ks xs
 | .string::ks,.val (.string _)::xs=>zo ks xs
 |_,_=>False
def eqA:List AV->List AV->Bool
 | [],[]=>true
 | .val (.bool a)::xs,.val (.bool b)::ys=>decide (a=b)&&eqA xs ys
 | .val (.int _ a)::xs,.val (.int _ b)::ys=>decide (a=b)&&eqA xs ys
 | .val (.string a)::xs,.val (.string b)::ys=>decide (a=b)&&eqA xs ys
 |_,_=>false
def xb4(P:Program)(t:TypeId):Bool :=
 match P.underlying t with
 |some (.interface ms)=>ms.isEmpty
 |_=>false
def xbf(P:Program)(op:BinOp)(T:TypeId)(x y:AV):SV :=
 match x,y with
 | .val (.int k a),.val (.int k' b) =>
  match op with
  | .shl=>⟨0<=b,.val (.int k (k.wrap (a * 2 ^ (min b.toNat k.bits))))⟩
  | .shr=>⟨0<=b,.val (.int k (a.fdiv (2 ^ (min b.toNat k.bits))))⟩
  |op=>⟨k=k'/\(xdu op k a b).side,(xdu op k a b).val⟩
 | .val (.string a),.val (.string b)=>xgw op a b
 | .val (.bool a),.val (.bool b) =>
  match op with
  | .eql=>⟨im P T=.bool,.val (.bool (decide (a=b)))⟩
  | .neq=>⟨im P T=.bool,.val (.bool (!decide (a=b)))⟩
  |_=>.no
 | .agg xs,.agg ys =>
  match op with
  | .eql=>⟨qkr P T≠[]/\zo (qkr P T) xs/\zo (qkr P T) ys,.val (.bool (eqA xs ys))⟩
  | .neq=>⟨qkr P T≠[]/\zo (qkr P T) xs/\zo (qkr P T) ys,.val (.bool (!eqA xs ys))⟩
  |_=>.no
 | .iface _ _,.val .nilIface =>
  match op with
  | .eql=>⟨im P T=.iface,.val (.bool false)⟩
  | .neq=>⟨im P T=.iface,.val (.bool true)⟩
  |_=>.no
 | .val .nilIface,.val .nilIface =>
  match op with
  | .eql=>⟨xb4 P T=true,.val (.bool true)⟩
  | .neq=>⟨xb4 P T=true,.val (.bool false)⟩
  |_=>.no
 |_,_=>.no
def qlb(s:Nat)(agg:Bool)(cells:List AV):SV :=
 match agg with
 |true=>⟨s<=cells.length,.agg (cells.take s)⟩
 |false=>⟨0<cells.length,cells.getD 0 .top⟩
def quj(P:Program)(t:TypeId)(a:AV)(h:g9):SV :=
 match a with
 | .ptr i off=>match h[i]? with
  |some (.cells xs)=>⟨(qlb (jd P t) (im P t).agg (xs.drop off)).side/\im P t≠.other,(qlb (jd P t) (im P t).agg (xs.drop off)).val⟩
  |_=>.no
 | .eptr cells=>⟨(qlb (jd P t) (im P t).agg cells).side/\im P t≠.other,(qlb (jd P t) (im P t).agg cells).val⟩
 | .optr i n sz r q=>match h[i]? with
  |some (.uarr _ ky rows)=>⟨rows.length=n/\ky=sz/\r<rows.length/\(qlb (jd P t) (im P t).agg ((rows.getD r []).drop q)).side/\im P t≠.other,(qlb (jd P t) (im P t).agg ((rows.getD r []).drop q)).val⟩
  |some (.oarr _ ky rows)=>⟨rows.length=n/\ky=sz/\r<rows.length/\(qlb (jd P t) (im P t).agg ((rows.getD r []).drop q)).side/\im P t≠.other,(qlb (jd P t) (im P t).agg ((rows.getD r []).drop q)).val⟩
  |_=>.no
 |_=>.no
def qzh(P:Program)(s f:Nat):Option (Nat×Nat) :=
 match im P s with
 | .struct fs=>match fs[f]? with
  |some (o,n)=>if n=0 then none else some (o,n)
  |none=>none
 |_=>none
def AV.cells:AV->List AV
 | .agg xs=>xs
 |y=>[y]
def AV.one:AV->Bool
 | .val v=>v.oneCell'
 | .nils| .slice _| .ptr .. | .eptr _| .mapr _| .fn .. | .iface .. | .own .. | .optr .. | .cap _=>true
 |_=>false
def AV.cellsOk:AV->Bool
 | .agg _=>true
 |y=>y.one
def qw8(fs:List (Nat×Nat)):List (Nat×AV)->List AV->Option (List AV)
 | [],cells=>some cells
 |(i,x)::rest,cells =>
  match fs[i]? with
  |some (o,n)=>if x.cellsOk=true/\x.cells.length=n/\o+n<=cells.length then qw8 fs rest (cells.take o++x.cells++cells.drop (o+n))else none
  |none=>none
def qqn(P:Program)(t:TypeId):List (Nat×Nat) :=
 match im P t with
 | .struct fs=>fs
 | .array n _ sz=>(List.range n).map λi=>(i * sz,sz)
 |_=>[]
def xbc(s:ByteArray)(n:Int):UInt8:=s.data.toList.getD n.toNat 0
def qd9(P:Program)(T:TypeId)(x i:AV)(h:g9):SV :=
 match im P T,x,i with
 | .slice _ sz,.slice rows,.val (.int _ n)=>⟨0<=n/\n.toNat<rows.length/\(rows.getD n.toNat []).length=sz/\0<sz,.eptr (rows.getD n.toNat [])⟩
 | .array len _ sz,.ptr o off,.val (.int _ n)=>⟨0<=n/\n.toNat<len/\0<sz,.ptr o (off+n.toNat * sz)⟩
 | .array len _ sz,.eptr cells,.val (.int _ n)=>⟨0<=n/\n.toNat<len/\0<sz,.eptr (cells.drop (n.toNat * sz))⟩
 | .array len _ sz,.optr o m ky r q,.val (.int _ n)=>⟨0<=n/\n.toNat<len/\0<sz,.optr o m ky r (q+n.toNat * sz)⟩
 | .slice _ sz,.own o m,.val (.int _ n)=>match h[o]? with
  |some (.uarr _ ky rows)=>⟨rows.length=m/\ky=sz/\0<=n/\n.toNat<rows.length/\0<sz,.optr o m sz n.toNat 0⟩
  |some (.oarr _ ky rows)=>⟨rows.length=m/\ky=sz/\0<=n/\n.toNat<rows.length/\0<sz,.optr o m sz n.toNat 0⟩
  |_=>.no
 |_,_,_=>.no
def xb0(P:Program)(T:TypeId)(x i:AV):SV :=
 match im P T,x,i with
 | .string,.val (.string s),.val (.int _ n)=>⟨0<=n/\n.toNat<s.size,.val (.int .u8 (xbc s n).toNat)⟩
 | .array len e sz,.agg cs,.val (.int _ n)=>⟨0<=n/\n.toNat<len/\n.toNat<cs.length/\sz=1/\im P e≠.other/\(im P e).agg=false,cs.getD n.toNat .top⟩
 |_,_,_=>.no
def qun(P:Program)(T:TypeId)(x:AV)(h:g9):SV :=
 match im P T,x with
 | .slice ..,.slice rows=>⟨True,.val (.int .i64 rows.length)⟩
 | .slice ..,.nils=>⟨True,.val (.int .i64 0)⟩
 | .slice ..,.own o m=>match h[o]? with
  |some (.uarr _ _ rows)=>⟨rows.length=m,.val (.int .i64 rows.length)⟩
  |some (.oarr _ _ rows)=>⟨rows.length=m,.val (.int .i64 rows.length)⟩
  |_=>.no
 | .string,.val (.string s)=>⟨True,.val (.int .i64 s.size)⟩
 | .array n _ _,_=>⟨True,.val (.int .i64 n)⟩
 | .map ..,.mapr i=>match h[i]? with
  |some (.map es)=>⟨True,.val (.int .i64 es.length)⟩
  |_=>.no
 |_,_=>.no
def qvq(d:Int):Option AV->Option Int
 |none=>some d
 |some (.val (.int _ n))=>some n
 |some _=>none
def RowsLen(sz:Nat)(rows:List (List AV)):Prop:=∀r,r∈rows->r.length=sz
def xai(P:Program)(T:TypeId)(x hi mx:AV):SV :=
 match mx,hi with
 | .val (.int _ k),.val (.int _ h) =>
  match im P T,x with
  | .slice ..,.slice rows=>⟨0<=h/\h<=rows.length/\k=h,.cap (rows.take h.toNat)⟩
  |_,_=>.no
 |_,_=>.no
def xbs(P:Program)(T:TypeId)(x:AV)(lo hi mx:Option AV):SV :=
 match mx with
 |some m =>
  match lo,hi with
  |none,some h=>xai P T x h m
  |_,_=>.no
 |none =>
  match im P T,x with
  | .slice _ sz,.slice rows =>
   match qvq 0 lo,qvq rows.length hi with
   |some l,some h=>⟨0<=l/\l<=h/\h<=rows.length/\RowsLen sz rows,.slice ((rows.take h.toNat).drop l.toNat)⟩
   |_,_=>.no
  | .string,.val (.string s) =>
   match qvq 0 lo,qvq s.size hi with
   |some l,some h=>⟨0<=l/\l<=h/\h<=s.size,.val (.string (s.extract l.toNat h.toNat))⟩
   |_,_=>.no
  |_,_=>.no
def strKeys:List (AV×AV)->Option (List (ByteArray×AV))
 | []=>some []
 |(.val (.string s),v)::l=>(strKeys l).map ((s,v)::·)
 |_=>none
def ra(l:List (ByteArray×AV)):List (AV×AV):=l.map λp=>(.val (.string p.1),p.2)
def qsw:List (ByteArray×AV)->ByteArray->Option AV
 | [],_=>none
 |p::l,s=>if p.1=s then some p.2 else qsw l s
def qsi:List (ByteArray×AV)->ByteArray->AV->List (ByteArray×AV)
 | [],s,v=>[(s,v)]
 |p::l,s,v=>if p.1=s then(s,v)::l else p::qsi l s v
def quw:List (ByteArray×AV)->ByteArray->List (ByteArray×AV)
 | [],_=>[]
 |p::l,s=>if p.1=s then l else p::quw l s
def qtv(P:Program)(e:TypeId):Option AV :=
 match P.info? e with
 |some i=>match i.zero with
  |some (.agg vs)=>if vs.toList.all (·.oneCell')=true then some (.agg (vs.toList.map ul))else none
  |some z=>some (ul z)
  |none=>none
 |none=>none
def qub(P:Program)(T:TypeId)(x i:AV)(ok:Bool)(h:g9):SV :=
 match im P T,x,i with
 | .map k e,.mapr o,.val (.string s)=>match h[o]? with
  |some (.map es)=>match strKeys es,qtv P e with
   |some l,some z=>⟨im P k=.string,match ok with
    |true=>.tuple [(qsw l s).getD z,.val (.bool (qsw l s).isSome)]
    |false=>(qsw l s).getD z⟩
   |_,_=>.no
  |_=>.no
 |_,_,_=>.no
def qzc(x y:AV):SV :=
 match x,y with
 | .val (.int k a),.val (.int k' b)=>⟨k=k',.val (.int k (if b<a then b else a))⟩
 |_,_=>.no
def xac(x y z:AV):SV :=
 match x,y,z with
 | .val (.int k a),.val (.int k' b),.val (.int k2 c)=>⟨k=k'/\k=k2,.val (.int k (if c<(if b<a then b else a)then c else(if b<a then b else a)))⟩
 |_,_,_=>.no
def qz8(x y:AV):SV :=
 match x,y with
 | .val (.int k a),.val (.int k' b)=>⟨k=k',.val (.int k (if a<b then b else a))⟩
 |_,_=>.no
def xmo(P:Program)(src:TypeId):Prop:=match im P src with| .slice e sz=>sz=1/\im P e=.int .u8|_=>False
def xa9(P:Program)(src dst:TypeId)(x:AV):SV :=
 match im P dst,x with
 | .int k,.val (.int _ n)=>⟨im P src≠.other,.val (.int k (k.wrap n))⟩
 | .string,.val (.string s)=>⟨im P src≠.other,.val (.string s)⟩
 | .string,.slice [[.val (.int .u8 n)]]=>⟨xmo P src,.val (.string ⟨#[UInt8.ofNat n.toNat]⟩)⟩
 |_,_=>.no
def xbu(P:Program)(dst:TypeId)(ok:Bool)(x:AV):SV :=
 match x,ok with
 | .iface t v,true=>match t == dst with
  |true=>⟨im P dst≠.iface/\im P dst≠.other,.tuple [v,.val (.bool true)]⟩
  |false=>match qtv P dst with
   |some z=>⟨im P dst≠.iface/\im P dst≠.other,.tuple [z,.val (.bool false)]⟩
   |none=>.no
 | .iface t v,false=>⟨t=dst/\im P dst≠.iface/\im P dst≠.other,v⟩
 | .val .nilIface,true=>match qtv P dst with
  |some z=>⟨im P dst≠.iface/\im P dst≠.other,.tuple [z,.val (.bool false)]⟩
  |none=>.no
 |_,_=>.no
def xug(P:Program)(s f:Nat):Option (Nat×TypeId) :=
 match P.underlying s with
 |some (.struct fs)=>(fs[f]?).map λd=>(d.offset,d.type)
 |_=>none
def qg(P:Program)(g:Operand->AV)(h:g9):Op->SV
 | .move x| .assign x=>⟨True,g x⟩
 | .build t parts =>
  match qw8 (qqn P t) (parts.toList.map λp=>(p.1,g p.2)) (jh P t)with
  |some cells=>⟨(im P t).agg=true,.agg cells⟩
  |none=>.no
 | .load t a=>quj P t (g a) h
 | .nilCheck x =>
  match g x with
  | .ptr i o=>⟨True,.ptr i o⟩
  | .eptr c=>⟨True,.eptr c⟩
  | .optr i n sz r q=>⟨True,.optr i n sz r q⟩
  | .fn (.func f) a c=>⟨True,.fn (.func f) a c⟩
  |_=>.no
 | .binOp op T x y _=>xbf P op T (g x) (g y)
 | .unOp .not _ x=>match g x with
  | .val (.bool b)=>⟨True,.val (.bool (!b))⟩
  |_=>.no
 | .unOp .neg _ x=>match g x with
  | .val (.int k n)=>⟨True,.val (.int k (k.wrap (0 - n)))⟩
  |_=>.no
 | .convert src dst x=>xa9 P src dst (g x)
 | .makeInterface T x=>⟨im P T≠.iface/\im P T≠.other,.iface T (g x)⟩
 | .makeFunc f first caps=>⟨True,.fn f (first.toList.map g) (caps.toList.map g)⟩
 | .fieldAddr s x f =>
  match qzh P s f,g x with
  |some (o,_),.ptr i off=>⟨True,.ptr i (off+o)⟩
  |some (o,_),.eptr cells=>⟨True,.eptr (cells.drop o)⟩
  |some (o,_),.optr i n sz r q=>⟨True,.optr i n sz r (q+o)⟩
  |_,_=>.no
 | .indexAddr T x i=>qd9 P T ((g x).norm h) (g i) h
 | .field s x f =>
  match xug P s f,g x with
  |some (o,t),.agg cs=>⟨o<cs.length/\im P t≠.other/\(im P t).agg=false,cs.getD o .top⟩
  |_,_=>.no
 | .index T x i=>xb0 P T (g x) (g i)
 | .lookup T x i ok=>qub P T (g x) (g i) ok h
 | .typeAssert x _ dst ok=>xbu P dst ok (g x)
 | .extract x n =>
  match g x with
  | .tuple vs=>⟨n<vs.length,vs.getD n .top⟩
  |_=>.no
 | .slice T x lo hi mx=>xbs P T ((g x).norm h) (lo.map g) (hi.map g) (mx.map g)
 | .call { callee:=.builtin .len,args,argTypes }=>match args.toList,argTypes.toList with
  | [x],[T]=>qun P T ((g x).norm h) h
  |_,_=>.no
 | .call { callee:=.builtin .min,args,.. }=>match args.toList with
  | [x,y]=>qzc (g x) (g y)
  | [x,y,z]=>xac (g x) (g y) (g z)
  |_=>.no
 | .call { callee:=.builtin .max,args,.. }=>match args.toList with
  | [x,y]=>qz8 (g x) (g y)
  |_=>.no
 |_=>.no
end Go.Abs
