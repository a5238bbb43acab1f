/- Part 7 of a proof. -/
import Derived.Test.YtolejdhnnchfpaaGreatDoorQ06
set_option linter.all false
namespace Go.Abs
theorem xdp{E:Ent}{c:Ctx}{h:g9}{w:World}(s:HSim c h w)(k:E.ok c h w)(e:TypeId)(sz:Nat) :
  c.le (c.addSl h.length 0 (.slice none 0 0))/\HSim (c.addSl h.length 0 (.slice none 0 0)) (h++[.uarr e sz []]) w/\E.ok (c.addSl h.length 0 (.slice none 0 0)) (h++[.uarr e sz []]) w:=by
 have ij:c.le (c.addSl h.length 0 (.slice none 0 0)):=Ctx.addSl_le ((s.dom _ (cn _)).2 0);have na:∀i,i<h.length->∀m,(c.addSl h.length 0 (.slice none 0 0)).sl i m=c.sl i m:=λi hi m=>by grind[Ctx.addSl]
 have il:∀{i:Nat} {o:AObj},h[i]?=some o->i<h.length:=λhi=>(cm.1 hi).1;have ue:je (c.addSl h.length 0 (.slice none 0 0)) h.length (.uarr e sz [])=none:=qgy;refine⟨ij,⟨s.data,λi hi=>?_,λi o hi=>?_,λi j o o' b hi hj hb iq=>?_,λi o b j v hi hb hD=>?_⟩,⟨k.edom,k.ext.trans ij,k.blk0,qe1,k.os,k.tape,k.output,k.size,k.frame,λi o b hi hb=>?_,k.dold⟩⟩
 .simp only[c7,dy,ed]at hi;have:=s.dom i aa;refine⟨this.1,λm=>?_⟩;simp only[Ctx.addSl];rw[if_neg aa];exact this.2 m
 .rcases oy hi with h1|⟨rfl,rfl⟩
  .exact(s.obj i o h1).keep ij (na i (il h1)) λ_ _=>rfl
  .refine⟨.slice none 0 0,[],bj,rfl,λm hm=>?_,World.ownsRow_nil w 0 e sz,ac,ac,ac⟩;simp only[Ctx.addSl];rw[if_neg aa];exact(s.dom _ (cn _)).2 m
 .rcases oy hi with h1|⟨rfl,rfl⟩<;>rcases oy hj with h2|⟨rfl,rfl⟩
  .rw[(s.obj i o h1).blk ij]at hb;rw[(s.obj j o' h2).blk ij]at iq;exact s.apart i j o o' b h1 h2 hb iq
  .grind
  .grind
  .rfl
 .rcases oy hi with h1|⟨rfl,rfl⟩
  .rw[(s.obj i o h1).blk ij]at hb;exact s.sep i o b j v h1 hb hD
  .grind
 .rcases oy hi with h1|⟨rfl,rfl⟩
  .rw[(s.obj i o h1).blk ij]at hb;exact k.newobj i o b h1 hb
  .grind
theorem xqs{E:Ent}{c:Ctx}{h:g9}{w w':World}(s:HSim c h w)(k:E.ok c h w){i e sz:Nat}{rows rows':List (List AV)}{v v':Value}{us:List Value}(hi:h[i]?=some (.uarr e sz rows))
  (hv:c.sl i rows.length=some v) (qm:rows.length<rows'.length) (jm:rows'.length<=68719476736) (my:∀r,r∈rows'->r.length=sz)
  (hus:∀(i' j:Nat) (r:List AV) (x:AV),rows'[i']?=some r->r[j]?=some x->∃u,us[i' * sz+j]?=some u/\DRel c.D x u) (ho:v'.oneCell'=true)
  (qng:w'.ownsRow 0 e sz v' rows'.length us) (zz:w'.os=w.os) (ht:w'.tape=w.tape) (y9:w'.output=w.output) (hs:w.heap.size<=w'.heap.size)
  (te:(∃g,v.ownBlock=some g/\v'.ownBlock=some g/\∀k,k≠g->w'.heap[k]?=w.heap[k]?)\/(v'.ownBlock=some w.heap.size/\∀k,k<w.heap.size->w'.heap[k]?=w.heap[k]?)) :
  ∃c',c.le c'/\HSim c' (h.set i (.uarr e sz rows')) w'/\E.ok c' (h.set i (.uarr e sz rows')) w'/\Rel c' (.own i rows'.length) v':=by
 obtain⟨v0,vs,h1,_,vw,h2,h3,h4,h5⟩:=s.obj i _ hi;rw[hv]at h1;cases h1;have qqi:c.sl i rows'.length=none:=vw _ qm;have ij:c.le (c.addSl i rows'.length v'):=Ctx.addSl_le qqi;have na:∀j,j≠i->∀m',(c.addSl i rows'.length v').sl j m'=c.sl j m':=λj hj m'=>by grind[Ctx.addSl]
 have hslv:(c.addSl i rows'.length v').sl i rows'.length=some v':=bj;have qp5:je (c.addSl i rows'.length v') i (.uarr e sz rows')=v'.ownBlock:=bz;have hbold:je c i (.uarr e sz rows)=v.ownBlock:=bz;have ov:∀j o b,j≠i->h[j]?=some o->je c j o=some b->w'.heap[b]?=w.heap[b]?:=λj o b hj kx hb=>by
  rcases te with⟨g,hg,jp,hk⟩|⟨jp,hk⟩
  .refine hk b λe=>hj ?_;subst e;exact s.apart j i o _ b kx hi hb af
  .exact hk b ((s.obj j o kx).lt hb)
 have qnw:∀j o b,j≠i->h[j]?=some o->je c j o=some b->v'.ownBlock≠some b:=λj o b hj kx hb v6=>by
  rcases te with⟨g,hg,jp,hk⟩|⟨jp,hk⟩
  .rw[jp]at v6;cases v6;exact hj (s.apart j i o _ _ kx hi hb af)
  .rw[jp]at v6;cases v6;have:=(s.obj j o kx).lt hb;omega
 have qv6:∀b,v'.ownBlock=some b->∀j u,c.D b j=some u->False:=λb hb j u hD=>by
  rcases te with⟨g,hg,jp,hk⟩|⟨jp,hk⟩
  .rw[jp]at hb;cases hb;exact s.sep i _ _ j u hi af hD
  .rw[jp]at hb;cases hb;rw[s.noD (cn _)]at hD;cases hD
 refine⟨_,ij,⟨λb j u hD=>?_,λj hj=>?_,λj o hj=>?_,λj j' o o' b hj ny hb iq=>?_,λj o b n u hj hb hD=>?_⟩,⟨k.edom,k.ext.trans ij,k.blk0,bs,zz.trans k.os,ht.trans k.tape,y9.trans k.output,dv k.size hs,λb hb kf=>?_,λj o b hj hb=>?_,k.dold⟩,
  .own i _ v' bj ho⟩
 .have o7:c.D b j=some u:=hD;have mb:=s.data b j u o7;rcases te with⟨g,hg,jp,hk⟩|⟨jp,hk⟩
  .rw[World.cell?_of_block (w:=w) (hk b (λe=>qv6 b (by rw[jp,e]) j u o7))];exact mb
  .have hb:b<w.heap.size:=World.block_lt_of_cell? w ⟨b,j,none⟩ mb;rw[World.cell?_of_block (w:=w) (hk b hb)];exact mb
 .have ny:h.length<=j:=qfs;have hilt:i<h.length:=(cm.1 hi).1;have:=s.dom j ny;exact⟨this.1,λm'=>by rw[na j aa];exact this.2 m'⟩
 .rcases m7 hj with⟨rfl,rfl⟩|⟨it,kx⟩
  .refine⟨v',us,hslv,ho,λm' og=>?_,qng,jm,my,hus⟩;simp only[Ctx.addSl];rw[if_neg aa];exact vw m' aa
  .exact(s.obj j o kx).keep ij (na j it) λb hb=>ov j o b it kx hb
 .rcases m7 hj with⟨rfl,rfl⟩|⟨it,kx⟩<;>rcases m7 ny with⟨h6,h7⟩|⟨hne',hjo'⟩
  .omega
  .rw[qp5]at hb;rw[(s.obj j' o' hjo').blk ij]at iq;exact(qnw j' o' b hne' hjo' iq hb).elim
  .subst h6;subst h7;rw[qp5]at iq;rw[(s.obj j o kx).blk ij]at hb;exact(qnw j o b it kx hb iq).elim
  .rw[(s.obj j o kx).blk ij]at hb;rw[(s.obj j' o' hjo').blk ij]at iq;exact s.apart j j' o o' b kx hjo' hb iq
 .have o7:c.D b n=some u:=hD;rcases m7 hj with⟨rfl,rfl⟩|⟨it,kx⟩
  .grind
  .rw[(s.obj j o kx).blk ij]at hb;exact s.sep j o b n u kx hb o7
 .have it:∀g,v.ownBlock=some g->b≠g:=λg hg e=>by
   subst e;rcases k.newobj i _ b hi af with⟨i0,o0,h0,h1⟩|h2
   .grind
   .omega
  rcases te with⟨g,hg,jp,hk⟩|⟨jp,hk⟩
  .rw[hk b (it g hg)];exact k.frame b hb kf
  .rw[hk b (qi4 hb k.size)];exact k.frame b hb kf
 .rcases m7 hj with⟨rfl,rfl⟩|⟨it,kx⟩
  .rw[qp5]at hb;rcases te with⟨g,hg,jp,hk⟩|⟨jp,hk⟩
   .rw[jp]at hb;cases hb;exact k.newobj j _ _ hi af
   .rw[jp]at hb;cases hb;exact .inr k.size
  .rw[(s.obj j o kx).blk ij]at hb;exact k.newobj j o b kx hb
theorem xhn{E:Ent}{c:Ctx}{h:g9}{w:World}(s:HSim c h w)(k:E.ok c h w){i e sz:Nat}{rows:List (List AV)}(hi:h[i]?=some (.uarr e sz rows)) :
  ∃c',c.le c'/\HSim c' (h.set i (.arr e sz rows)) w/\E.ok c' (h.set i (.arr e sz rows)) w:=by
 obtain⟨v,vs,hv,ho,vw,h2,h3,h4,h5⟩:=s.obj i _ hi;have hbold:je c i (.uarr e sz rows)=v.ownBlock:=bz;have qv6:∀b,v.ownBlock=some b->∀j u,c.D b j=some u->False:=λb hb j u hD=>s.sep i _ b j u hi af hD
 let c':Ctx:={ c with D:=λb j=>if v.ownBlock=some b/\j<vs.length then vs[j]? else c.D b j }
 have hDle:∀b j u,c.D b j=some u->c'.D b j=some u:=λb j u hD=>by grind
 have ij:c.le c':=⟨hDle,λ_ _ h=>h,λ_ _ _ h=>h⟩
 have qu8:∀b j u,c'.D b j=some u->(v.ownBlock=some b/\j<vs.length/\vs[j]?=some u)\/(v.ownBlock≠some b/\c.D b j=some u):=λb j u hD=>by grind
 have qp5:je c' i (.arr e sz rows)=v.ownBlock:=by
  show(c.sl i rows.length).bind Value.ownBlock=_;rw[hv];rfl
 have qsj:∀j o b,(h.set i (.arr e sz rows))[j]?=some o->je c' j o=some b->∃o0,h[j]?=some o0/\je c j o0=some b:=λj o b hj hb=>by
  rcases m7 hj with⟨rfl,rfl⟩|⟨it,kx⟩
  .grind
  .rw[(s.obj j o kx).blk ij]at hb;exact⟨o,kx,hb⟩
 refine⟨c',ij,⟨λb j u hD=>?_,λj hj=>s.dom j af,λj o hj=>?_,λj j' o o' b hj ny hb iq=>?_,λj o b n u hj hb hD=>?_⟩,
  ⟨k.edom,k.ext.trans ij,k.blk0,bs,k.os,k.tape,k.output,k.size,k.frame,λj o b hj hb=>?_,λb j u hD=>?_⟩⟩
 .rcases qu8 b j u hD with⟨hg,_,hu⟩|⟨_,o7⟩
  .have:=h2.cells hg j u hu
   rwa [vg,cz]at this
  .exact s.data b j u o7
 .rcases m7 hj with⟨rfl,rfl⟩|⟨it,kx⟩
  .refine⟨v,vs,hv,ho,vw,h2,h3,h4,λi' j' r x hr hx=>(h5 i' j' r x hr hx).imp λu hu=>⟨hu.1,hu.2.mono hDle⟩,λb n hb hn=>?_⟩;rw[<-h2.1]at hn;refine⟨vs[n],?_⟩;simp only[c',if_pos (show v.ownBlock=some b/\n<vs.length from⟨hb,hn⟩)];exact cu hn
  .exact(s.obj j o kx).keep ij (λ_=>rfl) λ_ _=>rfl
 .obtain⟨o1,g1,g2⟩:=qsj j o b hj hb;obtain⟨o2,g3,g4⟩:=qsj j' o' b ny iq;exact s.apart j j' o1 o2 b g1 g3 g2 g4
 .rcases m7 hj with⟨rfl,rfl⟩|⟨it,kx⟩
  .rw[qp5]at hb;simp only[AObj.shares];rcases qu8 b n u hD with⟨_,hn,_⟩|⟨hg,_⟩
   .rw[<-h2.1];exact hn
   .grind
  .rw[(s.obj j o kx).blk ij]at hb;rcases qu8 b n u hD with⟨hg,_⟩|⟨_,o7⟩
   .exact(it (s.apart j i o _ b kx hi hb af)).elim
   .exact s.sep j o b n u kx hb o7
 .obtain⟨o1,g1,g2⟩:=qsj j o b hj hb;exact k.newobj j o1 b g1 g2
 .rcases qu8 b j u hD with⟨hg,_⟩|⟨_,o7⟩
  .rcases k.newobj i _ b hi af with⟨i0,o0,g1,g2⟩|g1
   .grind
   .omega
  .exact k.dold b j u o7
theorem qdt(E:Ent)(e:Env){i t sz:Nat}{rows:List (List AV)}(hi:e.h[i]?=some (.uarr t sz rows)):Wk E e ⟨e.t,e.h.set i (.arr t sz rows)⟩:=λc a w s k=>by
 obtain⟨c',ij,s',k'⟩:=xhn s.hs k hi;exact⟨c',⟨s.defers,s.size,λj=>(s.tmps j).mono ij,s'⟩,k'⟩
def v8(n0:Nat):Nat->g9->g9
 |_,[]=>[]
 |k,.uarr t sz rows::l=>(bif Nat.ble n0 k then .arr t sz rows else .uarr t sz rows)::v8 n0 (k+1) l
 |k,o::l=>o::v8 n0 (k+1) l
theorem xly(E:Ent)(n0:Nat)(t:List (Nat×AV)):∀(l done:g9),Wk E ⟨t,done++l⟩ ⟨t,done++v8 n0 done.length l⟩
 | [],done=>.refl E _
 |o::l,done=>by
  have key:∀o',Wk E ⟨t,done++o::l⟩ ⟨t,done++o'::l⟩->Wk E ⟨t,done++o::l⟩ ⟨t,done++o'::v8 n0 (done.length+1) l⟩:=λo' h=>by
   refine h.trans ?_;have:=xly E n0 t l (done++[o']);simpa using this
  cases o with
  |uarr a b r =>
   simp only[v8];cases Nat.ble n0 done.length with
   |true =>
    refine key _ ?_;have:=qdt E ⟨t,done++.uarr a b r::l⟩ (i:=done.length) (t:=a) (sz:=b) (rows:=r) ac;simpa using this
   |false=>exact key _ (.refl E _)
  |none=>exact key _ (.refl E _)
  |cells _=>exact key _ (.refl E _)
  |map _=>exact key _ (.refl E _)
  |arr _ _ _=>exact key _ (.refl E _)
  |iter _ _=>exact key _ (.refl E _)
  |raw _ _ _=>exact key _ (.refl E _)
  |oarr _ _ _=>exact key _ (.refl E _)
theorem jj9(E:Ent)(n0:Nat)(e:Env):Wk E e ⟨e.t,v8 n0 0 e.h⟩:=xly E n0 e.t e.h []
theorem xm7{E:Ent}{c:Ctx}{h:g9}{w:World}(s:HSim c h w)(k:E.ok c h w)(e:TypeId)(sz:Nat) :
  c.le (c.addSl h.length 0 (.slice none 0 0))/\HSim (c.addSl h.length 0 (.slice none 0 0)) (h++[.oarr e sz []]) w/\E.ok (c.addSl h.length 0 (.slice none 0 0)) (h++[.oarr e sz []]) w:=by
 have ij:c.le (c.addSl h.length 0 (.slice none 0 0)):=Ctx.addSl_le ((s.dom _ (cn _)).2 0);have na:∀i,i<h.length->∀m,(c.addSl h.length 0 (.slice none 0 0)).sl i m=c.sl i m:=λi hi m=>by grind[Ctx.addSl]
 have il:∀{i:Nat} {o:AObj},h[i]?=some o->i<h.length:=λhi=>(cm.1 hi).1;have ue:je (c.addSl h.length 0 (.slice none 0 0)) h.length (.oarr e sz [])=none:=qgy;refine⟨ij,⟨s.data,λi hi=>?_,λi o hi=>?_,λi j o o' b hi hj hb iq=>?_,λi o b j v hi hb hD=>?_⟩,⟨k.edom,k.ext.trans ij,k.blk0,qe1,k.os,k.tape,k.output,k.size,k.frame,λi o b hi hb=>?_,k.dold⟩⟩
 .simp only[c7,dy,ed]at hi;have:=s.dom i aa;refine⟨this.1,λm=>?_⟩;simp only[Ctx.addSl];rw[if_neg aa];exact this.2 m
 .rcases oy hi with h1|⟨rfl,rfl⟩
  .exact(s.obj i o h1).keep ij (na i (il h1)) λ_ _=>rfl
  .refine⟨.slice none 0 0,[],bj,rfl,λm hm=>?_,World.ownsRow_nil w 0 e sz,ac,ac,ac⟩;simp only[Ctx.addSl];rw[if_neg aa];exact(s.dom _ (cn _)).2 m
 .rcases oy hi with h1|⟨rfl,rfl⟩<;>rcases oy hj with h2|⟨rfl,rfl⟩
  .rw[(s.obj i o h1).blk ij]at hb;rw[(s.obj j o' h2).blk ij]at iq;exact s.apart i j o o' b h1 h2 hb iq
  .grind
  .grind
  .rfl
 .rcases oy hi with h1|⟨rfl,rfl⟩
  .rw[(s.obj i o h1).blk ij]at hb;exact s.sep i o b j v h1 hb hD
  .grind
 .rcases oy hi with h1|⟨rfl,rfl⟩
  .rw[(s.obj i o h1).blk ij]at hb;exact k.newobj i o b h1 hb
  .grind
theorem xnn{E:Ent}{c:Ctx}{h:g9}{w w':World}(s:HSim c h w)(k:E.ok c h w){i e sz:Nat}{rows rows':List (List AV)}{v v':Value}{us:List Value}(hi:h[i]?=some (.oarr e sz rows))
  (hv:c.sl i rows.length=some v) (qm:rows.length<rows'.length) (jm:rows'.length<=68719476736) (my:∀r,r∈rows'->r.length=sz)
  (hus:∀(i' j:Nat) (r:List AV) (x:AV),rows'[i']?=some r->r[j]?=some x->∃u,us[i' * sz+j]?=some u/\Rel c x u/\u.oneCell'=true) (ho:v'.oneCell'=true)
  (qng:w'.ownsRow 0 e sz v' rows'.length us) (zz:w'.os=w.os) (ht:w'.tape=w.tape) (y9:w'.output=w.output) (hs:w.heap.size<=w'.heap.size)
  (te:(∃g,v.ownBlock=some g/\v'.ownBlock=some g/\∀k,k≠g->w'.heap[k]?=w.heap[k]?)\/(v'.ownBlock=some w.heap.size/\∀k,k<w.heap.size->w'.heap[k]?=w.heap[k]?)) :
  ∃c',c.le c'/\HSim c' (h.set i (.oarr e sz rows')) w'/\E.ok c' (h.set i (.oarr e sz rows')) w'/\Rel c' (.own i rows'.length) v':=by
 obtain⟨v0,vs,h1,_,vw,h2,h3,h4,h5⟩:=s.obj i _ hi;rw[hv]at h1;cases h1;have qqi:c.sl i rows'.length=none:=vw _ qm;have ij:c.le (c.addSl i rows'.length v'):=Ctx.addSl_le qqi;have na:∀j,j≠i->∀m',(c.addSl i rows'.length v').sl j m'=c.sl j m':=λj hj m'=>by grind[Ctx.addSl]
 have hslv:(c.addSl i rows'.length v').sl i rows'.length=some v':=bj;have qp5:je (c.addSl i rows'.length v') i (.oarr e sz rows')=v'.ownBlock:=bz;have hbold:je c i (.oarr e sz rows)=v.ownBlock:=bz;have ov:∀j o b,j≠i->h[j]?=some o->je c j o=some b->w'.heap[b]?=w.heap[b]?:=λj o b hj kx hb=>by
  rcases te with⟨g,hg,jp,hk⟩|⟨jp,hk⟩
  .refine hk b λe=>hj ?_;subst e;exact s.apart j i o _ b kx hi hb af
  .exact hk b ((s.obj j o kx).lt hb)
 have qnw:∀j o b,j≠i->h[j]?=some o->je c j o=some b->v'.ownBlock≠some b:=λj o b hj kx hb v6=>by
  rcases te with⟨g,hg,jp,hk⟩|⟨jp,hk⟩
  .rw[jp]at v6;cases v6;exact hj (s.apart j i o _ _ kx hi hb af)
  .rw[jp]at v6;cases v6;have:=(s.obj j o kx).lt hb;omega
 have qv6:∀b,v'.ownBlock=some b->∀j u,c.D b j=some u->False:=λb hb j u hD=>by
  rcases te with⟨g,hg,jp,hk⟩|⟨jp,hk⟩
  .rw[jp]at hb;cases hb;exact s.sep i _ _ j u hi af hD
  .rw[jp]at hb;cases hb;rw[s.noD (cn _)]at hD;cases hD
 refine⟨_,ij,⟨λb j u hD=>?_,λj hj=>?_,λj o hj=>?_,λj j' o o' b hj ny hb iq=>?_,λj o b n u hj hb hD=>?_⟩,⟨k.edom,k.ext.trans ij,k.blk0,bs,zz.trans k.os,ht.trans k.tape,y9.trans k.output,dv k.size hs,λb hb kf=>?_,λj o b hj hb=>?_,k.dold⟩,
  .own i _ v' bj ho⟩
 .have o7:c.D b j=some u:=hD;have mb:=s.data b j u o7;rcases te with⟨g,hg,jp,hk⟩|⟨jp,hk⟩
  .rw[World.cell?_of_block (w:=w) (hk b (λe=>qv6 b (by rw[jp,e]) j u o7))];exact mb
  .have hb:b<w.heap.size:=World.block_lt_of_cell? w ⟨b,j,none⟩ mb;rw[World.cell?_of_block (w:=w) (hk b hb)];exact mb
 .have ny:h.length<=j:=qfs;have hilt:i<h.length:=(cm.1 hi).1;have:=s.dom j ny;exact⟨this.1,λm'=>by rw[na j aa];exact this.2 m'⟩
 .rcases m7 hj with⟨rfl,rfl⟩|⟨it,kx⟩
  .refine⟨v',us,hslv,ho,λm' og=>?_,qng,jm,my,λi' j' r x hr hx=>(hus i' j' r x hr hx).imp λu hu=>⟨hu.1,hu.2.1.mono ij,hu.2.2⟩⟩;simp only[Ctx.addSl];rw[if_neg aa];exact vw m' aa
  .exact(s.obj j o kx).keep ij (na j it) λb hb=>ov j o b it kx hb
 .rcases m7 hj with⟨rfl,rfl⟩|⟨it,kx⟩<;>rcases m7 ny with⟨h6,h7⟩|⟨hne',hjo'⟩
  .omega
  .rw[qp5]at hb;rw[(s.obj j' o' hjo').blk ij]at iq;exact(qnw j' o' b hne' hjo' iq hb).elim
  .subst h6;subst h7;rw[qp5]at iq;rw[(s.obj j o kx).blk ij]at hb;exact(qnw j o b it kx hb iq).elim
  .rw[(s.obj j o kx).blk ij]at hb;rw[(s.obj j' o' hjo').blk ij]at iq;exact s.apart j j' o o' b kx hjo' hb iq
 .have o7:c.D b n=some u:=hD;rcases m7 hj with⟨rfl,rfl⟩|⟨it,kx⟩
  .grind
  .rw[(s.obj j o kx).blk ij]at hb;exact s.sep j o b n u kx hb o7
 .have it:∀g,v.ownBlock=some g->b≠g:=λg hg e=>by
   subst e;rcases k.newobj i _ b hi af with⟨i0,o0,h0,h1⟩|h2
   .grind
   .omega
  rcases te with⟨g,hg,jp,hk⟩|⟨jp,hk⟩
  .rw[hk b (it g hg)];exact k.frame b hb kf
  .rw[hk b (qi4 hb k.size)];exact k.frame b hb kf
 .rcases m7 hj with⟨rfl,rfl⟩|⟨it,kx⟩
  .rw[qp5]at hb;rcases te with⟨g,hg,jp,hk⟩|⟨jp,hk⟩
   .rw[jp]at hb;cases hb;exact k.newobj j _ _ hi af
   .rw[jp]at hb;cases hb;exact .inr k.size
  .rw[(s.obj j o kx).blk ij]at hb;exact k.newobj j o b kx hb
section
variable {P:Program} {E:Ent}
theorem qcf{α:Type}{l:List α}{i:Nat}{x:α}(h:l[i]?=some x):l.set i x=l:=by
 apply fh;intro j;rw[List.getElem?_set];split
 .grind
 .rfl
theorem xlx{c:Ctx}{h:g9}{w:World}(s:HSim c h w)(k:E.ok c h w){T e sz ty:Nat}(hk:im P T=.slice e sz)(hpos:0<sz)(hbytes:jq P e<=2048)(hsize:jd P e=sz)(oq:im P e≠.other)
  {i:Nat} {rows news:List (List AV)} (hi:h[i]?=some (.arr e sz rows)) {v u:Value} (hv:c.sl i rows.length=some v) (hu:DRel c.D (.slice news) u) (my:∀r,r∈news->r.length=sz) (jm:rows.length+news.length<=68719476736) :
  ∃v' w' c',(Builtin.append_ #[T,T] ty #[v,u]).run P w=.ok v' w'/\c.le c'/\HSim c' (h.set i (.arr e sz (rows++news))) w'/\E.ok c' (h.set i (.arr e sz (rows++news))) w'/\Rel c' (.own i (rows.length+news.length)) v':=by
 obtain⟨iT,dT,zT,_,pw,_,ua,_⟩:=li hk ac;obtain⟨rfl,ie,ln,un⟩:=vh ua;obtain⟨ie',de,ze,qi,_,yp,_,hts,_,p8,hz1⟩:=li (P:=P) (t:=e) rfl oq;rw[ln]at qi;cases qi;subst un;have hb:ie.bytes<=2048:=qfb;obtain⟨v0,vs,h1,xx,vw,h2,h3,h4,h5,h6⟩:=s.obj i _ hi;rw[hv]at h1;cases h1;obtain⟨ad,cap,rfl,qoh⟩:=qy9 s my hpos hu;by_cases hn:news=[]
 .subst hn;have jk:=xpv (P:=P) (w:=w) T ty e ie pw ln v rows.length vs h2 ad cap;refine⟨v,w,c,by simpa using jk,.refl c,?_,?_,?_⟩
  .grind[qcf]
  .grind[qcf]
  .exact .own i _ v aa xx
 .rcases qoh with hn'|⟨b,off,rfl,us,vp,mb,nj,qlj⟩
  .grind
  .have hm:0<news.length:=by cases news with|nil=>exact(hn rfl).elim|cons=>simp
   obtain⟨v',w',jk,kc,qng,zz,ht,y9,jx,te⟩:=xcx (P:=P) (w:=w) T ty e ie ze pw ln yp p8 hpos v rows.length vs h2 ⟨b,off,none⟩ news.length cap us vp (λj u hu=>by rw[vg];exact mb j u hu) nj hm
    qfg (by
     have:(rows.length+news.length) * ie.bytes<=68719476736 * 2048:=qjh jm hb;omega)
   obtain⟨c',ij,jg,kb,jf⟩:=jgw (E:=E) s k (w':=w') hi hv rfl hm jm my qlj kc (λxs hxs=>by
    have:xs=vs:=by
     rcases hxs.2 with⟨e1,e2⟩|⟨g,cp,cur,e1,_,e3,_,_,_,e4⟩
     .have a1:xs=[]:=fg (by rw[hxs.1,e2];simp);have a2:vs=[]:=fg (by rw[h2.1,e2];simp);rw[a1,a2]
     .rcases h2.2 with⟨f1,f2⟩|⟨g',cp',qp8,f1,_,f3,_,_,_,f4⟩
      .grind
      .grind
    rw[this];exact qng) zz ht y9 jx te
   exact⟨v',w',c',jk,ij,jg,kb,jf⟩
theorem xwr{c:Ctx}{h:g9}{w:World}(s:HSim c h w)(k:E.ok c h w){T e sz ty:Nat}(hk:im P T=.slice e sz)(hpos:0<sz)(hbytes:jq P e<=2048)(hsize:jd P e=sz)(oq:im P e≠.other)
  {i:Nat} {rows news:List (List AV)} (hi:h[i]?=some (.uarr e sz rows)) {v u:Value} (hv:c.sl i rows.length=some v) (hu:DRel c.D (.slice news) u) (my:∀r,r∈news->r.length=sz) (jm:rows.length+news.length<=68719476736) :
  ∃v' w' c',(Builtin.append_ #[T,T] ty #[v,u]).run P w=.ok v' w'/\c.le c'/\HSim c' (h.set i (.uarr e sz (rows++news))) w'/\E.ok c' (h.set i (.uarr e sz (rows++news))) w'/\Rel c' (.own i (rows.length+news.length)) v':=by
 obtain⟨iT,dT,zT,_,pw,_,ua,_⟩:=li hk ac;obtain⟨rfl,ie,ln,un⟩:=vh ua;obtain⟨ie',de,ze,qi,_,yp,_,hts,_,p8,hz1⟩:=li (P:=P) (t:=e) rfl oq;rw[ln]at qi;cases qi;subst un;have hb:ie.bytes<=2048:=qfb;obtain⟨v0,vs,h1,xx,vw,h2,h3,h4,h5⟩:=s.obj i _ hi;rw[hv]at h1;cases h1;obtain⟨ad,cap,rfl,qoh⟩:=qy9 s my hpos hu;by_cases hn:news=[]
 .subst hn;have jk:=xpv (P:=P) (w:=w) T ty e ie pw ln v rows.length vs h2 ad cap;refine⟨v,w,c,by simpa using jk,.refl c,?_,?_,?_⟩
  .grind[qcf]
  .grind[qcf]
  .exact .own i _ v aa xx
 .rcases qoh with hn'|⟨b,off,rfl,us,vp,mb,nj,qlj⟩
  .grind
  .have hm:0<news.length:=by cases news with|nil=>exact(hn rfl).elim|cons=>simp
   obtain⟨v',w',jk,kc,qng,zz,ht,y9,jx,te⟩:=xcx (P:=P) (w:=w) T ty e ie ze pw ln yp p8 hpos v rows.length vs h2 ⟨b,off,none⟩ news.length cap us vp (λj u hu=>by rw[vg];exact mb j u hu) nj hm
    qfg (by
     have:(rows.length+news.length) * ie.bytes<=68719476736 * 2048:=qjh jm hb;omega)
   obtain⟨c',ij,jg,kb,jf⟩:=xqs (E:=E) s k (w':=w') (rows':=rows++news) (us:=vs++us) hi hv az af (λr hr=>by
    rcases dw.1 hr with hr|hr
    .grind
    .exact my r hr) (DRel.flat h5 h2.1 qlj) kc af zz ht y9 jx te
   exact⟨v',w',c',jk,ij,jg,kb,by simpa using jf⟩
theorem Rel.flat{c:Ctx}{rows:List (List AV)}{vs:List Value}{sz:Nat}(h:∀(i j:Nat) (r:List AV) (x:AV),rows[i]?=some r->r[j]?=some x->∃u,vs[i * sz+j]?=some u/\Rel c x u/\u.oneCell'=true)
  {news:List (List AV)} {us:List Value} (hl:vs.length=rows.length * sz) (k:∀(i j:Nat) (r:List AV) (x:AV),news[i]?=some r->r[j]?=some x->∃u,us[i * sz+j]?=some u/\Rel c x u/\u.oneCell'=true) :
  ∀(i j:Nat) (r:List AV) (x:AV),(rows++news)[i]?=some r->r[j]?=some x->∃u,(vs++us)[i * sz+j]?=some u/\Rel c x u/\u.oneCell'=true:=by
 intro i j r x hr hx;by_cases hi:i<rows.length
 .grind
 .rw[cx aa]at hr;obtain⟨u,hu,hd⟩:=k _ j r x hr hx;have he:i * sz+j=vs.length+((i - rows.length) * sz+j):=by
   rw[hl,Nat.sub_mul];have:rows.length * sz<=i * sz:=dx _ aa;omega
  refine⟨u,?_,hd⟩;rw[he,cx aa];rw[show vs.length+((i - rows.length) * sz+j) - vs.length=(i - rows.length) * sz+j by omega];exact hu
theorem jk7{c:Ctx}{h:g9}{w:World}(s:HSim c h w)(k:E.ok c h w){T e sz ty:Nat}(hk:im P T=.slice e sz)(hpos:0<sz)(hbytes:jq P e<=2048)(hsize:jd P e=sz)(oq:im P e≠.other)
  {i:Nat} {rows news:List (List AV)} (hi:h[i]?=some (.oarr e sz rows)) {v:Value} (hv:c.sl i rows.length=some v) {b off cap:Nat} {us:List Value} (vp:us.length=news.length * sz) (mb:∀j u,us[j]?=some u->w.cell? ⟨b,off+j,none⟩=some u)
  (nj:∀u∈us,u.oneCell'=true) (qlj:∀(i' j:Nat) (r:List AV) (x:AV),news[i']?=some r->r[j]?=some x->∃u,us[i' * sz+j]?=some u/\Rel c x u/\u.oneCell'=true) (hm:0<news.length) (my:∀r,r∈news->r.length=sz) (jm:rows.length+news.length<=68719476736) :
  ∃v' w' c',(Builtin.append_ #[T,T] ty #[v,.slice (some ⟨b,off,none⟩) news.length cap]).run P w=.ok v' w'/\c.le c'/\HSim c' (h.set i (.oarr e sz (rows++news))) w'/\E.ok c' (h.set i (.oarr e sz (rows++news))) w'/\Rel c' (.own i (rows.length+news.length)) v':=by
 obtain⟨iT,dT,zT,_,pw,_,ua,_⟩:=li hk ac;obtain⟨rfl,ie,ln,un⟩:=vh ua;obtain⟨ie',de,ze,qi,_,yp,_,hts,_,p8,hz1⟩:=li (P:=P) (t:=e) rfl oq;rw[ln]at qi;cases qi;subst un;have hb:ie.bytes<=2048:=qfb;obtain⟨v0,vs,h1,xx,vw,h2,h3,h4,h5⟩:=s.obj i _ hi;rw[hv]at h1;cases h1;obtain⟨v',w',jk,kc,qng,zz,ht,y9,jx,te⟩:=xcx (P:=P) (w:=w) T ty e ie ze pw ln yp p8 hpos v rows.length vs h2 ⟨b,off,none⟩ news.length cap us vp (λj u hu=>by rw[vg];exact mb j u hu) nj hm
  qfg (by
   have:(rows.length+news.length) * ie.bytes<=68719476736 * 2048:=qjh jm hb;omega)
 obtain⟨c',ij,jg,kb,jf⟩:=xnn (E:=E) s k (w':=w') (rows':=rows++news) (us:=vs++us) hi hv az af (λr hr=>by
  rcases dw.1 hr with hr|hr
  .grind
  .exact my r hr) (Rel.flat h5 h2.1 qlj) kc af zz ht y9 jx te
 exact⟨v',w',c',jk,ij,jg,kb,by simpa using jf⟩
theorem jb8{c:Ctx}{h:g9}{w:World}(s:HSim c h w){x:AV}{rows:List (List AV)}(hx:qyw h x=some rows){u:Value}(hr:Rel c x u):DRel (c.share h w).D (.slice rows) u:=by
 have hn:=qdw s hr;cases x with
 |slice r=>simp only[qyw,eb]at hx;subst hx;exact Rel.slice_inv hn
 |nils=>simp only[qyw,eb]at hx;subst hx;exact Rel.slice_inv hn
 |own i n =>
  simp only[qyw]at hx;simp only[AV.norm]at hn;split at hx
  .grind[eb,Rel.slice_inv]
  .cases hx
 |_=>cases hx
theorem xvd{c:Ctx}{h:g9}{w:World}(s:HSim c h w)(k:E.ok c h w){T e sz ty:Nat}(hk:im P T=.slice e sz)(hpos:0<sz)(hbytes:jq P e<=2048)(hsize:jd P e=sz)(oq:im P e≠.other)
  {rows news:List (List AV)} {v u:Value} (hv:Rel c (.cap rows) v) (hu:DRel c.D (.slice news) u) (hro:RowsLen sz rows) (my:RowsLen sz news) (hm:0<news.length) (jm:rows.length+news.length<=68719476736) :
  ∃v' w' c',(Builtin.append_ #[T,T] ty #[v,u]).run P w=.ok v' w'/\c.le c'/\HSim c' h w'/\E.ok c' h w'/\Rel c' (.slice (rows++news)) v':=by
 obtain⟨iT,dT,zT,_,pw,_,ua,_⟩:=li hk ac;obtain⟨rfl,ie,ln,un⟩:=vh ua;obtain⟨ie',de,ze,qi,_,yp,_,hts,_,p8,hz1⟩:=li (P:=P) (t:=e) rfl oq;rw[ln]at qi;cases qi;subst un;have hb:ie.bytes<=2048:=qfb;have hbb:(rows.length+news.length) * ie.bytes<=140737488355328:=by
  have:(rows.length+news.length) * ie.bytes<=68719476736 * 2048:=qjh jm hb;omega
 obtain⟨ad,cap,rfl,qoh⟩:=qy9 s my hpos hu;rcases qoh with hn|⟨b,off,rfl,us,vp,mb,nj,qlj⟩
 .grind
 have xh7:∀j v,us[j]?=some v->w.cell? ((⟨b,off,none⟩:Addr).add j)=some v:=λj v hj=>by rw[vg];exact mb j v hj
 have hmain:∃qqw:List Value,∃cp,qqw.length=rows.length * ie.size/\rows.length+news.length<=cp/\(∀(i j:Nat) (r:List AV) (x:AV),rows[i]?=some r->r[j]?=some x->∃v,qqw[i * ie.size+j]?=some v/\DRel c.D x v) /\
   ∃Z,(Builtin.append_ #[T,T] ty #[v,.slice (some ⟨b,off,none⟩) news.length cap]).run P w=.ok (.slice (some ⟨w.heap.size,0,none⟩) (rows.length+news.length) cp) (w.drew.alloc (.cells (qqw.toArray++us.toArray++Z) e)):=by
  have emp:rows=[]->∀a,v=.slice a 0 0->∃qqw:List Value,∃cp,qqw.length=rows.length * ie.size/\rows.length+news.length<=cp/\(∀(i j:Nat) (r:List AV) (x:AV),rows[i]?=some r->r[j]?=some x->∃v,qqw[i * ie.size+j]?=some v/\DRel c.D x v) /\
    ∃Z,(Builtin.append_ #[T,T] ty #[v,.slice (some ⟨b,off,none⟩) news.length cap]).run P w=.ok (.slice (some ⟨w.heap.size,0,none⟩) (rows.length+news.length) cp) (w.drew.alloc (.cells (qqw.toArray++us.toArray++Z) e)):=by
   rintro rfl a rfl;simp only[ed,cz]at jm hbb|-;refine⟨[],grownCap w news.length 0 e,ac,grownCap_ge w _ _ _,λi j r x hr=>by simp at hr,?_⟩;cases a with
   |none =>
    have hr:=run_append_nil (P:=P) w T ty e ie ze pw ln yp ⟨b,off,none⟩ news.length cap us vp xh7 hm aa aa;exact⟨_,by simpa using hr⟩
   |some a =>
    have hr:=run_append_grow (P:=P) w T ty e ie ze pw ln yp a 0 0 [] ac (λj v hj=>by simp at hj) ⟨b,off,none⟩ news.length cap us vp xh7 aa aa (growslice_fits aa af);exact⟨_,by simpa using hr⟩
  cases hv with
  |data h=>cases h
  |cap _ a n hd =>
   obtain⟨a',cp,he,hsrc0⟩:=qy9 s hro hpos hd;cases he;rcases hsrc0 with h0|⟨b0,off0,rfl,us0,hul0,hcell0,hone0,hdat0⟩
   .grind
   .have hr:=run_append_grow (P:=P) w T ty e ie ze pw ln yp ⟨b0,off0,none⟩ rows.length rows.length us0 hul0 (λj v hj=>by rw[vg];exact hcell0 j v hj) ⟨b,off,none⟩ news.length cap us vp xh7 aa aa (growslice_fits aa hbb);exact⟨us0,_,hul0,grownCap_ge w _ _ _,hdat0,_,hr⟩
 obtain⟨qqw,cp,hol,hcp,hod,Z,jk⟩:=hmain;obtain⟨s1,k1⟩:=jg4 (E:=E) s k (w.drawn+1);obtain⟨c',ij,s2,k2,hD⟩:=qzg (E:=E) s1 k1 (qqw.toArray++us.toArray++Z) e;refine⟨_,_,c',jk,ij,s2,k2,.data ?_⟩;have hfl:=DRel.flat (D:=c.D) hod hol qlj;have il:∀q v,(qqw++us)[q]?=some v->(qqw.toArray++us.toArray++Z)[q]?=some v:=λq v hq=>by
  have il:=(cm.1 hq).1;rw[qj0 af];simpa using hq
 have:=DRel.slice (D:=c'.D) (rows++news) w.heap.size 0 cp ie.size (λi j=>((qqw++us)[i * ie.size+j]?).getD undef) (λr hr=>by
   rcases dw.1 hr with hr|hr
   .exact hro r hr
   .exact my r hr) af af (λi j r x hr hx=>by
   obtain⟨v,hv,_⟩:=hfl i j r x hr hx;rw[hv,cz];exact hD _ _ (il _ _ hv)) λi j r x hr hx=>by
   obtain⟨v,hv,hd⟩:=hfl i j r x hr hx;rw[hv];exact hd.mono ij.D
 rwa [c7]at this
theorem xy0{c:Ctx}{h:g9}{w:World}(s:HSim c h w)(k:E.ok c h w){T ty:Nat}{x y:AV}{v u:Value}(hx:Rel c x v)(hy:Rel c y u){K:AV->g9->Prop}(hK:qsh P T x y h K) :
  ∃r h' v' w' c',K r h'/\(Builtin.append_ #[T,T] ty #[v,u]).run P w=.ok v' w'/\c.le c'/\HSim c' h' w'/\E.ok c' h' w'/\Rel c' r v':=by
 unfold qsh at hK;split at hK
 .rename_i e sz news hk qoh;obtain⟨my,hpos,hbytes,hsize,oq,hK⟩:=hK;have hu:=jb8 s qoh hy;obtain⟨s1,k1⟩:=qxo s k;have qmn:=qww c h w;split at hK
  .obtain⟨jm,hK⟩:=hK;have hv:v=.slice none 0 0:=by
    cases hx with
    |data h=>cases h
    |nils=>rfl
   subst hv;obtain⟨s2,k2⟩:=jkq s1 k1 e sz;have qq0:(c.share h w).le ((c.share h w).addSl h.length 0 (.slice none 0 0)):=Ctx.addSl_le ((s1.dom _ (cn _)).2 0);obtain⟨v',w',c',jk,qto,s3,k3,r3⟩:=xlx (P:=P) (ty:=ty) s2 k2 hk hpos hbytes hsize oq (i:=h.length) (rows:=[]) (news:=news) ac (v:=.slice none 0 0) bj (hu.mono qq0.D) my af;refine⟨_,_,v',w',c',hK,jk,qmn.trans (qq0.trans qto),by simpa using s3,by simpa using k3,by simpa using r3⟩
  .rename_i rows;obtain⟨hro,hm,jm,hK⟩:=hK;obtain⟨v',w',c',jk,qto,s3,k3,r3⟩:=xvd (P:=P) (ty:=ty) s k hk hpos hbytes hsize oq hx hu hro my hm jm;exact⟨_,_,v',w',c',hK,jk,qto,s3,k3,r3⟩
  .rename_i i n;split at hK
   .rename_i e' ky rows hi;obtain⟨rfl,rfl,rfl,jm,hK⟩:=hK;have hv:c.sl i rows.length=some v:=by
     cases hx with
     |data h=>cases h
     |own i n v h ho=>exact h
    obtain⟨v',w',c',jk,qto,s3,k3,r3⟩:=xlx (P:=P) (ty:=ty) s1 k1 hk hpos hbytes hsize oq (i:=i) (rows:=rows) (news:=news) hi (v:=v) (qmn.sl _ _ _ hv) hu my jm;exact⟨_,_,v',w',c',hK,jk,qmn.trans qto,s3,k3,r3⟩
   .rename_i e' ky rows hi;obtain⟨rfl,rfl,rfl,jm,hK⟩:=hK;have hv:c.sl i rows.length=some v:=by
     cases hx with
     |data h=>cases h
     |own i n v h ho=>exact h
    obtain⟨v',w',c',jk,qto,s3,k3,r3⟩:=xwr (P:=P) (ty:=ty) s1 k1 hk hpos hbytes hsize oq (i:=i) (rows:=rows) (news:=news) hi (v:=v) (qmn.sl _ _ _ hv) hu my jm;exact⟨_,_,v',w',c',hK,jk,qmn.trans qto,s3,k3,r3⟩
   .grind
  .grind
 .grind
theorem jdy{c:Ctx}{cells:List AV}{u:Value}(hr:Rel c (.lit cells) u):∃b o cap,∃g:Nat->Value,u=.slice (some ⟨b,o,none⟩) 1 cap/\(∀(j:Nat) (x:AV),cells[j]?=some x->c.D b (o+j)=some (g j)) /\
  (∀(j:Nat) (x:AV),cells[j]?=some x->Rel c x (g j))/\∀(j:Nat) (x:AV),cells[j]?=some x->(g j).oneCell'=true:=by
 cases hr with
 |data h=>cases h
 |lit _ b o cap g hD h ho=>exact⟨b,o,cap,g,rfl,hD,h,ho⟩
theorem xwq{c:Ctx}{h:g9}{w:World}(s:HSim c h w)(k:E.ok c h w){T ty:Nat}{x y:AV}{v u:Value}(hx:Rel c x v)(hy:Rel c y u){K:AV->g9->Prop}(hK:qvi P T x y h K) :
  ∃r h' v' w' c',K r h'/\(Builtin.append_ #[T,T] ty #[v,u]).run P w=.ok v' w'/\c.le c'/\HSim c' h' w'/\E.ok c' h' w'/\Rel c' r v':=by
 unfold qvi at hK;split at hK
 .rename_i cells;split at hK
  .rename_i e sz i n hk;split at hK
   .rename_i e' ky rows hi;obtain⟨ki,hpos,hbytes,hsize,oq,rfl,rfl,hn,jm,hK⟩:=hK;obtain⟨b,o,cap,g,rfl,hD,hr,ho⟩:=jdy hy;have hv:c.sl i rows.length=some v:=by
     cases hx with
     |data h=>cases h
     |own _ _ _ h _=>rw[hn];exact h
    have il:∀j,j<cells.length->cells[j]?=some (cells[j]!):=λj hj=>by rw[getElem!_pos cells j hj,cu hj]
    obtain⟨v',w',c',jk,ij,jg,kb,jf⟩:=jk7 (P:=P) (E:=E) (ty:=ty) s k hk hpos hbytes hsize oq (news:=[cells]) hi hv (b:=b) (off:=o) (cap:=cap) (us:=(List.range cells.length).map g) (by simp[ki])
     (λj u hu=>by
      have hj:j<cells.length:=af;rw[di,List.getElem?_range hj]at hu;cases hu;exact s.data _ _ _ (hD j _ (il j hj))) (λu hu=>by
      obtain⟨j,hj,rfl⟩:=cy.1 hu;exact ho j _ (il j (ga.1 hj))) (λi' j r z hr1 hz=>by
      cases i' with
      |succ i'=>simp at hr1
      |zero =>
       simp at hr1;subst hr1;have hj:=(cm.1 hz).1;exact⟨g j,by rw[Nat.zero_mul,cz,di,List.getElem?_range hj];rfl,hr j z hz,ho j z hz⟩) ac (by simp[ki]) aa
    rw[hn]at jf;exact⟨_,_,v',w',c',hK,jk,ij,jg,kb,jf⟩
   .grind
  .grind
 .exact xy0 s k hx hy hK
end
end Go.Abs
