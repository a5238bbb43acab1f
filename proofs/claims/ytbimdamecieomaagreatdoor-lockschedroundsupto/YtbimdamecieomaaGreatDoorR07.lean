/- Part 7 of a proof. -/
import Derived.Test.YtbimdamecieomaaGreatDoorR06
set_option linter.all false
namespace Go.Abs
theorem xb4{E:Ent}{c:Ctx}{h:gz}{w:World}(s:HSim c h w)(k:E.ok c h w)(e:TypeId)(sz:Nat) :
  c.le (c.addSl h.length 0 (.slice none 0 0))∧HSim (c.addSl h.length 0 (.slice none 0 0)) (h++[.uarr e sz []]) w∧E.ok (c.addSl h.length 0 (.slice none 0 0)) (h++[.uarr e sz []]) w:=by
 have ig:c.le (c.addSl h.length 0 (.slice none 0 0)):=Ctx.addSl_le ((s.dom _ (ct _)).2 0);have pn:∀i,i<h.length→∀m,(c.addSl h.length 0 (.slice none 0 0)).sl i m=c.sl i m:=fun i hi m=>by
  simp only[Ctx.addSl];rw[if_neg aa]
 have ib:∀{i:Nat} {o:AObj},h[i]?=some o→i<h.length:=fun hi=>(cq.1 hi).1;have sw:jb (c.addSl h.length 0 (.slice none 0 0)) h.length (.uarr e sz [])=none:=qik;refine⟨ig,⟨s.data,fun i hi=>?_,fun i o hi=>?_,fun i j o o' b hi hj hb il=>?_,fun i o b j v hi hb hD=>?_⟩,⟨k.edom,k.ext.trans ig,k.blk0,qf5,k.os,k.tape,k.output,k.size,k.frame,fun i o b hi hb=>?_,k.dold⟩⟩
 ·simp only[cz,d5,ee]at hi;have:=s.dom i aa;refine⟨this.1,fun m=>?_⟩;simp only[Ctx.addSl];rw[if_neg aa];exact this.2 m
 ·rcases r4 hi with h1|⟨rfl,rfl⟩
  ·exact(s.obj i o h1).keep ig (pn i (ib h1)) fun _ _=>rfl
  ·refine⟨.slice none 0 0,[],bu,rfl,fun m hm=>?_,World.ownsRow_nil w 0 e sz,ae,ae,ae⟩;simp only[Ctx.addSl];rw[if_neg qhj];exact(s.dom _ (ct _)).2 m
 ·rcases r4 hi with h1|⟨rfl,rfl⟩<;>rcases r4 hj with h2|⟨rfl,rfl⟩
  ·rw[(s.obj i o h1).blk ig]at hb;rw[(s.obj j o' h2).blk ig]at il;exact s.apart i j o o' b h1 h2 hb il
  ·rw[sw]at il;cases il
  ·rw[sw]at hb;cases hb
  ·rfl
 ·rcases r4 hi with h1|⟨rfl,rfl⟩
  ·rw[(s.obj i o h1).blk ig]at hb;exact s.sep i o b j v h1 hb hD
  ·rw[sw]at hb;cases hb
 ·rcases r4 hi with h1|⟨rfl,rfl⟩
  ·rw[(s.obj i o h1).blk ig]at hb;exact k.newobj i o b h1 hb
  ·rw[sw]at hb;cases hb
theorem xi3{E:Ent}{c:Ctx}{h:gz}{w w':World}(s:HSim c h w)(k:E.ok c h w){i e sz:Nat}{rows rows':List (List AV)}{v v':Value}{us:List Value}(hi:h[i]?=some (.uarr e sz rows))
  (hv:c.sl i rows.length=some v) (xp:rows.length<rows'.length) (jr:rows'.length≤68719476736) (ny:∀r,r∈rows'→r.length=sz)
  (wg:∀(i' j:Nat) (r:List AV) (x:AV),rows'[i']?=some r→r[j]?=some x→∃u,us[i' * sz+j]?=some u∧DRel c.D x u) (ho:v'.oneCell'=true)
  (qn7:w'.ownsRow 0 e sz v' rows'.length us) (hos:w'.os=w.os) (ht:w'.tape=w.tape) (hou:w'.output=w.output) (hs:w.heap.size≤w'.heap.size)
  (tz:(∃g,v.ownBlock=some g∧v'.ownBlock=some g∧∀k,k≠g→w'.heap[k]?=w.heap[k]?)∨(v'.ownBlock=some w.heap.size∧∀k,k<w.heap.size→w'.heap[k]?=w.heap[k]?)) :
  ∃c',c.le c'∧HSim c' (h.set i (.uarr e sz rows')) w'∧E.ok c' (h.set i (.uarr e sz rows')) w'∧Rel c' (.own i rows'.length) v':=by
 obtain⟨v0,vs,h1,_,v8,h2,h3,h4,h5⟩:=s.obj i _ hi;rw[hv]at h1;cases h1;have qoe:c.sl i rows'.length=none:=v8 _ xp;have ig:c.le (c.addSl i rows'.length v'):=Ctx.addSl_le qoe;have pn:∀j,j≠i→∀m',(c.addSl i rows'.length v').sl j m'=c.sl j m':=fun j hj m'=>by
  simp only[Ctx.addSl];rw[if_neg qks]
 have hslv:(c.addSl i rows'.length v').sl i rows'.length=some v':=bu;have qnh:jb (c.addSl i rows'.length v') i (.uarr e sz rows')=v'.ownBlock:=qh1;have xch:jb c i (.uarr e sz rows)=v.ownBlock:=qgs;have o9:∀j o b,j≠i→h[j]?=some o→jb c j o=some b→w'.heap[b]?=w.heap[b]?:=fun j o b hj kg hb=>by
  rcases tz with⟨g,hg,jf,hk⟩|⟨jf,hk⟩
  ·refine hk b fun e=>hj ?_;subst e;exact s.apart j i o _ b kg hi hb b0
  ·exact hk b ((s.obj j o kg).lt hb)
 have qrq:∀j o b,j≠i→h[j]?=some o→jb c j o=some b→v'.ownBlock≠some b:=fun j o b hj kg hb ph=>by
  rcases tz with⟨g,hg,jf,hk⟩|⟨jf,hk⟩
  ·rw[jf]at ph;cases ph;exact hj (s.apart j i o _ _ kg hi hb b0)
  ·rw[jf]at ph;cases ph;have:=(s.obj j o kg).lt hb;omega
 have qt7:∀b,v'.ownBlock=some b→∀j u,c.D b j=some u→False:=fun b hb j u hD=>by
  rcases tz with⟨g,hg,jf,hk⟩|⟨jf,hk⟩
  ·rw[jf]at hb;cases hb;exact s.sep i _ _ j u hi b0 hD
  ·rw[jf]at hb;cases hb;rw[s.noD (ct _)]at hD;cases hD
 refine⟨_,ig,⟨fun b j u hD=>?_,fun j hj=>?_,fun j o hj=>?_,fun j j' o o' b hj oq hb il=>?_,fun j o b n u hj hb hD=>?_⟩,⟨k.edom,k.ext.trans ig,k.blk0,bz,hos.trans k.os,ht.trans k.tape,hou.trans k.output,d9 k.size hs,fun b hb iz=>?_,fun j o b hj hb=>?_,k.dold⟩,
  .own i _ v' bu ho⟩
 ·have o6:c.D b j=some u:=hD;have mw:=s.data b j u o6;rcases tz with⟨g,hg,jf,hk⟩|⟨jf,hk⟩
  ·rw[World.cell?_of_block (w:=w) (hk b (fun e=>qt7 b (by rw[jf,e]) j u o6))];exact mw
  ·have hb:b<w.heap.size:=World.block_lt_of_cell? w ⟨b,j,none⟩ mw;rw[World.cell?_of_block (w:=w) (hk b hb)];exact mw
 ·have oq:h.length≤j:=bf;have qyu:i<h.length:=(cq.1 hi).1;have:=s.dom j oq;exact⟨this.1,fun m'=>by rw[pn j aa];exact this.2 m'⟩
 ·rcases l7 hj with⟨rfl,rfl⟩|⟨ii,kg⟩
  ·refine⟨v',us,hslv,ho,fun m' pc=>?_,qn7,jr,ny,wg⟩;simp only[Ctx.addSl];rw[if_neg aa];exact v8 m' aa
  ·exact(s.obj j o kg).keep ig (pn j ii) fun b hb=>o9 j o b ii kg hb
 ·rcases l7 hj with⟨rfl,rfl⟩|⟨ii,kg⟩<;>rcases l7 oq with⟨h6,h7⟩|⟨hne',hjo'⟩
  ·exact h6.symm
  ·rw[qnh]at hb;rw[(s.obj j' o' hjo').blk ig]at il;exact(qrq j' o' b hne' hjo' il hb).elim
  ·subst h6;subst h7;rw[qnh]at il;rw[(s.obj j o kg).blk ig]at hb;exact(qrq j o b ii kg hb il).elim
  ·rw[(s.obj j o kg).blk ig]at hb;rw[(s.obj j' o' hjo').blk ig]at il;exact s.apart j j' o o' b kg hjo' hb il
 ·have o6:c.D b n=some u:=hD;rcases l7 hj with⟨rfl,rfl⟩|⟨ii,kg⟩
  ·rw[qnh]at hb;exact qt7 b hb n u o6
  ·rw[(s.obj j o kg).blk ig]at hb;exact s.sep j o b n u kg hb o6
 ·have ii:∀g,v.ownBlock=some g→b≠g:=fun g hg e=>by
   subst e;rcases k.newobj i _ b hi b0 with⟨o0,h0,h1⟩|h2
   ·exact iz i o0 h0 h1
   ·omega
  rcases tz with⟨g,hg,jf,hk⟩|⟨jf,hk⟩
  ·rw[hk b (ii g hg)];exact k.frame b hb iz
  ·rw[hk b (qlo hb k.size)];exact k.frame b hb iz
 ·rcases l7 hj with⟨rfl,rfl⟩|⟨ii,kg⟩
  ·rw[qnh]at hb;rcases tz with⟨g,hg,jf,hk⟩|⟨jf,hk⟩
   ·rw[jf]at hb;cases hb;exact k.newobj j _ _ hi b0
   ·rw[jf]at hb;cases hb;exact .inr k.size
  ·rw[(s.obj j o kg).blk ig]at hb;exact k.newobj j o b kg hb
theorem xfc{E:Ent}{c:Ctx}{h:gz}{w:World}(s:HSim c h w)(k:E.ok c h w){i e sz:Nat}{rows:List (List AV)}(hi:h[i]?=some (.uarr e sz rows)) :
  ∃c',c.le c'∧HSim c' (h.set i (.arr e sz rows)) w∧E.ok c' (h.set i (.arr e sz rows)) w:=by
 obtain⟨v,vs,hv,ho,v8,h2,h3,h4,h5⟩:=s.obj i _ hi;have xch:jb c i (.uarr e sz rows)=v.ownBlock:=qgs;have qt7:∀b,v.ownBlock=some b→∀j u,c.D b j=some u→False:=fun b hb j u hD=>s.sep i _ b j u hi (by rw[xch,hb]) hD
 let c':Ctx:={ c with D:=fun b j=>if v.ownBlock=some b∧j<vs.length then vs[j]? else c.D b j }
 have hDle:∀b j u,c.D b j=some u→c'.D b j=some u:=fun b j u hD=>by
  simp only[c'];rw[if_neg (fun hh=>qt7 b hh.1 j u hD)];exact hD
 have ig:c.le c':=⟨hDle,fun _ _ h=>h,fun _ _ _ h=>h⟩
 have quw:∀b j u,c'.D b j=some u→(v.ownBlock=some b∧j<vs.length∧vs[j]?=some u)∨(v.ownBlock≠some b∧c.D b j=some u):=fun b j u hD=>by
  simp only[c']at hD;split at hD
  ·rename_i hh;exact .inl ⟨hh.1,hh.2,hD⟩
  ·by_cases hb:v.ownBlock=some b
   ·exact(qt7 b hb j u hD).elim
   ·exact .inr ⟨hb,hD⟩
 have qnh:jb c' i (.arr e sz rows)=v.ownBlock:=by
  show(c.sl i rows.length).bind Value.ownBlock=_;rw[hv];rfl
 have qwq:∀j o b,(h.set i (.arr e sz rows))[j]?=some o→jb c' j o=some b→∃o0,h[j]?=some o0∧jb c j o0=some b:=fun j o b hj hb=>by
  rcases l7 hj with⟨rfl,rfl⟩|⟨ii,kg⟩
  ·exact⟨_,hi,by rw[xch,←qnh,hb]⟩
  ·rw[(s.obj j o kg).blk ig]at hb;exact⟨o,kg,hb⟩
 refine⟨c',ig,⟨fun b j u hD=>?_,fun j hj=>s.dom j bf,fun j o hj=>?_,fun j j' o o' b hj oq hb il=>?_,fun j o b n u hj hb hD=>?_⟩,
  ⟨k.edom,k.ext.trans ig,k.blk0,bz,k.os,k.tape,k.output,k.size,k.frame,fun j o b hj hb=>?_,fun b j u hD=>?_⟩⟩
 ·rcases quw b j u hD with⟨hg,_,hu⟩|⟨_,o6⟩
  ·have:=h2.cells hg j u hu
   rwa [xk,db]at this
  ·exact s.data b j u o6
 ·rcases l7 hj with⟨rfl,rfl⟩|⟨ii,kg⟩
  ·refine⟨v,vs,hv,ho,v8,h2,h3,h4,fun i' j' r x hr hx=>(h5 i' j' r x hr hx).imp fun u hu=>⟨hu.1,hu.2.mono hDle⟩,fun b n hb hn=>?_⟩;rw[←h2.1]at hn;refine⟨vs[n],?_⟩;simp only[c',if_pos (show v.ownBlock=some b∧n<vs.length from⟨hb,hn⟩)];exact da hn
  ·exact(s.obj j o kg).keep ig (fun _=>rfl) fun _ _=>rfl
 ·obtain⟨o1,g1,g2⟩:=qwq j o b hj hb;obtain⟨o2,g3,g4⟩:=qwq j' o' b oq il;exact s.apart j j' o1 o2 b g1 g3 g2 g4
 ·rcases l7 hj with⟨rfl,rfl⟩|⟨ii,kg⟩
  ·rw[qnh]at hb;simp only[AObj.shares];rcases quw b n u hD with⟨_,hn,_⟩|⟨hg,_⟩
   ·rw[←h2.1];exact hn
   ·exact(hg hb).elim
  ·rw[(s.obj j o kg).blk ig]at hb;rcases quw b n u hD with⟨hg,_⟩|⟨_,o6⟩
   ·exact(ii (s.apart j i o _ b kg hi hb b0)).elim
   ·exact s.sep j o b n u kg hb o6
 ·obtain⟨o1,g1,g2⟩:=qwq j o b hj hb;exact k.newobj j o1 b g1 g2
 ·rcases quw b j u hD with⟨hg,_⟩|⟨_,o6⟩
  ·rcases k.newobj i _ b hi b0 with⟨o0,g1,g2⟩|g1
   ·exact .inr (.inr ⟨i,o0,g1,g2⟩)
   ·exact .inr (.inl g1)
  ·exact k.dold b j u o6
theorem zt(E:Ent)(e:Env){i t sz:Nat}{rows:List (List AV)}(hi:e.h[i]?=some (.uarr t sz rows)):Wk E e ⟨e.t,e.h.set i (.arr t sz rows)⟩:=fun c a w s k=>by
 obtain⟨c',ig,s',k'⟩:=xfc s.hs k hi;exact⟨c',⟨s.defers,s.size,fun j=>(s.tmps j).mono ig,s'⟩,k'⟩
def vu(n0:Nat):Nat→gz→gz
 |_,[]=>[]
 |k,.uarr t sz rows::l=>(bif Nat.ble n0 k then .arr t sz rows else .uarr t sz rows)::vu n0 (k+1) l
 |k,o::l=>o::vu n0 (k+1) l
theorem xqb(E:Ent)(n0:Nat)(t:List (Nat×AV)):∀(l done:gz),Wk E ⟨t,done++l⟩ ⟨t,done++vu n0 done.length l⟩
 | [],done=>.refl E _
 |o::l,done=>by
  have key:∀o',Wk E ⟨t,done++o::l⟩ ⟨t,done++o'::l⟩→Wk E ⟨t,done++o::l⟩ ⟨t,done++o'::vu n0 (done.length+1) l⟩:=fun o' h=>by
   refine h.trans ?_;have:=xqb E n0 t l (done++[o']);simpa using this
  cases o with
  |uarr a b r =>
   simp only[vu];cases Nat.ble n0 done.length with
   |true =>
    refine key _ ?_;have:=zt E ⟨t,done++.uarr a b r::l⟩ (i:=done.length) (t:=a) (sz:=b) (rows:=r) ae;simpa using this
   |false=>exact key _ (.refl E _)
  |none=>exact key _ (.refl E _)
  |cells _=>exact key _ (.refl E _)
  |map _=>exact key _ (.refl E _)
  |arr _ _ _=>exact key _ (.refl E _)
  |iter _ _=>exact key _ (.refl E _)
  |raw _ _ _=>exact key _ (.refl E _)
  |oarr _ _ _=>exact key _ (.refl E _)
theorem jjl(E:Ent)(n0:Nat)(e:Env):Wk E e ⟨e.t,vu n0 0 e.h⟩:=xqb E n0 e.t e.h []
theorem jl9{E:Ent}{c:Ctx}{h:gz}{w:World}(s:HSim c h w)(k:E.ok c h w)(e:TypeId)(sz:Nat) :
  c.le (c.addSl h.length 0 (.slice none 0 0))∧HSim (c.addSl h.length 0 (.slice none 0 0)) (h++[.oarr e sz []]) w∧E.ok (c.addSl h.length 0 (.slice none 0 0)) (h++[.oarr e sz []]) w:=by
 have ig:c.le (c.addSl h.length 0 (.slice none 0 0)):=Ctx.addSl_le ((s.dom _ (ct _)).2 0);have pn:∀i,i<h.length→∀m,(c.addSl h.length 0 (.slice none 0 0)).sl i m=c.sl i m:=fun i hi m=>by
  simp only[Ctx.addSl];rw[if_neg aa]
 have ib:∀{i:Nat} {o:AObj},h[i]?=some o→i<h.length:=fun hi=>(cq.1 hi).1;have sw:jb (c.addSl h.length 0 (.slice none 0 0)) h.length (.oarr e sz [])=none:=qik;refine⟨ig,⟨s.data,fun i hi=>?_,fun i o hi=>?_,fun i j o o' b hi hj hb il=>?_,fun i o b j v hi hb hD=>?_⟩,⟨k.edom,k.ext.trans ig,k.blk0,qf5,k.os,k.tape,k.output,k.size,k.frame,fun i o b hi hb=>?_,k.dold⟩⟩
 ·simp only[cz,d5,ee]at hi;have:=s.dom i aa;refine⟨this.1,fun m=>?_⟩;simp only[Ctx.addSl];rw[if_neg aa];exact this.2 m
 ·rcases r4 hi with h1|⟨rfl,rfl⟩
  ·exact(s.obj i o h1).keep ig (pn i (ib h1)) fun _ _=>rfl
  ·refine⟨.slice none 0 0,[],bu,rfl,fun m hm=>?_,World.ownsRow_nil w 0 e sz,ae,ae,ae⟩;simp only[Ctx.addSl];rw[if_neg qhj];exact(s.dom _ (ct _)).2 m
 ·rcases r4 hi with h1|⟨rfl,rfl⟩<;>rcases r4 hj with h2|⟨rfl,rfl⟩
  ·rw[(s.obj i o h1).blk ig]at hb;rw[(s.obj j o' h2).blk ig]at il;exact s.apart i j o o' b h1 h2 hb il
  ·rw[sw]at il;cases il
  ·rw[sw]at hb;cases hb
  ·rfl
 ·rcases r4 hi with h1|⟨rfl,rfl⟩
  ·rw[(s.obj i o h1).blk ig]at hb;exact s.sep i o b j v h1 hb hD
  ·rw[sw]at hb;cases hb
 ·rcases r4 hi with h1|⟨rfl,rfl⟩
  ·rw[(s.obj i o h1).blk ig]at hb;exact k.newobj i o b h1 hb
  ·rw[sw]at hb;cases hb
theorem xv8{E:Ent}{c:Ctx}{h:gz}{w w':World}(s:HSim c h w)(k:E.ok c h w){i e sz:Nat}{rows rows':List (List AV)}{v v':Value}{us:List Value}(hi:h[i]?=some (.oarr e sz rows))
  (hv:c.sl i rows.length=some v) (xp:rows.length<rows'.length) (jr:rows'.length≤68719476736) (ny:∀r,r∈rows'→r.length=sz)
  (wg:∀(i' j:Nat) (r:List AV) (x:AV),rows'[i']?=some r→r[j]?=some x→∃u,us[i' * sz+j]?=some u∧Rel c x u∧u.oneCell'=true) (ho:v'.oneCell'=true)
  (qn7:w'.ownsRow 0 e sz v' rows'.length us) (hos:w'.os=w.os) (ht:w'.tape=w.tape) (hou:w'.output=w.output) (hs:w.heap.size≤w'.heap.size)
  (tz:(∃g,v.ownBlock=some g∧v'.ownBlock=some g∧∀k,k≠g→w'.heap[k]?=w.heap[k]?)∨(v'.ownBlock=some w.heap.size∧∀k,k<w.heap.size→w'.heap[k]?=w.heap[k]?)) :
  ∃c',c.le c'∧HSim c' (h.set i (.oarr e sz rows')) w'∧E.ok c' (h.set i (.oarr e sz rows')) w'∧Rel c' (.own i rows'.length) v':=by
 obtain⟨v0,vs,h1,_,v8,h2,h3,h4,h5⟩:=s.obj i _ hi;rw[hv]at h1;cases h1;have qoe:c.sl i rows'.length=none:=v8 _ xp;have ig:c.le (c.addSl i rows'.length v'):=Ctx.addSl_le qoe;have pn:∀j,j≠i→∀m',(c.addSl i rows'.length v').sl j m'=c.sl j m':=fun j hj m'=>by
  simp only[Ctx.addSl];rw[if_neg qks]
 have hslv:(c.addSl i rows'.length v').sl i rows'.length=some v':=bu;have qnh:jb (c.addSl i rows'.length v') i (.oarr e sz rows')=v'.ownBlock:=qh1;have xch:jb c i (.oarr e sz rows)=v.ownBlock:=qgs;have o9:∀j o b,j≠i→h[j]?=some o→jb c j o=some b→w'.heap[b]?=w.heap[b]?:=fun j o b hj kg hb=>by
  rcases tz with⟨g,hg,jf,hk⟩|⟨jf,hk⟩
  ·refine hk b fun e=>hj ?_;subst e;exact s.apart j i o _ b kg hi hb b0
  ·exact hk b ((s.obj j o kg).lt hb)
 have qrq:∀j o b,j≠i→h[j]?=some o→jb c j o=some b→v'.ownBlock≠some b:=fun j o b hj kg hb ph=>by
  rcases tz with⟨g,hg,jf,hk⟩|⟨jf,hk⟩
  ·rw[jf]at ph;cases ph;exact hj (s.apart j i o _ _ kg hi hb b0)
  ·rw[jf]at ph;cases ph;have:=(s.obj j o kg).lt hb;omega
 have qt7:∀b,v'.ownBlock=some b→∀j u,c.D b j=some u→False:=fun b hb j u hD=>by
  rcases tz with⟨g,hg,jf,hk⟩|⟨jf,hk⟩
  ·rw[jf]at hb;cases hb;exact s.sep i _ _ j u hi b0 hD
  ·rw[jf]at hb;cases hb;rw[s.noD (ct _)]at hD;cases hD
 refine⟨_,ig,⟨fun b j u hD=>?_,fun j hj=>?_,fun j o hj=>?_,fun j j' o o' b hj oq hb il=>?_,fun j o b n u hj hb hD=>?_⟩,⟨k.edom,k.ext.trans ig,k.blk0,bz,hos.trans k.os,ht.trans k.tape,hou.trans k.output,d9 k.size hs,fun b hb iz=>?_,fun j o b hj hb=>?_,k.dold⟩,
  .own i _ v' bu ho⟩
 ·have o6:c.D b j=some u:=hD;have mw:=s.data b j u o6;rcases tz with⟨g,hg,jf,hk⟩|⟨jf,hk⟩
  ·rw[World.cell?_of_block (w:=w) (hk b (fun e=>qt7 b (by rw[jf,e]) j u o6))];exact mw
  ·have hb:b<w.heap.size:=World.block_lt_of_cell? w ⟨b,j,none⟩ mw;rw[World.cell?_of_block (w:=w) (hk b hb)];exact mw
 ·have oq:h.length≤j:=bf;have qyu:i<h.length:=(cq.1 hi).1;have:=s.dom j oq;exact⟨this.1,fun m'=>by rw[pn j aa];exact this.2 m'⟩
 ·rcases l7 hj with⟨rfl,rfl⟩|⟨ii,kg⟩
  ·refine⟨v',us,hslv,ho,fun m' pc=>?_,qn7,jr,ny,fun i' j' r x hr hx=>(wg i' j' r x hr hx).imp fun u hu=>⟨hu.1,hu.2.1.mono ig,hu.2.2⟩⟩;simp only[Ctx.addSl];rw[if_neg aa];exact v8 m' aa
  ·exact(s.obj j o kg).keep ig (pn j ii) fun b hb=>o9 j o b ii kg hb
 ·rcases l7 hj with⟨rfl,rfl⟩|⟨ii,kg⟩<;>rcases l7 oq with⟨h6,h7⟩|⟨hne',hjo'⟩
  ·exact h6.symm
  ·rw[qnh]at hb;rw[(s.obj j' o' hjo').blk ig]at il;exact(qrq j' o' b hne' hjo' il hb).elim
  ·subst h6;subst h7;rw[qnh]at il;rw[(s.obj j o kg).blk ig]at hb;exact(qrq j o b ii kg hb il).elim
  ·rw[(s.obj j o kg).blk ig]at hb;rw[(s.obj j' o' hjo').blk ig]at il;exact s.apart j j' o o' b kg hjo' hb il
 ·have o6:c.D b n=some u:=hD;rcases l7 hj with⟨rfl,rfl⟩|⟨ii,kg⟩
  ·rw[qnh]at hb;exact qt7 b hb n u o6
  ·rw[(s.obj j o kg).blk ig]at hb;exact s.sep j o b n u kg hb o6
 ·have ii:∀g,v.ownBlock=some g→b≠g:=fun g hg e=>by
   subst e;rcases k.newobj i _ b hi b0 with⟨o0,h0,h1⟩|h2
   ·exact iz i o0 h0 h1
   ·omega
  rcases tz with⟨g,hg,jf,hk⟩|⟨jf,hk⟩
  ·rw[hk b (ii g hg)];exact k.frame b hb iz
  ·rw[hk b (qlo hb k.size)];exact k.frame b hb iz
 ·rcases l7 hj with⟨rfl,rfl⟩|⟨ii,kg⟩
  ·rw[qnh]at hb;rcases tz with⟨g,hg,jf,hk⟩|⟨jf,hk⟩
   ·rw[jf]at hb;cases hb;exact k.newobj j _ _ hi b0
   ·rw[jf]at hb;cases hb;exact .inr k.size
  ·rw[(s.obj j o kg).blk ig]at hb;exact k.newobj j o b kg hb
section
variable {P:Program} {E:Ent}
theorem qdc{α:Type}{l:List α}{i:Nat}{x:α}(h:l[i]?=some x):l.set i x=l:=by
 apply fy;intro j;rw[List.getElem?_set];split
 ·rename_i hij;subst hij;rw[h];split<;>simp;rename_i hn;exact(hn (cq.1 h).1).elim
 ·rfl
theorem xr8{c:Ctx}{h:gz}{w:World}(s:HSim c h w)(k:E.ok c h w){T e sz ty:Nat}(hk:ij P T=.slice e sz)(kq:0<sz)(qnt:jn P e≤2048)(pr:iy P e=sz)(oh:ij P e≠.other)
  {i:Nat} {rows news:List (List AV)} (hi:h[i]?=some (.arr e sz rows)) {v u:Value} (hv:c.sl i rows.length=some v) (hu:DRel c.D (.slice news) u) (ny:∀r,r∈news→r.length=sz) (jr:rows.length+news.length≤68719476736) :
  ∃v' w' c',(Builtin.append_ #[T,T] ty #[v,u]).run P w=.ok v' w'∧c.le c'∧HSim c' (h.set i (.arr e sz (rows++news))) w'∧E.ok c' (h.set i (.arr e sz (rows++news))) w'∧Rel c' (.own i (rows.length+news.length)) v':=by
 obtain⟨iT,dT,zT,_,r8,_,vz,_⟩:=lj hk ae;obtain⟨rfl,ie,lx,wv⟩:=xx vz;obtain⟨ie',de,ze,tp,_,hze,_,hts,_,pi,tf⟩:=lj (P:=P) (t:=e) rfl oh;rw[lx]at tp;cases tp;subst wv;have hb:ie.bytes≤2048:=by
  have:jn P e=ie.bytes:=by
   unfold jn;have ii:=oh;unfold ij at ii;split at ii
   ·rename_i x hx;obtain⟨i2,d2,z2,g1,_,_,rfl,_⟩:=qvk hx;rw[lx]at g1;cases g1;simp[hx]
   ·exact(ii rfl).elim
  omega
 obtain⟨v0,vs,h1,ly,v8,h2,h3,h4,h5,h6⟩:=s.obj i _ hi;rw[hv]at h1;cases h1;obtain⟨ad,cap,rfl,qut⟩:=xhw s ny kq hu;by_cases hn:news=[]
 ·subst hn;have jx:=xsz (P:=P) (w:=w) T ty e ie r8 lx v rows.length vs h2 ad cap;refine⟨v,w,c,by simpa using jx,.refl c,?_,?_,?_⟩
  ·rw[e8,qdc hi];exact s
  ·rw[e8,qdc hi];exact k
  ·exact .own i _ v bx ly
 ·rcases qut with hn'|⟨b,off,rfl,us,uv,mw,m7,qpe⟩
  ·exact(hn hn').elim
  ·have hm:0<news.length:=by cases news with|nil=>exact(hn rfl).elim|cons=>simp
   obtain⟨v',w',jx,ky,qn7,hos,ht,hou,jq,tz⟩:=xga (P:=P) (w:=w) T ty e ie ze r8 lx hze pi kq v rows.length vs h2 ⟨b,off,none⟩ news.length cap us uv (fun j u hu=>by rw[xk];exact mw j u hu) m7 hm
    qf9 (by
     have:(rows.length+news.length) * ie.bytes≤68719476736 * 2048:=Nat.mul_le_mul jr hb;omega)
   obtain⟨c',ig,jd,kb,je⟩:=jih (E:=E) s k (w':=w') hi hv rfl hm jr ny qpe ky (fun xs hxs=>by
    have:xs=vs:=by
     rcases hxs.2 with⟨e1,e2⟩|⟨g,cp,cur,e1,_,e3,_,_,_,e4⟩
     ·have a1:xs=[]:=fk (by rw[hxs.1,e2];simp);have a2:vs=[]:=fk (by rw[h2.1,e2];simp);rw[a1,a2]
     ·rcases h2.2 with⟨f1,f2⟩|⟨g',cp',qz9,f1,_,f3,_,_,_,f4⟩
      ·rw[f1]at e1;cases e1
      ·rw[f1]at e1;cases e1;rw[f3]at e3;cases e3;rw[←e4,←f4]
    rw[this];exact qn7) hos ht hou jq tz
   exact⟨v',w',c',jx,ig,jd,kb,je⟩
theorem jcx{c:Ctx}{h:gz}{w:World}(s:HSim c h w)(k:E.ok c h w){T e sz ty:Nat}(hk:ij P T=.slice e sz)(kq:0<sz)(qnt:jn P e≤2048)(pr:iy P e=sz)(oh:ij P e≠.other)
  {i:Nat} {rows news:List (List AV)} (hi:h[i]?=some (.uarr e sz rows)) {v u:Value} (hv:c.sl i rows.length=some v) (hu:DRel c.D (.slice news) u) (ny:∀r,r∈news→r.length=sz) (jr:rows.length+news.length≤68719476736) :
  ∃v' w' c',(Builtin.append_ #[T,T] ty #[v,u]).run P w=.ok v' w'∧c.le c'∧HSim c' (h.set i (.uarr e sz (rows++news))) w'∧E.ok c' (h.set i (.uarr e sz (rows++news))) w'∧Rel c' (.own i (rows.length+news.length)) v':=by
 obtain⟨iT,dT,zT,_,r8,_,vz,_⟩:=lj hk ae;obtain⟨rfl,ie,lx,wv⟩:=xx vz;obtain⟨ie',de,ze,tp,_,hze,_,hts,_,pi,tf⟩:=lj (P:=P) (t:=e) rfl oh;rw[lx]at tp;cases tp;subst wv;have hb:ie.bytes≤2048:=by
  have:jn P e=ie.bytes:=by
   unfold jn;have ii:=oh;unfold ij at ii;split at ii
   ·rename_i x hx;obtain⟨i2,d2,z2,g1,_,_,rfl,_⟩:=qvk hx;rw[lx]at g1;cases g1;simp[hx]
   ·exact(ii rfl).elim
  omega
 obtain⟨v0,vs,h1,ly,v8,h2,h3,h4,h5⟩:=s.obj i _ hi;rw[hv]at h1;cases h1;obtain⟨ad,cap,rfl,qut⟩:=xhw s ny kq hu;by_cases hn:news=[]
 ·subst hn;have jx:=xsz (P:=P) (w:=w) T ty e ie r8 lx v rows.length vs h2 ad cap;refine⟨v,w,c,by simpa using jx,.refl c,?_,?_,?_⟩
  ·rw[e8,qdc hi];exact s
  ·rw[e8,qdc hi];exact k
  ·exact .own i _ v bx ly
 ·rcases qut with hn'|⟨b,off,rfl,us,uv,mw,m7,qpe⟩
  ·exact(hn hn').elim
  ·have hm:0<news.length:=by cases news with|nil=>exact(hn rfl).elim|cons=>simp
   obtain⟨v',w',jx,ky,qn7,hos,ht,hou,jq,tz⟩:=xga (P:=P) (w:=w) T ty e ie ze r8 lx hze pi kq v rows.length vs h2 ⟨b,off,none⟩ news.length cap us uv (fun j u hu=>by rw[xk];exact mw j u hu) m7 hm
    qf9 (by
     have:(rows.length+news.length) * ie.bytes≤68719476736 * 2048:=Nat.mul_le_mul jr hb;omega)
   obtain⟨c',ig,jd,kb,je⟩:=xi3 (E:=E) s k (w':=w') (rows':=rows++news) (us:=vs++us) hi hv am qhi (fun r hr=>by
    rcases dt.1 hr with hr|hr
    ·exact h4 r hr
    ·exact ny r hr) (DRel.flat h5 h2.1 qpe) ky (by simpa using qn7) hos ht hou jq tz
   exact⟨v',w',c',jx,ig,jd,kb,qge⟩
theorem Rel.flat{c:Ctx}{rows:List (List AV)}{vs:List Value}{sz:Nat}(h:∀(i j:Nat) (r:List AV) (x:AV),rows[i]?=some r→r[j]?=some x→∃u,vs[i * sz+j]?=some u∧Rel c x u∧u.oneCell'=true)
  {news:List (List AV)} {us:List Value} (hl:vs.length=rows.length * sz) (k:∀(i j:Nat) (r:List AV) (x:AV),news[i]?=some r→r[j]?=some x→∃u,us[i * sz+j]?=some u∧Rel c x u∧u.oneCell'=true) :
  ∀(i j:Nat) (r:List AV) (x:AV),(rows++news)[i]?=some r→r[j]?=some x→∃u,(vs++us)[i * sz+j]?=some u∧Rel c x u∧u.oneCell'=true:=by
 intro i j r x hr hx;by_cases hi:i<rows.length
 ·rw[cu hi]at hr;obtain⟨u,hu,hd⟩:=h i j r x hr hx;have ib:i * sz+j<vs.length:=(cq.1 hu).1;exact⟨u,by rw[cu ib];exact hu,hd⟩
 ·rw[cy aa]at hr;obtain⟨u,hu,hd⟩:=k _ j r x hr hx;have he:i * sz+j=vs.length+((i - rows.length) * sz+j):=by
   rw[hl,Nat.sub_mul];have:rows.length * sz≤i * sz:=fb _ aa;omega
  refine⟨u,?_,hd⟩;rw[he,cy aa];rw[show vs.length+((i - rows.length) * sz+j) - vs.length=(i - rows.length) * sz+j by omega];exact hu
theorem ja6{c:Ctx}{h:gz}{w:World}(s:HSim c h w)(k:E.ok c h w){T e sz ty:Nat}(hk:ij P T=.slice e sz)(kq:0<sz)(qnt:jn P e≤2048)(pr:iy P e=sz)(oh:ij P e≠.other)
  {i:Nat} {rows news:List (List AV)} (hi:h[i]?=some (.oarr e sz rows)) {v:Value} (hv:c.sl i rows.length=some v) {b off cap:Nat} {us:List Value} (uv:us.length=news.length * sz) (mw:∀j u,us[j]?=some u→w.cell? ⟨b,off+j,none⟩=some u)
  (m7:∀u∈us,u.oneCell'=true) (qpe:∀(i' j:Nat) (r:List AV) (x:AV),news[i']?=some r→r[j]?=some x→∃u,us[i' * sz+j]?=some u∧Rel c x u∧u.oneCell'=true) (hm:0<news.length) (ny:∀r,r∈news→r.length=sz) (jr:rows.length+news.length≤68719476736) :
  ∃v' w' c',(Builtin.append_ #[T,T] ty #[v,.slice (some ⟨b,off,none⟩) news.length cap]).run P w=.ok v' w'∧c.le c'∧HSim c' (h.set i (.oarr e sz (rows++news))) w'∧E.ok c' (h.set i (.oarr e sz (rows++news))) w'∧Rel c' (.own i (rows.length+news.length)) v':=by
 obtain⟨iT,dT,zT,_,r8,_,vz,_⟩:=lj hk ae;obtain⟨rfl,ie,lx,wv⟩:=xx vz;obtain⟨ie',de,ze,tp,_,hze,_,hts,_,pi,tf⟩:=lj (P:=P) (t:=e) rfl oh;rw[lx]at tp;cases tp;subst wv;have hb:ie.bytes≤2048:=by
  have:jn P e=ie.bytes:=by
   unfold jn;have ii:=oh;unfold ij at ii;split at ii
   ·rename_i x hx;obtain⟨i2,d2,z2,g1,_,_,rfl,_⟩:=qvk hx;rw[lx]at g1;cases g1;simp[hx]
   ·exact(ii rfl).elim
  omega
 obtain⟨v0,vs,h1,ly,v8,h2,h3,h4,h5⟩:=s.obj i _ hi;rw[hv]at h1;cases h1;obtain⟨v',w',jx,ky,qn7,hos,ht,hou,jq,tz⟩:=xga (P:=P) (w:=w) T ty e ie ze r8 lx hze pi kq v rows.length vs h2 ⟨b,off,none⟩ news.length cap us uv (fun j u hu=>by rw[xk];exact mw j u hu) m7 hm
  qf9 (by
   have:(rows.length+news.length) * ie.bytes≤68719476736 * 2048:=Nat.mul_le_mul jr hb;omega)
 obtain⟨c',ig,jd,kb,je⟩:=xv8 (E:=E) s k (w':=w') (rows':=rows++news) (us:=vs++us) hi hv am qhi (fun r hr=>by
  rcases dt.1 hr with hr|hr
  ·exact h4 r hr
  ·exact ny r hr) (Rel.flat h5 h2.1 qpe) ky (by simpa using qn7) hos ht hou jq tz
 exact⟨v',w',c',jx,ig,jd,kb,qge⟩
theorem jld{c:Ctx}{h:gz}{w:World}(s:HSim c h w){x:AV}{rows:List (List AV)}(hx:qz4 h x=some rows){u:Value}(hr:Rel c x u):DRel (c.share h w).D (.slice rows) u:=by
 have hn:=qep s hr;cases x with
 |slice r=>simp only[qz4,d7]at hx;subst hx;exact Rel.slice_inv hn
 |nils=>simp only[qz4,d7]at hx;subst hx;exact Rel.slice_inv hn
 |own i n =>
  simp only[qz4]at hx;simp only[AV.norm]at hn;split at hx
  ·rename_i e sz rows' hi;split at hx
   ·rename_i jr;simp only[d7]at hx;subst hx;simp only[hi,jr,if_true]at hn;exact Rel.slice_inv hn
   ·cases hx
  ·cases hx
 |_=>cases hx
theorem jod{c:Ctx}{h:gz}{w:World}(s:HSim c h w)(k:E.ok c h w){T ty:Nat}{x y:AV}{v u:Value}(hx:Rel c x v)(hy:Rel c y u){K:AV→gz→Prop}(hK:qtq P T x y h K) :
  ∃r h' v' w' c',K r h'∧(Builtin.append_ #[T,T] ty #[v,u]).run P w=.ok v' w'∧c.le c'∧HSim c' h' w'∧E.ok c' h' w'∧Rel c' r v':=by
 unfold qtq at hK;split at hK
 ·rename_i e sz news hk qut;obtain⟨ny,kq,qnt,pr,oh,hK⟩:=hK;have hu:=jld s qut hy;obtain⟨s1,k1⟩:=qx1 s k;have qm6:=qxd c h w;split at hK
  ·obtain⟨jr,hK⟩:=hK;have hv:v=.slice none 0 0:=by
    cases hx with
    |data h=>cases h
    |nils=>rfl
   subst hv;obtain⟨s2,k2⟩:=jke s1 k1 e sz;have qu5:(c.share h w).le ((c.share h w).addSl h.length 0 (.slice none 0 0)):=Ctx.addSl_le ((s1.dom _ (ct _)).2 0);obtain⟨v',w',c',jx,qx3,s3,k3,r3⟩:=xr8 (P:=P) (ty:=ty) s2 k2 hk kq qnt pr oh (i:=h.length) (rows:=[]) (news:=news) ae (v:=.slice none 0 0) bu (hu.mono qu5.D) ny qhi;refine⟨_,_,v',w',c',hK,jx,qm6.trans (qu5.trans qx3),by simpa using s3,by simpa using k3,by simpa using r3⟩
  ·rename_i i n;split at hK
   ·rename_i e' kl rows hi;obtain⟨rfl,rfl,rfl,jr,hK⟩:=hK;have hv:c.sl i rows.length=some v:=by
     cases hx with
     |data h=>cases h
     |own i n v h ho=>exact h
    obtain⟨v',w',c',jx,qx3,s3,k3,r3⟩:=xr8 (P:=P) (ty:=ty) s1 k1 hk kq qnt pr oh (i:=i) (rows:=rows) (news:=news) hi (v:=v) (qm6.sl _ _ _ hv) hu ny jr;exact⟨_,_,v',w',c',hK,jx,qm6.trans qx3,s3,k3,r3⟩
   ·rename_i e' kl rows hi;obtain⟨rfl,rfl,rfl,jr,hK⟩:=hK;have hv:c.sl i rows.length=some v:=by
     cases hx with
     |data h=>cases h
     |own i n v h ho=>exact h
    obtain⟨v',w',c',jx,qx3,s3,k3,r3⟩:=jcx (P:=P) (ty:=ty) s1 k1 hk kq qnt pr oh (i:=i) (rows:=rows) (news:=news) hi (v:=v) (qm6.sl _ _ _ hv) hu ny jr;exact⟨_,_,v',w',c',hK,jx,qm6.trans qx3,s3,k3,r3⟩
   ·exact hK.elim
  ·exact hK.elim
 ·exact hK.elim
theorem jn7{c:Ctx}{cells:List AV}{u:Value}(hr:Rel c (.lit cells) u):∃b o cap,∃g:Nat→Value,u=.slice (some ⟨b,o,none⟩) 1 cap∧(∀(j:Nat) (x:AV),cells[j]?=some x→c.D b (o+j)=some (g j)) ∧
  (∀(j:Nat) (x:AV),cells[j]?=some x→Rel c x (g j))∧∀(j:Nat) (x:AV),cells[j]?=some x→(g j).oneCell'=true:=by
 cases hr with
 |data h=>cases h
 |lit _ b o cap g hD h ho=>exact⟨b,o,cap,g,rfl,hD,h,ho⟩
theorem jkm{c:Ctx}{h:gz}{w:World}(s:HSim c h w)(k:E.ok c h w){T ty:Nat}{x y:AV}{v u:Value}(hx:Rel c x v)(hy:Rel c y u){K:AV→gz→Prop}(hK:qvx P T x y h K) :
  ∃r h' v' w' c',K r h'∧(Builtin.append_ #[T,T] ty #[v,u]).run P w=.ok v' w'∧c.le c'∧HSim c' h' w'∧E.ok c' h' w'∧Rel c' r v':=by
 unfold qvx at hK;split at hK
 ·rename_i cells;split at hK
  ·rename_i e sz i n hk;split at hK
   ·rename_i e' kl rows hi;obtain⟨l9,kq,qnt,pr,oh,rfl,rfl,hn,jr,hK⟩:=hK;obtain⟨b,o,cap,g,rfl,hD,hr,ho⟩:=jn7 hy;have hv:c.sl i rows.length=some v:=by
     cases hx with
     |data h=>cases h
     |own _ _ _ h _=>rw[hn];exact h
    have ib:∀j,j<cells.length→cells[j]?=some (cells[j]!):=fun j hj=>by rw[getElem!_pos cells j hj,da hj]
    obtain⟨v',w',c',jx,ig,jd,kb,je⟩:=ja6 (P:=P) (E:=E) (ty:=ty) s k hk kq qnt pr oh (news:=[cells]) hi hv (b:=b) (off:=o) (cap:=cap) (us:=(List.range cells.length).map g) (by simp[l9])
     (fun j u hu=>by
      have hj:j<cells.length:=by have:=(cq.1 hu).1;simpa using this
      rw[dq,List.getElem?_range hj]at hu;cases hu;exact s.data _ _ _ (hD j _ (ib j hj))) (fun u hu=>by
      obtain⟨j,hj,rfl⟩:=dk.1 hu;exact ho j _ (ib j (eh.1 hj))) (fun i' j r z hr1 hz=>by
      cases i' with
      |succ i'=>simp at hr1
      |zero =>
       simp at hr1;subst hr1;have hj:=(cq.1 hz).1;exact⟨g j,by rw[Nat.zero_mul,db,dq,List.getElem?_range hj];rfl,hr j z hz,ho j z hz⟩) ae (by simp[l9]) qhi
    rw[hn]at je;exact⟨_,_,v',w',c',hK,jx,ig,jd,kb,je⟩
   ·exact hK.elim
  ·exact hK.elim
 ·exact jod s k hx hy hK
end
end Go.Abs
