/- Part 7 of a proof: AbsX, AbsN -/
import Derived.Test.YtilhejdbiionhaaGreatDoorR06
set_option linter.all false

namespace Go.Abs
theorem uarr_nil{E:Ent}{c:Ctx}{h:qab}{w:World}(s:HSim c h w)(k:E.ok c h w)(e:TypeId)(sz:Nat) :
  c.le (c.addSl h.length 0 (.slice none 0 0))∧HSim (c.addSl h.length 0 (.slice none 0 0)) (h++[.uarr e sz []]) w∧E.ok (c.addSl h.length 0 (.slice none 0 0)) (h++[.uarr e sz []]) w:=by
 have hle:c.le (c.addSl h.length 0 (.slice none 0 0)):=Ctx.addSl_le ((s.dom _ (Nat.le_refl _)).2 0);have hsl:∀i,i<h.length→∀m,(c.addSl h.length 0 (.slice none 0 0)).sl i m=c.sl i m:=fun i hi m=>by
  simp only[Ctx.addSl];rw[if_neg (by omega)]
 have hlt:∀{i:Nat} {o:AObj},h[i]?=some o→i<h.length:=fun hi=>(List.getElem?_eq_some_iff.1 hi).1;have hnew:qag (c.addSl h.length 0 (.slice none 0 0)) h.length (.uarr e sz [])=none:=by simp[qag,Ctx.addSl,Value.ownBlock]
 refine⟨hle,⟨s.data,fun i hi=>?_,fun i o hi=>?_,fun i j o o' b hi hj hb hb'=>?_,fun i o b j v hi hb hD=>?_⟩,⟨k.edom,k.ext.trans hle,k.blk0,by have:=k.len;simp;omega,k.os,k.tape,k.output,k.size,k.frame,fun i o b hi hb=>?_,k.dold⟩⟩
 ·simp only[List.length_append,List.length_cons,List.length_nil]at hi;have:=s.dom i (by omega);refine⟨this.1,fun m=>?_⟩;simp only[Ctx.addSl];rw[if_neg (by omega)];exact this.2 m
 ·rcases qav hi with h1|⟨rfl,rfl⟩
  ·exact(s.obj i o h1).keep hle (hsl i (hlt h1)) fun _ _=>rfl
  ·refine⟨.slice none 0 0,[],by simp[Ctx.addSl],rfl,fun m hm=>?_,World.ownsRow_nil w 0 e sz,by simp,by simp,by simp⟩;simp only[Ctx.addSl];rw[if_neg (by simp at hm;omega)];exact(s.dom _ (Nat.le_refl _)).2 m
 ·rcases qav hi with h1|⟨rfl,rfl⟩<;>rcases qav hj with h2|⟨rfl,rfl⟩
  ·rw[(s.obj i o h1).blk hle]at hb;rw[(s.obj j o' h2).blk hle]at hb';exact s.apart i j o o' b h1 h2 hb hb'
  ·rw[hnew]at hb';cases hb'
  ·rw[hnew]at hb;cases hb
  ·rfl
 ·rcases qav hi with h1|⟨rfl,rfl⟩
  ·rw[(s.obj i o h1).blk hle]at hb;exact s.sep i o b j v h1 hb hD
  ·rw[hnew]at hb;cases hb
 ·rcases qav hi with h1|⟨rfl,rfl⟩
  ·rw[(s.obj i o h1).blk hle]at hb;exact k.newobj i o b h1 hb
  ·rw[hnew]at hb;cases hb
theorem uarr_grow{E:Ent}{c:Ctx}{h:qab}{w w':World}(s:HSim c h w)(k:E.ok c h w){i e sz:Nat}{rows rows':List (List AV)}{v v':Value}{us:List Value}(hi:h[i]?=some (.uarr e sz rows))
  (hv:c.sl i rows.length=some v) (hnl:rows.length<rows'.length) (hlen:rows'.length≤68719476736) (hrow:∀r,r∈rows'→r.length=sz)
  (hus:∀(i' j:Nat) (r:List AV) (x:AV),rows'[i']?=some r→r[j]?=some x→∃u,us[i' * sz+j]?=some u∧DRel c.D x u) (ho:v'.oneCell'=true)
  (hown':w'.ownsRow 0 e sz v' rows'.length us) (hos:w'.os=w.os) (ht:w'.tape=w.tape) (hou:w'.output=w.output) (hs:w.heap.size≤w'.heap.size)
  (htwo:(∃g,v.ownBlock=some g∧v'.ownBlock=some g∧∀k,k≠g→w'.heap[k]?=w.heap[k]?)∨(v'.ownBlock=some w.heap.size∧∀k,k<w.heap.size→w'.heap[k]?=w.heap[k]?)) :
  ∃c',c.le c'∧HSim c' (h.set i (.uarr e sz rows')) w'∧E.ok c' (h.set i (.uarr e sz rows')) w'∧Rel c' (.own i rows'.length) v':=by
 obtain⟨v0,vs,h1,_,hmax,h2,h3,h4,h5⟩:=s.obj i _ hi;rw[hv]at h1;cases h1;have hnone:c.sl i rows'.length=none:=hmax _ hnl;have hle:c.le (c.addSl i rows'.length v'):=Ctx.addSl_le hnone;have hsl:∀j,j≠i→∀m',(c.addSl i rows'.length v').sl j m'=c.sl j m':=fun j hj m'=>by
  simp only[Ctx.addSl];rw[if_neg (by intro h;exact hj h.1)]
 have hslv:(c.addSl i rows'.length v').sl i rows'.length=some v':=by simp[Ctx.addSl]
 have hbnew:qag (c.addSl i rows'.length v') i (.uarr e sz rows')=v'.ownBlock:=by simp only[qag,hslv,Option.bind_some]
 have hbold:qag c i (.uarr e sz rows)=v.ownBlock:=by simp only[qag,hv,Option.bind_some]
 have hoth:∀j o b,j≠i→h[j]?=some o→qag c j o=some b→w'.heap[b]?=w.heap[b]?:=fun j o b hj hjo hb=>by
  rcases htwo with⟨g,hg,hg',hk⟩|⟨hg',hk⟩
  ·refine hk b fun e=>hj ?_;subst e;exact s.apart j i o _ b hjo hi hb (by rw[hbold,hg])
  ·exact hk b ((s.obj j o hjo).lt hb)
 have hfresh:∀j o b,j≠i→h[j]?=some o→qag c j o=some b→v'.ownBlock≠some b:=fun j o b hj hjo hb hv'=>by
  rcases htwo with⟨g,hg,hg',hk⟩|⟨hg',hk⟩
  ·rw[hg']at hv';cases hv';exact hj (s.apart j i o _ _ hjo hi hb (by rw[hbold,hg]))
  ·rw[hg']at hv';cases hv';have:=(s.obj j o hjo).lt hb;omega
 have hnoD:∀b,v'.ownBlock=some b→∀j u,c.D b j=some u→False:=fun b hb j u hD=>by
  rcases htwo with⟨g,hg,hg',hk⟩|⟨hg',hk⟩
  ·rw[hg']at hb;cases hb;exact s.sep i _ _ j u hi (by rw[hbold,hg]) hD
  ·rw[hg']at hb;cases hb;rw[s.noD (Nat.le_refl _)]at hD;cases hD
 refine⟨_,hle,⟨fun b j u hD=>?_,fun j hj=>?_,fun j o hj=>?_,fun j j' o o' b hj hj' hb hb'=>?_,fun j o b n u hj hb hD=>?_⟩,⟨k.edom,k.ext.trans hle,k.blk0,by simpa using k.len,hos.trans k.os,ht.trans k.tape,hou.trans k.output,Nat.le_trans k.size hs,fun b hb hno=>?_,fun j o b hj hb=>?_,k.dold⟩,
  .own i _ v' (by simp[Ctx.addSl]) ho⟩
 ·have hD':c.D b j=some u:=hD;have hcell:=s.data b j u hD';rcases htwo with⟨g,hg,hg',hk⟩|⟨hg',hk⟩
  ·rw[World.cell?_of_block (w:=w) (hk b (fun e=>hnoD b (by rw[hg',e]) j u hD'))];exact hcell
  ·have hb:b<w.heap.size:=World.block_lt_of_cell? w ⟨b,j,none⟩ hcell;rw[World.cell?_of_block (w:=w) (hk b hb)];exact hcell
 ·have hj':h.length≤j:=by simpa using hj
  have hilt:i<h.length:=(List.getElem?_eq_some_iff.1 hi).1;have:=s.dom j hj';exact⟨this.1,fun m'=>by rw[hsl j (by omega)];exact this.2 m'⟩
 ·rcases qad hj with⟨rfl,rfl⟩|⟨hne,hjo⟩
  ·refine⟨v',us,hslv,ho,fun m' hm'=>?_,hown',hlen,hrow,hus⟩;simp only[Ctx.addSl];rw[if_neg (by omega)];exact hmax m' (by omega)
  ·exact(s.obj j o hjo).keep hle (hsl j hne) fun b hb=>hoth j o b hne hjo hb
 ·rcases qad hj with⟨rfl,rfl⟩|⟨hne,hjo⟩<;>rcases qad hj' with⟨h6,h7⟩|⟨hne',hjo'⟩
  ·exact h6.symm
  ·rw[hbnew]at hb;rw[(s.obj j' o' hjo').blk hle]at hb';exact(hfresh j' o' b hne' hjo' hb' hb).elim
  ·subst h6;subst h7;rw[hbnew]at hb';rw[(s.obj j o hjo).blk hle]at hb;exact(hfresh j o b hne hjo hb hb').elim
  ·rw[(s.obj j o hjo).blk hle]at hb;rw[(s.obj j' o' hjo').blk hle]at hb';exact s.apart j j' o o' b hjo hjo' hb hb'
 ·have hD':c.D b n=some u:=hD;rcases qad hj with⟨rfl,rfl⟩|⟨hne,hjo⟩
  ·rw[hbnew]at hb;exact hnoD b hb n u hD'
  ·rw[(s.obj j o hjo).blk hle]at hb;exact s.sep j o b n u hjo hb hD'
 ·have hne:∀g,v.ownBlock=some g→b≠g:=fun g hg e=>by
   subst e;rcases k.newobj i _ b hi (by rw[hbold,hg])with⟨o0,h0,h1⟩|h2
   ·exact hno i o0 h0 h1
   ·omega
  rcases htwo with⟨g,hg,hg',hk⟩|⟨hg',hk⟩
  ·rw[hk b (hne g hg)];exact k.frame b hb hno
  ·rw[hk b (Nat.lt_of_lt_of_le hb k.size)];exact k.frame b hb hno
 ·rcases qad hj with⟨rfl,rfl⟩|⟨hne,hjo⟩
  ·rw[hbnew]at hb;rcases htwo with⟨g,hg,hg',hk⟩|⟨hg',hk⟩
   ·rw[hg']at hb;cases hb;exact k.newobj j _ _ hi (by rw[hbold,hg])
   ·rw[hg']at hb;cases hb;exact .inr k.size
  ·rw[(s.obj j o hjo).blk hle]at hb;exact k.newobj j o b hjo hb
theorem demote_ok{E:Ent}{c:Ctx}{h:qab}{w:World}(s:HSim c h w)(k:E.ok c h w){i e sz:Nat}{rows:List (List AV)}(hi:h[i]?=some (.uarr e sz rows)) :
  ∃c',c.le c'∧HSim c' (h.set i (.arr e sz rows)) w∧E.ok c' (h.set i (.arr e sz rows)) w:=by
 obtain⟨v,vs,hv,ho,hmax,h2,h3,h4,h5⟩:=s.obj i _ hi;have hbold:qag c i (.uarr e sz rows)=v.ownBlock:=by simp only[qag,hv,Option.bind_some]
 have hnoD:∀b,v.ownBlock=some b→∀j u,c.D b j=some u→False:=fun b hb j u hD=>s.sep i _ b j u hi (by rw[hbold,hb]) hD
 let c':Ctx:={ c with D:=fun b j=>if v.ownBlock=some b∧j<vs.length then vs[j]? else c.D b j }
 have hDle:∀b j u,c.D b j=some u→c'.D b j=some u:=fun b j u hD=>by
  simp only[c'];rw[if_neg (fun hh=>hnoD b hh.1 j u hD)];exact hD
 have hle:c.le c':=⟨hDle,fun _ _ h=>h,fun _ _ _ h=>h⟩
 have hDnew:∀b j u,c'.D b j=some u→(v.ownBlock=some b∧j<vs.length∧vs[j]?=some u)∨(v.ownBlock≠some b∧c.D b j=some u):=fun b j u hD=>by
  simp only[c']at hD;split at hD
  ·rename_i hh;exact .inl ⟨hh.1,hh.2,hD⟩
  ·by_cases hb:v.ownBlock=some b
   ·exact(hnoD b hb j u hD).elim
   ·exact .inr ⟨hb,hD⟩
 have hbnew:qag c' i (.arr e sz rows)=v.ownBlock:=by
  show(c.sl i rows.length).bind Value.ownBlock=_;rw[hv];rfl
 have hsame:∀j o b,(h.set i (.arr e sz rows))[j]?=some o→qag c' j o=some b→∃o0,h[j]?=some o0∧qag c j o0=some b:=fun j o b hj hb=>by
  rcases qad hj with⟨rfl,rfl⟩|⟨hne,hjo⟩
  ·exact⟨_,hi,by rw[hbold,←hbnew,hb]⟩
  ·rw[(s.obj j o hjo).blk hle]at hb;exact⟨o,hjo,hb⟩
 refine⟨c',hle,⟨fun b j u hD=>?_,fun j hj=>s.dom j (by simpa using hj),fun j o hj=>?_,fun j j' o o' b hj hj' hb hb'=>?_,fun j o b n u hj hb hD=>?_⟩,
  ⟨k.edom,k.ext.trans hle,k.blk0,by simpa using k.len,k.os,k.tape,k.output,k.size,k.frame,fun j o b hj hb=>?_,fun b j u hD=>?_⟩⟩
 ·rcases hDnew b j u hD with⟨hg,_,hu⟩|⟨_,hD'⟩
  ·have:=h2.cells hg j u hu
   rwa [qdv,Nat.zero_add]at this
  ·exact s.data b j u hD'
 ·rcases qad hj with⟨rfl,rfl⟩|⟨hne,hjo⟩
  ·refine⟨v,vs,hv,ho,hmax,h2,h3,h4,fun i' j' r x hr hx=>(h5 i' j' r x hr hx).imp fun u hu=>⟨hu.1,hu.2.mono hDle⟩,fun b n hb hn=>?_⟩;rw[←h2.1]at hn;refine⟨vs[n],?_⟩;simp only[c',if_pos (show v.ownBlock=some b∧n<vs.length from⟨hb,hn⟩)];exact List.getElem?_eq_getElem hn
  ·exact(s.obj j o hjo).keep hle (fun _=>rfl) fun _ _=>rfl
 ·obtain⟨o1,g1,g2⟩:=hsame j o b hj hb;obtain⟨o2,g3,g4⟩:=hsame j' o' b hj' hb';exact s.apart j j' o1 o2 b g1 g3 g2 g4
 ·rcases qad hj with⟨rfl,rfl⟩|⟨hne,hjo⟩
  ·rw[hbnew]at hb;simp only[AObj.shares];rcases hDnew b n u hD with⟨_,hn,_⟩|⟨hg,_⟩
   ·rw[←h2.1];exact hn
   ·exact(hg hb).elim
  ·rw[(s.obj j o hjo).blk hle]at hb;rcases hDnew b n u hD with⟨hg,_⟩|⟨_,hD'⟩
   ·exact(hne (s.apart j i o _ b hjo hi hb (by rw[hbold,hg]))).elim
   ·exact s.sep j o b n u hjo hb hD'
 ·obtain⟨o1,g1,g2⟩:=hsame j o b hj hb;exact k.newobj j o1 b g1 g2
 ·rcases hDnew b j u hD with⟨hg,_⟩|⟨_,hD'⟩
  ·rcases k.newobj i _ b hi (by rw[hbold,hg])with⟨o0,g1,g2⟩|g1
   ·exact .inr (.inr ⟨i,o0,g1,g2⟩)
   ·exact .inr (.inl g1)
  ·exact k.dold b j u hD'
theorem qef(E:Ent)(e:Env){i t sz:Nat}{rows:List (List AV)}(hi:e.h[i]?=some (.uarr t sz rows)):Wk E e ⟨e.t,e.h.set i (.arr t sz rows)⟩:=fun c a w s k=>by
 obtain⟨c',hle,s',k'⟩:=demote_ok s.hs k hi;exact⟨c',⟨s.defers,s.size,fun j=>(s.tmps j).mono hle,s'⟩,k'⟩
theorem oarr_grow{E:Ent}{c:Ctx}{h:qab}{w w':World}(s:HSim c h w)(k:E.ok c h w){i e sz:Nat}{rows rows':List (List AV)}{v v':Value}{us:List Value}(hi:h[i]?=some (.oarr e sz rows))
  (hv:c.sl i rows.length=some v) (hnl:rows.length<rows'.length) (hlen:rows'.length≤68719476736) (hrow:∀r,r∈rows'→r.length=sz)
  (hus:∀(i' j:Nat) (r:List AV) (x:AV),rows'[i']?=some r→r[j]?=some x→∃u,us[i' * sz+j]?=some u∧Rel c x u∧u.oneCell'=true) (ho:v'.oneCell'=true)
  (hown':w'.ownsRow 0 e sz v' rows'.length us) (hos:w'.os=w.os) (ht:w'.tape=w.tape) (hou:w'.output=w.output) (hs:w.heap.size≤w'.heap.size)
  (htwo:(∃g,v.ownBlock=some g∧v'.ownBlock=some g∧∀k,k≠g→w'.heap[k]?=w.heap[k]?)∨(v'.ownBlock=some w.heap.size∧∀k,k<w.heap.size→w'.heap[k]?=w.heap[k]?)) :
  ∃c',c.le c'∧HSim c' (h.set i (.oarr e sz rows')) w'∧E.ok c' (h.set i (.oarr e sz rows')) w'∧Rel c' (.own i rows'.length) v':=by
 obtain⟨v0,vs,h1,_,hmax,h2,h3,h4,h5⟩:=s.obj i _ hi;rw[hv]at h1;cases h1;have hnone:c.sl i rows'.length=none:=hmax _ hnl;have hle:c.le (c.addSl i rows'.length v'):=Ctx.addSl_le hnone;have hsl:∀j,j≠i→∀m',(c.addSl i rows'.length v').sl j m'=c.sl j m':=fun j hj m'=>by
  simp only[Ctx.addSl];rw[if_neg (by intro h;exact hj h.1)]
 have hslv:(c.addSl i rows'.length v').sl i rows'.length=some v':=by simp[Ctx.addSl]
 have hbnew:qag (c.addSl i rows'.length v') i (.oarr e sz rows')=v'.ownBlock:=by simp only[qag,hslv,Option.bind_some]
 have hbold:qag c i (.oarr e sz rows)=v.ownBlock:=by simp only[qag,hv,Option.bind_some]
 have hoth:∀j o b,j≠i→h[j]?=some o→qag c j o=some b→w'.heap[b]?=w.heap[b]?:=fun j o b hj hjo hb=>by
  rcases htwo with⟨g,hg,hg',hk⟩|⟨hg',hk⟩
  ·refine hk b fun e=>hj ?_;subst e;exact s.apart j i o _ b hjo hi hb (by rw[hbold,hg])
  ·exact hk b ((s.obj j o hjo).lt hb)
 have hfresh:∀j o b,j≠i→h[j]?=some o→qag c j o=some b→v'.ownBlock≠some b:=fun j o b hj hjo hb hv'=>by
  rcases htwo with⟨g,hg,hg',hk⟩|⟨hg',hk⟩
  ·rw[hg']at hv';cases hv';exact hj (s.apart j i o _ _ hjo hi hb (by rw[hbold,hg]))
  ·rw[hg']at hv';cases hv';have:=(s.obj j o hjo).lt hb;omega
 have hnoD:∀b,v'.ownBlock=some b→∀j u,c.D b j=some u→False:=fun b hb j u hD=>by
  rcases htwo with⟨g,hg,hg',hk⟩|⟨hg',hk⟩
  ·rw[hg']at hb;cases hb;exact s.sep i _ _ j u hi (by rw[hbold,hg]) hD
  ·rw[hg']at hb;cases hb;rw[s.noD (Nat.le_refl _)]at hD;cases hD
 refine⟨_,hle,⟨fun b j u hD=>?_,fun j hj=>?_,fun j o hj=>?_,fun j j' o o' b hj hj' hb hb'=>?_,fun j o b n u hj hb hD=>?_⟩,⟨k.edom,k.ext.trans hle,k.blk0,by simpa using k.len,hos.trans k.os,ht.trans k.tape,hou.trans k.output,Nat.le_trans k.size hs,fun b hb hno=>?_,fun j o b hj hb=>?_,k.dold⟩,
  .own i _ v' (by simp[Ctx.addSl]) ho⟩
 ·have hD':c.D b j=some u:=hD;have hcell:=s.data b j u hD';rcases htwo with⟨g,hg,hg',hk⟩|⟨hg',hk⟩
  ·rw[World.cell?_of_block (w:=w) (hk b (fun e=>hnoD b (by rw[hg',e]) j u hD'))];exact hcell
  ·have hb:b<w.heap.size:=World.block_lt_of_cell? w ⟨b,j,none⟩ hcell;rw[World.cell?_of_block (w:=w) (hk b hb)];exact hcell
 ·have hj':h.length≤j:=by simpa using hj
  have hilt:i<h.length:=(List.getElem?_eq_some_iff.1 hi).1;have:=s.dom j hj';exact⟨this.1,fun m'=>by rw[hsl j (by omega)];exact this.2 m'⟩
 ·rcases qad hj with⟨rfl,rfl⟩|⟨hne,hjo⟩
  ·refine⟨v',us,hslv,ho,fun m' hm'=>?_,hown',hlen,hrow,fun i' j' r x hr hx=>(hus i' j' r x hr hx).imp fun u hu=>⟨hu.1,hu.2.1.mono hle,hu.2.2⟩⟩;simp only[Ctx.addSl];rw[if_neg (by omega)];exact hmax m' (by omega)
  ·exact(s.obj j o hjo).keep hle (hsl j hne) fun b hb=>hoth j o b hne hjo hb
 ·rcases qad hj with⟨rfl,rfl⟩|⟨hne,hjo⟩<;>rcases qad hj' with⟨h6,h7⟩|⟨hne',hjo'⟩
  ·exact h6.symm
  ·rw[hbnew]at hb;rw[(s.obj j' o' hjo').blk hle]at hb';exact(hfresh j' o' b hne' hjo' hb' hb).elim
  ·subst h6;subst h7;rw[hbnew]at hb';rw[(s.obj j o hjo).blk hle]at hb;exact(hfresh j o b hne hjo hb hb').elim
  ·rw[(s.obj j o hjo).blk hle]at hb;rw[(s.obj j' o' hjo').blk hle]at hb';exact s.apart j j' o o' b hjo hjo' hb hb'
 ·have hD':c.D b n=some u:=hD;rcases qad hj with⟨rfl,rfl⟩|⟨hne,hjo⟩
  ·rw[hbnew]at hb;exact hnoD b hb n u hD'
  ·rw[(s.obj j o hjo).blk hle]at hb;exact s.sep j o b n u hjo hb hD'
 ·have hne:∀g,v.ownBlock=some g→b≠g:=fun g hg e=>by
   subst e;rcases k.newobj i _ b hi (by rw[hbold,hg])with⟨o0,h0,h1⟩|h2
   ·exact hno i o0 h0 h1
   ·omega
  rcases htwo with⟨g,hg,hg',hk⟩|⟨hg',hk⟩
  ·rw[hk b (hne g hg)];exact k.frame b hb hno
  ·rw[hk b (Nat.lt_of_lt_of_le hb k.size)];exact k.frame b hb hno
 ·rcases qad hj with⟨rfl,rfl⟩|⟨hne,hjo⟩
  ·rw[hbnew]at hb;rcases htwo with⟨g,hg,hg',hk⟩|⟨hg',hk⟩
   ·rw[hg']at hb;cases hb;exact k.newobj j _ _ hi (by rw[hbold,hg])
   ·rw[hg']at hb;cases hb;exact .inr k.size
  ·rw[(s.obj j o hjo).blk hle]at hb;exact k.newobj j o b hjo hb
end Go.Abs

namespace Go.Abs
section
variable {P:Program} {E:Ent}
theorem qdc{α:Type}{l:List α}{i:Nat}{x:α}(h:l[i]?=some x):l.set i x=l:=by
 apply List.ext_getElem?;intro j;rw[List.getElem?_set];split
 ·rename_i hij;subst hij;rw[h];split<;>simp;rename_i hn;exact(hn (List.getElem?_eq_some_iff.1 h).1).elim
 ·rfl
theorem append_obj{c:Ctx}{h:qab}{w:World}(s:HSim c h w)(k:E.ok c h w){T e sz ty:Nat}(hk:qah P T=.slice e sz)(hpos:0<sz)(hbytes:qaq P e≤2048)(hsize:qat P e=sz)(hke:qah P e≠.other)
  {i:Nat} {rows news:List (List AV)} (hi:h[i]?=some (.arr e sz rows)) {v u:Value} (hv:c.sl i rows.length=some v) (hu:DRel c.D (.slice news) u) (hrow:∀r,r∈news→r.length=sz) (hlen:rows.length+news.length≤68719476736) :
  ∃v' w' c',(Builtin.append_ #[T,T] ty #[v,u]).run P w=.ok v' w'∧c.le c'∧HSim c' (h.set i (.arr e sz (rows++news))) w'∧E.ok c' (h.set i (.arr e sz (rows++news))) w'∧Rel c' (.own i (rows.length+news.length)) v':=by
 obtain⟨iT,dT,zT,_,hund,_,hkd,_⟩:=qas hk (by simp);obtain⟨rfl,ie,hie,hies⟩:=qbq hkd;obtain⟨ie',de,ze,hie',_,hze,_,hts,_,hzs,hz1⟩:=qas (P:=P) (t:=e) rfl hke;rw[hie]at hie';cases hie';subst hies;have hb:ie.bytes≤2048:=by
  have:qaq P e=ie.bytes:=by
   unfold qaq;have hne:=hke;unfold qah at hne;split at hne
   ·rename_i x hx;obtain⟨i2,d2,z2,g1,_,_,rfl,_⟩:=ti_spec hx;rw[hie]at g1;cases g1;simp[hx]
   ·exact(hne rfl).elim
  omega
 obtain⟨v0,vs,h1,ho1,hmax,h2,h3,h4,h5,h6⟩:=s.obj i _ hi;rw[hv]at h1;cases h1;obtain⟨ad,cap,rfl,hsrc⟩:=data_row s hrow hpos hu;by_cases hn:news=[]
 ·subst hn;have hrun:=append_zero (P:=P) (w:=w) T ty e ie hund hie v rows.length vs h2 ad cap;refine⟨v,w,c,by simpa using hrun,.refl c,?_,?_,?_⟩
  ·rw[List.append_nil,qdc hi];exact s
  ·rw[List.append_nil,qdc hi];exact k
  ·exact .own i _ v (by simpa using hv) ho1
 ·rcases hsrc with hn'|⟨b,off,rfl,us,hul,hcell,hone,hdat⟩
  ·exact(hn hn').elim
  ·have hm:0<news.length:=by cases news with|nil=>exact(hn rfl).elim|cons=>simp
   obtain⟨v',w',hrun,ho',hown',hos,ht,hou,hsz,htwo⟩:=append_two (P:=P) (w:=w) T ty e ie ze hund hie hze hzs hpos v rows.length vs h2 ⟨b,off,none⟩ news.length cap us hul (fun j u hu=>by rw[qdv];exact hcell j u hu) hone hm
    (by simp only[maxLen];omega) (by
     have:(rows.length+news.length) * ie.bytes≤68719476736 * 2048:=Nat.mul_le_mul hlen hb;omega)
   obtain⟨c',hle,hs',hk',hr'⟩:=arr_grow (E:=E) s k (w':=w') hi hv rfl hm hlen hrow hdat ho' (fun xs hxs=>by
    have:xs=vs:=by
     rcases hxs.2 with⟨e1,e2⟩|⟨g,cp,cur,e1,_,e3,_,_,_,e4⟩
     ·have a1:xs=[]:=List.eq_nil_of_length_eq_zero (by rw[hxs.1,e2];simp);have a2:vs=[]:=List.eq_nil_of_length_eq_zero (by rw[h2.1,e2];simp);rw[a1,a2]
     ·rcases h2.2 with⟨f1,f2⟩|⟨g',cp',cur',f1,_,f3,_,_,_,f4⟩
      ·rw[f1]at e1;cases e1
      ·rw[f1]at e1;cases e1;rw[f3]at e3;cases e3;rw[←e4,←f4]
    rw[this];exact hown') hos ht hou hsz htwo
   exact⟨v',w',c',hrun,hle,hs',hk',hr'⟩
theorem append_uobj{c:Ctx}{h:qab}{w:World}(s:HSim c h w)(k:E.ok c h w){T e sz ty:Nat}(hk:qah P T=.slice e sz)(hpos:0<sz)(hbytes:qaq P e≤2048)(hsize:qat P e=sz)(hke:qah P e≠.other)
  {i:Nat} {rows news:List (List AV)} (hi:h[i]?=some (.uarr e sz rows)) {v u:Value} (hv:c.sl i rows.length=some v) (hu:DRel c.D (.slice news) u) (hrow:∀r,r∈news→r.length=sz) (hlen:rows.length+news.length≤68719476736) :
  ∃v' w' c',(Builtin.append_ #[T,T] ty #[v,u]).run P w=.ok v' w'∧c.le c'∧HSim c' (h.set i (.uarr e sz (rows++news))) w'∧E.ok c' (h.set i (.uarr e sz (rows++news))) w'∧Rel c' (.own i (rows.length+news.length)) v':=by
 obtain⟨iT,dT,zT,_,hund,_,hkd,_⟩:=qas hk (by simp);obtain⟨rfl,ie,hie,hies⟩:=qbq hkd;obtain⟨ie',de,ze,hie',_,hze,_,hts,_,hzs,hz1⟩:=qas (P:=P) (t:=e) rfl hke;rw[hie]at hie';cases hie';subst hies;have hb:ie.bytes≤2048:=by
  have:qaq P e=ie.bytes:=by
   unfold qaq;have hne:=hke;unfold qah at hne;split at hne
   ·rename_i x hx;obtain⟨i2,d2,z2,g1,_,_,rfl,_⟩:=ti_spec hx;rw[hie]at g1;cases g1;simp[hx]
   ·exact(hne rfl).elim
  omega
 obtain⟨v0,vs,h1,ho1,hmax,h2,h3,h4,h5⟩:=s.obj i _ hi;rw[hv]at h1;cases h1;obtain⟨ad,cap,rfl,hsrc⟩:=data_row s hrow hpos hu;by_cases hn:news=[]
 ·subst hn;have hrun:=append_zero (P:=P) (w:=w) T ty e ie hund hie v rows.length vs h2 ad cap;refine⟨v,w,c,by simpa using hrun,.refl c,?_,?_,?_⟩
  ·rw[List.append_nil,qdc hi];exact s
  ·rw[List.append_nil,qdc hi];exact k
  ·exact .own i _ v (by simpa using hv) ho1
 ·rcases hsrc with hn'|⟨b,off,rfl,us,hul,hcell,hone,hdat⟩
  ·exact(hn hn').elim
  ·have hm:0<news.length:=by cases news with|nil=>exact(hn rfl).elim|cons=>simp
   obtain⟨v',w',hrun,ho',hown',hos,ht,hou,hsz,htwo⟩:=append_two (P:=P) (w:=w) T ty e ie ze hund hie hze hzs hpos v rows.length vs h2 ⟨b,off,none⟩ news.length cap us hul (fun j u hu=>by rw[qdv];exact hcell j u hu) hone hm
    (by simp only[maxLen];omega) (by
     have:(rows.length+news.length) * ie.bytes≤68719476736 * 2048:=Nat.mul_le_mul hlen hb;omega)
   obtain⟨c',hle,hs',hk',hr'⟩:=uarr_grow (E:=E) s k (w':=w') (rows':=rows++news) (us:=vs++us) hi hv (by simp;omega) (by simpa using hlen) (fun r hr=>by
    rcases List.mem_append.1 hr with hr|hr
    ·exact h4 r hr
    ·exact hrow r hr) (DRel.flat h5 h2.1 hdat) ho' (by simpa using hown') hos ht hou hsz htwo
   exact⟨v',w',c',hrun,hle,hs',hk',by simpa using hr'⟩
theorem Rel.flat{c:Ctx}{rows:List (List AV)}{vs:List Value}{sz:Nat}(h:∀(i j:Nat) (r:List AV) (x:AV),rows[i]?=some r→r[j]?=some x→∃u,vs[i * sz+j]?=some u∧Rel c x u∧u.oneCell'=true)
  {news:List (List AV)} {us:List Value} (hl:vs.length=rows.length * sz) (k:∀(i j:Nat) (r:List AV) (x:AV),news[i]?=some r→r[j]?=some x→∃u,us[i * sz+j]?=some u∧Rel c x u∧u.oneCell'=true) :
  ∀(i j:Nat) (r:List AV) (x:AV),(rows++news)[i]?=some r→r[j]?=some x→∃u,(vs++us)[i * sz+j]?=some u∧Rel c x u∧u.oneCell'=true:=by
 intro i j r x hr hx;by_cases hi:i<rows.length
 ·rw[List.getElem?_append_left hi]at hr;obtain⟨u,hu,hd⟩:=h i j r x hr hx;have hlt:i * sz+j<vs.length:=(List.getElem?_eq_some_iff.1 hu).1;exact⟨u,by rw[List.getElem?_append_left hlt];exact hu,hd⟩
 ·rw[List.getElem?_append_right (by omega)]at hr;obtain⟨u,hu,hd⟩:=k _ j r x hr hx;have he:i * sz+j=vs.length+((i - rows.length) * sz+j):=by
   rw[hl,Nat.sub_mul];have:rows.length * sz≤i * sz:=Nat.mul_le_mul_right _ (by omega);omega
  refine⟨u,?_,hd⟩;rw[he,List.getElem?_append_right (by omega)];rw[show vs.length+((i - rows.length) * sz+j) - vs.length=(i - rows.length) * sz+j by omega];exact hu
theorem append_oobj{c:Ctx}{h:qab}{w:World}(s:HSim c h w)(k:E.ok c h w){T e sz ty:Nat}(hk:qah P T=.slice e sz)(hpos:0<sz)(hbytes:qaq P e≤2048)(hsize:qat P e=sz)(hke:qah P e≠.other)
  {i:Nat} {rows news:List (List AV)} (hi:h[i]?=some (.oarr e sz rows)) {v:Value} (hv:c.sl i rows.length=some v) {b off cap:Nat} {us:List Value} (hul:us.length=news.length * sz) (hcell:∀j u,us[j]?=some u→w.cell? ⟨b,off+j,none⟩=some u)
  (hone:∀u∈us,u.oneCell'=true) (hdat:∀(i' j:Nat) (r:List AV) (x:AV),news[i']?=some r→r[j]?=some x→∃u,us[i' * sz+j]?=some u∧Rel c x u∧u.oneCell'=true) (hm:0<news.length) (hrow:∀r,r∈news→r.length=sz) (hlen:rows.length+news.length≤68719476736) :
  ∃v' w' c',(Builtin.append_ #[T,T] ty #[v,.slice (some ⟨b,off,none⟩) news.length cap]).run P w=.ok v' w'∧c.le c'∧HSim c' (h.set i (.oarr e sz (rows++news))) w'∧E.ok c' (h.set i (.oarr e sz (rows++news))) w'∧Rel c' (.own i (rows.length+news.length)) v':=by
 obtain⟨iT,dT,zT,_,hund,_,hkd,_⟩:=qas hk (by simp);obtain⟨rfl,ie,hie,hies⟩:=qbq hkd;obtain⟨ie',de,ze,hie',_,hze,_,hts,_,hzs,hz1⟩:=qas (P:=P) (t:=e) rfl hke;rw[hie]at hie';cases hie';subst hies;have hb:ie.bytes≤2048:=by
  have:qaq P e=ie.bytes:=by
   unfold qaq;have hne:=hke;unfold qah at hne;split at hne
   ·rename_i x hx;obtain⟨i2,d2,z2,g1,_,_,rfl,_⟩:=ti_spec hx;rw[hie]at g1;cases g1;simp[hx]
   ·exact(hne rfl).elim
  omega
 obtain⟨v0,vs,h1,ho1,hmax,h2,h3,h4,h5⟩:=s.obj i _ hi;rw[hv]at h1;cases h1;obtain⟨v',w',hrun,ho',hown',hos,ht,hou,hsz,htwo⟩:=append_two (P:=P) (w:=w) T ty e ie ze hund hie hze hzs hpos v rows.length vs h2 ⟨b,off,none⟩ news.length cap us hul (fun j u hu=>by rw[qdv];exact hcell j u hu) hone hm
  (by simp only[maxLen];omega) (by
   have:(rows.length+news.length) * ie.bytes≤68719476736 * 2048:=Nat.mul_le_mul hlen hb;omega)
 obtain⟨c',hle,hs',hk',hr'⟩:=oarr_grow (E:=E) s k (w':=w') (rows':=rows++news) (us:=vs++us) hi hv (by simp;omega) (by simpa using hlen) (fun r hr=>by
  rcases List.mem_append.1 hr with hr|hr
  ·exact h4 r hr
  ·exact hrow r hr) (Rel.flat h5 h2.1 hdat) ho' (by simpa using hown') hos ht hou hsz htwo
 exact⟨v',w',c',hrun,hle,hs',hk',by simpa using hr'⟩
theorem src_rel{c:Ctx}{h:qab}{w:World}(s:HSim c h w){x:AV}{rows:List (List AV)}(hx:srcRows h x=some rows){u:Value}(hr:Rel c x u):DRel (c.share h w).D (.slice rows) u:=by
 have hn:=norm_rel s hr;cases x with
 |slice r=>simp only[srcRows,Option.some.injEq]at hx;subst hx;exact Rel.slice_inv hn
 |nils=>simp only[srcRows,Option.some.injEq]at hx;subst hx;exact Rel.slice_inv hn
 |own i n =>
  simp only[srcRows]at hx;simp only[AV.norm]at hn;split at hx
  ·rename_i e sz rows' hi;split at hx
   ·rename_i hlen;simp only[Option.some.injEq]at hx;subst hx;simp only[hi,hlen,if_true]at hn;exact Rel.slice_inv hn
   ·cases hx
  ·cases hx
 |_=>cases hx
theorem append_ok0{c:Ctx}{h:qab}{w:World}(s:HSim c h w)(k:E.ok c h w){T ty:Nat}{x y:AV}{v u:Value}(hx:Rel c x v)(hy:Rel c y u){K:AV→qab→Prop}(hK:aAppend0 P T x y h K) :
  ∃r h' v' w' c',K r h'∧(Builtin.append_ #[T,T] ty #[v,u]).run P w=.ok v' w'∧c.le c'∧HSim c' h' w'∧E.ok c' h' w'∧Rel c' r v':=by
 unfold aAppend0 at hK;split at hK
 ·rename_i e sz news hk hsrc;obtain⟨hrow,hpos,hbytes,hsize,hke,hK⟩:=hK;have hu:=src_rel s hsrc hy;obtain⟨s1,k1⟩:=share_ok s k;have hle1:=share_le c h w;split at hK
  ·obtain⟨hlen,hK⟩:=hK;have hv:v=.slice none 0 0:=by
    cases hx with
    |data h=>cases h
    |nils=>rfl
   subst hv;obtain⟨s2,k2⟩:=arr_nil s1 k1 e sz;have hle2:(c.share h w).le ((c.share h w).addSl h.length 0 (.slice none 0 0)):=Ctx.addSl_le ((s1.dom _ (Nat.le_refl _)).2 0);obtain⟨v',w',c',hrun,hle3,s3,k3,r3⟩:=append_obj (P:=P) (ty:=ty) s2 k2 hk hpos hbytes hsize hke (i:=h.length) (rows:=[]) (news:=news) (by simp) (v:=.slice none 0 0) (by simp[Ctx.addSl]) (hu.mono hle2.D) hrow (by simpa using hlen);refine⟨_,_,v',w',c',hK,hrun,hle1.trans (hle2.trans hle3),by simpa using s3,by simpa using k3,by simpa using r3⟩
  ·rename_i i n;split at hK
   ·rename_i e' sz' rows hi;obtain⟨rfl,rfl,rfl,hlen,hK⟩:=hK;have hv:c.sl i rows.length=some v:=by
     cases hx with
     |data h=>cases h
     |own i n v h ho=>exact h
    obtain⟨v',w',c',hrun,hle3,s3,k3,r3⟩:=append_obj (P:=P) (ty:=ty) s1 k1 hk hpos hbytes hsize hke (i:=i) (rows:=rows) (news:=news) hi (v:=v) (hle1.sl _ _ _ hv) hu hrow hlen;exact⟨_,_,v',w',c',hK,hrun,hle1.trans hle3,s3,k3,r3⟩
   ·rename_i e' sz' rows hi;obtain⟨rfl,rfl,rfl,hlen,hK⟩:=hK;have hv:c.sl i rows.length=some v:=by
     cases hx with
     |data h=>cases h
     |own i n v h ho=>exact h
    obtain⟨v',w',c',hrun,hle3,s3,k3,r3⟩:=append_uobj (P:=P) (ty:=ty) s1 k1 hk hpos hbytes hsize hke (i:=i) (rows:=rows) (news:=news) hi (v:=v) (hle1.sl _ _ _ hv) hu hrow hlen;exact⟨_,_,v',w',c',hK,hrun,hle1.trans hle3,s3,k3,r3⟩
   ·exact hK.elim
  ·exact hK.elim
 ·exact hK.elim
theorem lit_inv{c:Ctx}{cells:List AV}{u:Value}(hr:Rel c (.lit cells) u):∃b o cap,∃g:Nat→Value,u=.slice (some ⟨b,o,none⟩) 1 cap∧(∀(j:Nat) (x:AV),cells[j]?=some x→c.D b (o+j)=some (g j)) ∧
  (∀(j:Nat) (x:AV),cells[j]?=some x→Rel c x (g j))∧∀(j:Nat) (x:AV),cells[j]?=some x→(g j).oneCell'=true:=by
 cases hr with
 |data h=>cases h
 |lit _ b o cap g hD h ho=>exact⟨b,o,cap,g,rfl,hD,h,ho⟩
theorem append_ok{c:Ctx}{h:qab}{w:World}(s:HSim c h w)(k:E.ok c h w){T ty:Nat}{x y:AV}{v u:Value}(hx:Rel c x v)(hy:Rel c y u){K:AV→qab→Prop}(hK:aAppend P T x y h K) :
  ∃r h' v' w' c',K r h'∧(Builtin.append_ #[T,T] ty #[v,u]).run P w=.ok v' w'∧c.le c'∧HSim c' h' w'∧E.ok c' h' w'∧Rel c' r v':=by
 unfold aAppend at hK;split at hK
 ·rename_i cells;split at hK
  ·rename_i e sz i n hk;split at hK
   ·rename_i e' sz' rows hi;obtain⟨hcl,hpos,hbytes,hsize,hke,rfl,rfl,hn,hlen,hK⟩:=hK;obtain⟨b,o,cap,g,rfl,hD,hr,ho⟩:=lit_inv hy;have hv:c.sl i rows.length=some v:=by
     cases hx with
     |data h=>cases h
     |own _ _ _ h _=>rw[hn];exact h
    have hlt:∀j,j<cells.length→cells[j]?=some (cells[j]!):=fun j hj=>by rw[getElem!_pos cells j hj,List.getElem?_eq_getElem hj]
    obtain⟨v',w',c',hrun,hle,hs',hk',hr'⟩:=append_oobj (P:=P) (E:=E) (ty:=ty) s k hk hpos hbytes hsize hke (news:=[cells]) hi hv (b:=b) (off:=o) (cap:=cap) (us:=(List.range cells.length).map g) (by simp[hcl])
     (fun j u hu=>by
      have hj:j<cells.length:=by have:=(List.getElem?_eq_some_iff.1 hu).1;simpa using this
      rw[List.getElem?_map,List.getElem?_range hj]at hu;cases hu;exact s.data _ _ _ (hD j _ (hlt j hj))) (fun u hu=>by
      obtain⟨j,hj,rfl⟩:=List.mem_map.1 hu;exact ho j _ (hlt j (List.mem_range.1 hj))) (fun i' j r z hr1 hz=>by
      cases i' with
      |succ i'=>simp at hr1
      |zero =>
       simp at hr1;subst hr1;have hj:=(List.getElem?_eq_some_iff.1 hz).1;exact⟨g j,by rw[Nat.zero_mul,Nat.zero_add,List.getElem?_map,List.getElem?_range hj];rfl,hr j z hz,ho j z hz⟩) (by simp) (by simp[hcl]) (by simpa using hlen)
    rw[hn]at hr';exact⟨_,_,v',w',c',hK,hrun,hle,hs',hk',hr'⟩
   ·exact hK.elim
  ·exact hK.elim
 ·exact append_ok0 s k hx hy hK
end
end Go.Abs
