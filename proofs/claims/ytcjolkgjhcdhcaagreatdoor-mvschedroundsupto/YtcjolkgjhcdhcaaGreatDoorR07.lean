/- Part 7 of a proof: AbsX, AbsN, AbsO -/
import Derived.Test.YtcjolkgjhcdhcaaGreatDoorR06
set_option linter.all false

namespace Go.Abs
theorem uarr_nil {E:Ent} {c:Ctx} {h:qab} {w:World} (s:HSim c h w) (k:E.ok c h w) (e:TypeId) (sz:Nat) :
  c.le (c.addSl h.length 0 (.slice none 0 0))∧HSim (c.addSl h.length 0 (.slice none 0 0)) (h++[.uarr e sz []]) w∧E.ok (c.addSl h.length 0 (.slice none 0 0)) (h++[.uarr e sz []]) w:=by
 have hle:c.le (c.addSl h.length 0 (.slice none 0 0)):=Ctx.addSl_le ((s.dom _ (Nat.le_refl _)).2 0);have hsl:∀ i,i<h.length→∀ m,(c.addSl h.length 0 (.slice none 0 0)).sl i m=c.sl i m:=fun i hi m=>by
  simp only [Ctx.addSl];rw [if_neg (by omega)]
 have hlt:∀ {i:Nat} {o:AObj},h[i]?=some o→i<h.length:=fun hi=>(List.getElem?_eq_some_iff.1 hi).1;have hnew:qal (c.addSl h.length 0 (.slice none 0 0)) h.length (.uarr e sz [])=none:=by simp [qal,Ctx.addSl,Value.ownBlock]
 refine ⟨hle,⟨s.data,fun i hi=>?_,fun i o hi=>?_,fun i j o o' b hi hj hb hb'=>?_,fun i o b j v hi hb hD=>?_⟩,⟨k.edom,k.ext.trans hle,k.blk0,by have:=k.len;simp;omega,k.os,k.tape,k.output,k.size,k.frame,fun i o b hi hb=>?_,k.dold⟩⟩
 ·
  simp only [List.length_append,List.length_cons,List.length_nil] at hi;have:=s.dom i (by omega);refine ⟨this.1,fun m=>?_⟩;simp only [Ctx.addSl];rw [if_neg (by omega)];exact this.2 m
 ·
  rcases qam hi with h1 | ⟨rfl,rfl⟩
  · exact (s.obj i o h1).keep hle (hsl i (hlt h1)) fun _ _=>rfl
  ·
   refine ⟨.slice none 0 0,[],by simp [Ctx.addSl],rfl,fun m hm=>?_,World.ownsRow_nil w 0 e sz,by simp,by simp,by simp⟩;simp only [Ctx.addSl];rw [if_neg (by simp at hm;omega)];exact (s.dom _ (Nat.le_refl _)).2 m
 ·
  rcases qam hi with h1 | ⟨rfl,rfl⟩<;>rcases qam hj with h2 | ⟨rfl,rfl⟩
  ·
   rw [(s.obj i o h1).blk hle] at hb;rw [(s.obj j o' h2).blk hle] at hb';exact s.apart i j o o' b h1 h2 hb hb'
  · rw [hnew] at hb';cases hb'
  · rw [hnew] at hb;cases hb
  · rfl
 ·
  rcases qam hi with h1 | ⟨rfl,rfl⟩
  ·
   rw [(s.obj i o h1).blk hle] at hb;exact s.sep i o b j v h1 hb hD
  · rw [hnew] at hb;cases hb
 ·
  rcases qam hi with h1 | ⟨rfl,rfl⟩
  ·
   rw [(s.obj i o h1).blk hle] at hb;exact k.newobj i o b h1 hb
  · rw [hnew] at hb;cases hb
theorem uarr_grow {E:Ent} {c:Ctx} {h:qab} {w w':World} (s:HSim c h w) (k:E.ok c h w) {i e sz:Nat} {rows rows':List (List AV)} {v v':Value} {us:List Value} (hi:h[i]?=some (.uarr e sz rows))
  (hv:c.sl i rows.length=some v) (hnl:rows.length<rows'.length) (hlen:rows'.length≤68719476736) (hrow:∀ r,r∈rows'→r.length=sz)
  (hus:∀ (i' j:Nat) (r:List AV) (x:AV),rows'[i']?=some r→r[j]?=some x→∃ u,us[i' * sz+j]?=some u∧DRel c.D x u) (ho:v'.oneCell'=true)
  (hown':w'.ownsRow 0 e sz v' rows'.length us) (hos:w'.os=w.os) (ht:w'.tape=w.tape) (hou:w'.output=w.output) (hs:w.heap.size≤w'.heap.size)
  (htwo:(∃ g,v.ownBlock=some g∧v'.ownBlock=some g∧∀ k,k≠g→w'.heap[k]?=w.heap[k]?)∨(v'.ownBlock=some w.heap.size∧∀ k,k<w.heap.size→w'.heap[k]?=w.heap[k]?)) :
  ∃ c',c.le c'∧HSim c' (h.set i (.uarr e sz rows')) w'∧E.ok c' (h.set i (.uarr e sz rows')) w'∧Rel c' (.own i rows'.length) v':=by
 obtain ⟨v0,vs,h1,_,hmax,h2,h3,h4,h5⟩:=s.obj i _ hi;rw [hv] at h1;cases h1;have hnone:c.sl i rows'.length=none:=hmax _ hnl;have hle:c.le (c.addSl i rows'.length v'):=Ctx.addSl_le hnone;have hsl:∀ j,j≠i→∀ m',(c.addSl i rows'.length v').sl j m'=c.sl j m':=fun j hj m'=>by
  simp only [Ctx.addSl];rw [if_neg (by intro h;exact hj h.1)]
 have hslv:(c.addSl i rows'.length v').sl i rows'.length=some v':=by simp [Ctx.addSl]
 have hbnew:qal (c.addSl i rows'.length v') i (.uarr e sz rows')=v'.ownBlock:=by simp only [qal,hslv,Option.bind_some]
 have hbold:qal c i (.uarr e sz rows)=v.ownBlock:=by simp only [qal,hv,Option.bind_some]
 have hoth:∀ j o b,j≠i→h[j]?=some o→qal c j o=some b→w'.heap[b]?=w.heap[b]?:=fun j o b hj hjo hb=>by
  rcases htwo with ⟨g,hg,hg',hk⟩ | ⟨hg',hk⟩
  ·
   refine hk b fun e=>hj ?_;subst e;exact s.apart j i o _ b hjo hi hb (by rw [hbold,hg])
  · exact hk b ((s.obj j o hjo).lt hb)
 have hfresh:∀ j o b,j≠i→h[j]?=some o→qal c j o=some b→v'.ownBlock≠some b:=fun j o b hj hjo hb hv'=>by
  rcases htwo with ⟨g,hg,hg',hk⟩ | ⟨hg',hk⟩
  ·
   rw [hg'] at hv';cases hv';exact hj (s.apart j i o _ _ hjo hi hb (by rw [hbold,hg]))
  ·
   rw [hg'] at hv';cases hv';have:=(s.obj j o hjo).lt hb;omega
 have hnoD:∀ b,v'.ownBlock=some b→∀ j u,c.D b j=some u→False:=fun b hb j u hD=>by
  rcases htwo with ⟨g,hg,hg',hk⟩ | ⟨hg',hk⟩
  ·
   rw [hg'] at hb;cases hb;exact s.sep i _ _ j u hi (by rw [hbold,hg]) hD
  ·
   rw [hg'] at hb;cases hb;rw [s.noD (Nat.le_refl _)] at hD;cases hD
 refine ⟨_,hle,⟨fun b j u hD=>?_,fun j hj=>?_,fun j o hj=>?_,fun j j' o o' b hj hj' hb hb'=>?_,fun j o b n u hj hb hD=>?_⟩,⟨k.edom,k.ext.trans hle,k.blk0,by simpa using k.len,hos.trans k.os,ht.trans k.tape,hou.trans k.output,Nat.le_trans k.size hs,fun b hb hno=>?_,fun j o b hj hb=>?_,k.dold⟩,
  .own i _ v' (by simp [Ctx.addSl]) ho⟩
 ·
  have hD':c.D b j=some u:=hD;have hcell:=s.data b j u hD';rcases htwo with ⟨g,hg,hg',hk⟩ | ⟨hg',hk⟩
  · rw [World.cell?_of_block (w:=w) (hk b (fun e=>hnoD b (by rw [hg',e]) j u hD'))];exact hcell
  ·
   have hb:b<w.heap.size:=World.block_lt_of_cell? w ⟨b,j,none⟩ hcell;rw [World.cell?_of_block (w:=w) (hk b hb)];exact hcell
 ·
  have hj':h.length≤j:=by simpa using hj
  have hilt:i<h.length:=(List.getElem?_eq_some_iff.1 hi).1;have:=s.dom j hj';exact ⟨this.1,fun m'=>by rw [hsl j (by omega)];exact this.2 m'⟩
 ·
  rcases qai hj with ⟨rfl,rfl⟩ | ⟨hne,hjo⟩
  ·
   refine ⟨v',us,hslv,ho,fun m' hm'=>?_,hown',hlen,hrow,hus⟩;simp only [Ctx.addSl];rw [if_neg (by omega)];exact hmax m' (by omega)
  · exact (s.obj j o hjo).keep hle (hsl j hne) fun b hb=>hoth j o b hne hjo hb
 ·
  rcases qai hj with ⟨rfl,rfl⟩ | ⟨hne,hjo⟩<;>rcases qai hj' with ⟨h6,h7⟩ | ⟨hne',hjo'⟩
  · exact h6.symm
  ·
   rw [hbnew] at hb;rw [(s.obj j' o' hjo').blk hle] at hb';exact (hfresh j' o' b hne' hjo' hb' hb).elim
  ·
   subst h6;subst h7;rw [hbnew] at hb';rw [(s.obj j o hjo).blk hle] at hb;exact (hfresh j o b hne hjo hb hb').elim
  ·
   rw [(s.obj j o hjo).blk hle] at hb;rw [(s.obj j' o' hjo').blk hle] at hb';exact s.apart j j' o o' b hjo hjo' hb hb'
 ·
  have hD':c.D b n=some u:=hD;rcases qai hj with ⟨rfl,rfl⟩ | ⟨hne,hjo⟩
  ·
   rw [hbnew] at hb;exact hnoD b hb n u hD'
  ·
   rw [(s.obj j o hjo).blk hle] at hb;exact s.sep j o b n u hjo hb hD'
 ·
  have hne:∀ g,v.ownBlock=some g→b≠g:=fun g hg e=>by
   subst e;rcases k.newobj i _ b hi (by rw [hbold,hg]) with ⟨o0,h0,h1⟩ | h2
   · exact hno i o0 h0 h1
   · omega
  rcases htwo with ⟨g,hg,hg',hk⟩ | ⟨hg',hk⟩
  · rw [hk b (hne g hg)];exact k.frame b hb hno
  · rw [hk b (Nat.lt_of_lt_of_le hb k.size)];exact k.frame b hb hno
 ·
  rcases qai hj with ⟨rfl,rfl⟩ | ⟨hne,hjo⟩
  ·
   rw [hbnew] at hb;rcases htwo with ⟨g,hg,hg',hk⟩ | ⟨hg',hk⟩
   ·
    rw [hg'] at hb;cases hb;exact k.newobj j _ _ hi (by rw [hbold,hg])
   ·
    rw [hg'] at hb;cases hb;exact .inr k.size
  ·
   rw [(s.obj j o hjo).blk hle] at hb;exact k.newobj j o b hjo hb
theorem demote_ok {E:Ent} {c:Ctx} {h:qab} {w:World} (s:HSim c h w) (k:E.ok c h w) {i e sz:Nat} {rows:List (List AV)} (hi:h[i]?=some (.uarr e sz rows)) :
  ∃ c',c.le c'∧HSim c' (h.set i (.arr e sz rows)) w∧E.ok c' (h.set i (.arr e sz rows)) w:=by
 obtain ⟨v,vs,hv,ho,hmax,h2,h3,h4,h5⟩:=s.obj i _ hi;have hbold:qal c i (.uarr e sz rows)=v.ownBlock:=by simp only [qal,hv,Option.bind_some]
 have hnoD:∀ b,v.ownBlock=some b→∀ j u,c.D b j=some u→False:=fun b hb j u hD=>s.sep i _ b j u hi (by rw [hbold,hb]) hD
 let c':Ctx:={ c with D:=fun b j=>if v.ownBlock=some b∧j<vs.length then vs[j]? else c.D b j }
 have hDle:∀ b j u,c.D b j=some u→c'.D b j=some u:=fun b j u hD=>by
  simp only [c'];rw [if_neg (fun hh=>hnoD b hh.1 j u hD)];exact hD
 have hle:c.le c':=⟨hDle,fun _ _ h=>h,fun _ _ _ h=>h⟩
 have hDnew:∀ b j u,c'.D b j=some u→(v.ownBlock=some b∧j<vs.length∧vs[j]?=some u)∨(v.ownBlock≠some b∧c.D b j=some u):=fun b j u hD=>by
  simp only [c'] at hD;split at hD
  · rename_i hh;exact .inl ⟨hh.1,hh.2,hD⟩
  ·
   by_cases hb:v.ownBlock=some b
   · exact (hnoD b hb j u hD).elim
   · exact .inr ⟨hb,hD⟩
 have hbnew:qal c' i (.arr e sz rows)=v.ownBlock:=by
  show (c.sl i rows.length).bind Value.ownBlock=_;rw [hv];rfl
 have hsame:∀ j o b,(h.set i (.arr e sz rows))[j]?=some o→qal c' j o=some b→∃ o0,h[j]?=some o0∧qal c j o0=some b:=fun j o b hj hb=>by
  rcases qai hj with ⟨rfl,rfl⟩ | ⟨hne,hjo⟩
  · exact ⟨_,hi,by rw [hbold,← hbnew,hb]⟩
  ·
   rw [(s.obj j o hjo).blk hle] at hb;exact ⟨o,hjo,hb⟩
 refine ⟨c',hle,⟨fun b j u hD=>?_,fun j hj=>s.dom j (by simpa using hj),fun j o hj=>?_,fun j j' o o' b hj hj' hb hb'=>?_,fun j o b n u hj hb hD=>?_⟩,
  ⟨k.edom,k.ext.trans hle,k.blk0,by simpa using k.len,k.os,k.tape,k.output,k.size,k.frame,fun j o b hj hb=>?_,fun b j u hD=>?_⟩⟩
 ·
  rcases hDnew b j u hD with ⟨hg,_,hu⟩ | ⟨_,hD'⟩
  ·
   have:=h2.cells hg j u hu
   rwa [addLit,Nat.zero_add] at this
  · exact s.data b j u hD'
 ·
  rcases qai hj with ⟨rfl,rfl⟩ | ⟨hne,hjo⟩
  ·
   refine ⟨v,vs,hv,ho,hmax,h2,h3,h4,fun i' j' r x hr hx=>(h5 i' j' r x hr hx).imp fun u hu=>⟨hu.1,hu.2.mono hDle⟩,fun b n hb hn=>?_⟩;rw [← h2.1] at hn;refine ⟨vs[n],?_⟩;simp only [c',if_pos (show v.ownBlock=some b∧n<vs.length from ⟨hb,hn⟩)];exact List.getElem?_eq_getElem hn
  · exact (s.obj j o hjo).keep hle (fun _=>rfl) fun _ _=>rfl
 ·
  obtain ⟨o1,g1,g2⟩:=hsame j o b hj hb;obtain ⟨o2,g3,g4⟩:=hsame j' o' b hj' hb';exact s.apart j j' o1 o2 b g1 g3 g2 g4
 ·
  rcases qai hj with ⟨rfl,rfl⟩ | ⟨hne,hjo⟩
  ·
   rw [hbnew] at hb;simp only [AObj.shares];rcases hDnew b n u hD with ⟨_,hn,_⟩ | ⟨hg,_⟩
   · rw [← h2.1];exact hn
   · exact (hg hb).elim
  ·
   rw [(s.obj j o hjo).blk hle] at hb;rcases hDnew b n u hD with ⟨hg,_⟩ | ⟨_,hD'⟩
   · exact (hne (s.apart j i o _ b hjo hi hb (by rw [hbold,hg]))).elim
   · exact s.sep j o b n u hjo hb hD'
 ·
  obtain ⟨o1,g1,g2⟩:=hsame j o b hj hb;exact k.newobj j o1 b g1 g2
 ·
  rcases hDnew b j u hD with ⟨hg,_⟩ | ⟨_,hD'⟩
  ·
   rcases k.newobj i _ b hi (by rw [hbold,hg]) with ⟨o0,g1,g2⟩ | g1
   · exact .inr (.inr ⟨i,o0,g1,g2⟩)
   · exact .inr (.inl g1)
  · exact k.dold b j u hD'
theorem demote_wk (E:Ent) (e:Env) {i t sz:Nat} {rows:List (List AV)} (hi:e.h[i]?=some (.uarr t sz rows)):Wk E e ⟨e.t,e.h.set i (.arr t sz rows)⟩:=fun c a w s k=>by
 obtain ⟨c',hle,s',k'⟩:=demote_ok s.hs k hi;exact ⟨c',⟨s.defers,s.size,fun j=>(s.tmps j).mono hle,s'⟩,k'⟩
end Go.Abs

namespace Go.Abs
section
variable {P:Program} {E:Ent}
theorem set_same {α:Type} {l:List α} {i:Nat} {x:α} (h:l[i]?=some x):l.set i x=l:=by
 apply List.ext_getElem?;intro j;rw [List.getElem?_set];split
 · rename_i hij;subst hij;rw [h];split<;>simp;rename_i hn;exact (hn (List.getElem?_eq_some_iff.1 h).1).elim
 · rfl
theorem append_obj {c:Ctx} {h:qab} {w:World} (s:HSim c h w) (k:E.ok c h w) {T e sz ty:Nat} (hk:qak P T=.slice e sz) (hpos:0<sz) (hbytes:qap P e≤2048) (hsize:qau P e=sz) (hke:qak P e≠.other)
  {i:Nat} {rows news:List (List AV)} (hi:h[i]?=some (.arr e sz rows)) {v u:Value} (hv:c.sl i rows.length=some v) (hu:DRel c.D (.slice news) u) (hrow:∀ r,r∈news→r.length=sz) (hlen:rows.length+news.length≤68719476736) :
  ∃ v' w' c',(Builtin.append_ #[T,T] ty #[v,u]).run P w=.ok v' w'∧c.le c'∧HSim c' (h.set i (.arr e sz (rows++news))) w'∧E.ok c' (h.set i (.arr e sz (rows++news))) w'∧Rel c' (.own i (rows.length+news.length)) v':=by
 obtain ⟨iT,dT,zT,_,hund,_,hkd,_⟩:=qat hk (by simp);obtain ⟨rfl,ie,hie,hies⟩:=qbv hkd;obtain ⟨ie',de,ze,hie',_,hze,_,hts,_,hzs,hz1⟩:=qat (P:=P) (t:=e) rfl hke;rw [hie] at hie';cases hie';subst hies;have hb:ie.bytes≤2048:=by
  have:qap P e=ie.bytes:=by
   unfold qap;have hne:=hke;unfold qak at hne;split at hne
   ·
    rename_i x hx;obtain ⟨i2,d2,z2,g1,_,_,rfl,_⟩:=ti_spec hx;rw [hie] at g1;cases g1;simp [hx]
   · exact (hne rfl).elim
  omega
 obtain ⟨v0,vs,h1,ho1,hmax,h2,h3,h4,h5,h6⟩:=s.obj i _ hi;rw [hv] at h1;cases h1;obtain ⟨ad,cap,rfl,hsrc⟩:=data_row s hrow hpos hu;by_cases hn:news=[]
 ·
  subst hn;have hrun:=append_zero (P:=P) (w:=w) T ty e ie hund hie v rows.length vs h2 ad cap;refine ⟨v,w,c,by simpa using hrun,.refl c,?_,?_,?_⟩
  · rw [List.append_nil,set_same hi];exact s
  · rw [List.append_nil,set_same hi];exact k
  · exact .own i _ v (by simpa using hv) ho1
 ·
  rcases hsrc with hn' | ⟨b,off,rfl,us,hul,hcell,hone,hdat⟩
  · exact (hn hn').elim
  ·
   have hm:0<news.length:=by cases news with | nil=>exact (hn rfl).elim | cons=>simp
   obtain ⟨v',w',hrun,ho',hown',hos,ht,hou,hsz,htwo⟩:=append_two (P:=P) (w:=w) T ty e ie ze hund hie hze hzs hpos v rows.length vs h2 ⟨b,off,none⟩ news.length cap us hul (fun j u hu=>by rw [addLit];exact hcell j u hu) hone hm
    (by simp only [maxLen];omega) (by
     have:(rows.length+news.length) * ie.bytes≤68719476736 * 2048:=Nat.mul_le_mul hlen hb;omega)
   obtain ⟨c',hle,hs',hk',hr'⟩:=arr_grow (E:=E) s k (w':=w') hi hv rfl hm hlen hrow hdat ho' (fun xs hxs=>by
    have:xs=vs:=by
     rcases hxs.2 with ⟨e1,e2⟩ | ⟨g,cp,cur,e1,_,e3,_,_,_,e4⟩
     ·
      have a1:xs=[]:=List.eq_nil_of_length_eq_zero (by rw [hxs.1,e2];simp);have a2:vs=[]:=List.eq_nil_of_length_eq_zero (by rw [h2.1,e2];simp);rw [a1,a2]
     ·
      rcases h2.2 with ⟨f1,f2⟩ | ⟨g',cp',cur',f1,_,f3,_,_,_,f4⟩
      · rw [f1] at e1;cases e1
      ·
       rw [f1] at e1;cases e1;rw [f3] at e3;cases e3;rw [← e4,← f4]
    rw [this];exact hown') hos ht hou hsz htwo
   exact ⟨v',w',c',hrun,hle,hs',hk',hr'⟩
theorem append_uobj {c:Ctx} {h:qab} {w:World} (s:HSim c h w) (k:E.ok c h w) {T e sz ty:Nat} (hk:qak P T=.slice e sz) (hpos:0<sz) (hbytes:qap P e≤2048) (hsize:qau P e=sz) (hke:qak P e≠.other)
  {i:Nat} {rows news:List (List AV)} (hi:h[i]?=some (.uarr e sz rows)) {v u:Value} (hv:c.sl i rows.length=some v) (hu:DRel c.D (.slice news) u) (hrow:∀ r,r∈news→r.length=sz) (hlen:rows.length+news.length≤68719476736) :
  ∃ v' w' c',(Builtin.append_ #[T,T] ty #[v,u]).run P w=.ok v' w'∧c.le c'∧HSim c' (h.set i (.uarr e sz (rows++news))) w'∧E.ok c' (h.set i (.uarr e sz (rows++news))) w'∧Rel c' (.own i (rows.length+news.length)) v':=by
 obtain ⟨iT,dT,zT,_,hund,_,hkd,_⟩:=qat hk (by simp);obtain ⟨rfl,ie,hie,hies⟩:=qbv hkd;obtain ⟨ie',de,ze,hie',_,hze,_,hts,_,hzs,hz1⟩:=qat (P:=P) (t:=e) rfl hke;rw [hie] at hie';cases hie';subst hies;have hb:ie.bytes≤2048:=by
  have:qap P e=ie.bytes:=by
   unfold qap;have hne:=hke;unfold qak at hne;split at hne
   ·
    rename_i x hx;obtain ⟨i2,d2,z2,g1,_,_,rfl,_⟩:=ti_spec hx;rw [hie] at g1;cases g1;simp [hx]
   · exact (hne rfl).elim
  omega
 obtain ⟨v0,vs,h1,ho1,hmax,h2,h3,h4,h5⟩:=s.obj i _ hi;rw [hv] at h1;cases h1;obtain ⟨ad,cap,rfl,hsrc⟩:=data_row s hrow hpos hu;by_cases hn:news=[]
 ·
  subst hn;have hrun:=append_zero (P:=P) (w:=w) T ty e ie hund hie v rows.length vs h2 ad cap;refine ⟨v,w,c,by simpa using hrun,.refl c,?_,?_,?_⟩
  · rw [List.append_nil,set_same hi];exact s
  · rw [List.append_nil,set_same hi];exact k
  · exact .own i _ v (by simpa using hv) ho1
 ·
  rcases hsrc with hn' | ⟨b,off,rfl,us,hul,hcell,hone,hdat⟩
  · exact (hn hn').elim
  ·
   have hm:0<news.length:=by cases news with | nil=>exact (hn rfl).elim | cons=>simp
   obtain ⟨v',w',hrun,ho',hown',hos,ht,hou,hsz,htwo⟩:=append_two (P:=P) (w:=w) T ty e ie ze hund hie hze hzs hpos v rows.length vs h2 ⟨b,off,none⟩ news.length cap us hul (fun j u hu=>by rw [addLit];exact hcell j u hu) hone hm
    (by simp only [maxLen];omega) (by
     have:(rows.length+news.length) * ie.bytes≤68719476736 * 2048:=Nat.mul_le_mul hlen hb;omega)
   obtain ⟨c',hle,hs',hk',hr'⟩:=uarr_grow (E:=E) s k (w':=w') (rows':=rows++news) (us:=vs++us) hi hv (by simp;omega) (by simpa using hlen) (fun r hr=>by
    rcases List.mem_append.1 hr with hr | hr
    · exact h4 r hr
    · exact hrow r hr) (DRel.flat h5 h2.1 hdat) ho' (by simpa using hown') hos ht hou hsz htwo
   exact ⟨v',w',c',hrun,hle,hs',hk',by simpa using hr'⟩
theorem src_rel {c:Ctx} {h:qab} {w:World} (s:HSim c h w) {x:AV} {rows:List (List AV)} (hx:srcRows h x=some rows) {u:Value} (hr:Rel c x u):DRel (c.share h w).D (.slice rows) u:=by
 have hn:=norm_rel s hr;cases x with
 | slice r=>simp only [srcRows,Option.some.injEq] at hx;subst hx;exact Rel.slice_inv hn
 | nils=>simp only [srcRows,Option.some.injEq] at hx;subst hx;exact Rel.slice_inv hn
 | own i n =>
  simp only [srcRows] at hx;simp only [AV.norm] at hn;split at hx
  ·
   rename_i e sz rows' hi;split at hx
   ·
    rename_i hlen;simp only [Option.some.injEq] at hx;subst hx;simp only [hi,hlen,if_true] at hn;exact Rel.slice_inv hn
   · cases hx
  · cases hx
 | _=>cases hx
theorem append_ok {c:Ctx} {h:qab} {w:World} (s:HSim c h w) (k:E.ok c h w) {T ty:Nat} {x y:AV} {v u:Value} (hx:Rel c x v) (hy:Rel c y u) {K:AV→qab→Prop} (hK:aAppend P T x y h K) :
  ∃ r h' v' w' c',K r h'∧(Builtin.append_ #[T,T] ty #[v,u]).run P w=.ok v' w'∧c.le c'∧HSim c' h' w'∧E.ok c' h' w'∧Rel c' r v':=by
 unfold aAppend at hK;split at hK
 ·
  rename_i e sz news hk hsrc;obtain ⟨hrow,hpos,hbytes,hsize,hke,hK⟩:=hK;have hu:=src_rel s hsrc hy;obtain ⟨s1,k1⟩:=share_ok s k;have hle1:=share_le c h w;split at hK
  ·
   obtain ⟨hlen,hK⟩:=hK;have hv:v=.slice none 0 0:=by
    cases hx with
    | data h=>cases h
    | nils=>rfl
   subst hv;obtain ⟨s2,k2⟩:=arr_nil s1 k1 e sz;have hle2:(c.share h w).le ((c.share h w).addSl h.length 0 (.slice none 0 0)):=Ctx.addSl_le ((s1.dom _ (Nat.le_refl _)).2 0);obtain ⟨v',w',c',hrun,hle3,s3,k3,r3⟩:=append_obj (P:=P) (ty:=ty) s2 k2 hk hpos hbytes hsize hke (i:=h.length) (rows:=[]) (news:=news) (by simp) (v:=.slice none 0 0) (by simp [Ctx.addSl]) (hu.mono hle2.D) hrow (by simpa using hlen);refine ⟨_,_,v',w',c',hK,hrun,hle1.trans (hle2.trans hle3),by simpa using s3,by simpa using k3,by simpa using r3⟩
  ·
   rename_i i n;split at hK
   ·
    rename_i e' sz' rows hi;obtain ⟨rfl,rfl,rfl,hlen,hK⟩:=hK;have hv:c.sl i rows.length=some v:=by
     cases hx with
     | data h=>cases h
     | own i n v h ho=>exact h
    obtain ⟨v',w',c',hrun,hle3,s3,k3,r3⟩:=append_obj (P:=P) (ty:=ty) s1 k1 hk hpos hbytes hsize hke (i:=i) (rows:=rows) (news:=news) hi (v:=v) (hle1.sl _ _ _ hv) hu hrow hlen;exact ⟨_,_,v',w',c',hK,hrun,hle1.trans hle3,s3,k3,r3⟩
   ·
    rename_i e' sz' rows hi;obtain ⟨rfl,rfl,rfl,hlen,hK⟩:=hK;have hv:c.sl i rows.length=some v:=by
     cases hx with
     | data h=>cases h
     | own i n v h ho=>exact h
    obtain ⟨v',w',c',hrun,hle3,s3,k3,r3⟩:=append_uobj (P:=P) (ty:=ty) s1 k1 hk hpos hbytes hsize hke (i:=i) (rows:=rows) (news:=news) hi (v:=v) (hle1.sl _ _ _ hv) hu hrow hlen;exact ⟨_,_,v',w',c',hK,hrun,hle1.trans hle3,s3,k3,r3⟩
   · exact hK.elim
  · exact hK.elim
 · exact hK.elim
end
end Go.Abs

namespace Go.Abs
section
variable {P:Program} {E:Ent}
theorem RelL.app {c:Ctx} {xs ys:List AV} {us vs:Array Value} (h:RelL c xs us) (k:RelL c ys vs):RelL c (xs++ys) (us++vs) :=
 ⟨by simp [h.1,k.1],fun j x v hx hv=>by
  by_cases hj:j<xs.length
  ·
   rw [List.getElem?_append_left hj] at hx;rw [Array.getElem?_append_left (by rw [h.1];exact hj)] at hv;exact h.2 j x v hx hv
  ·
   rw [List.getElem?_append_right (by omega)] at hx;rw [Array.getElem?_append_right (by rw [h.1];omega),h.1] at hv;exact k.2 _ x v hx hv⟩
theorem RelL.map {c:Ctx} {g:Operand→AV} {ev:Operand→Value} {l:Array Operand} (hg:∀ x,x∈l.toList→Rel c (g x) (ev x)):RelL c (l.toList.map g) (l.map ev) :=
 ⟨by simp,(relMap hg).2⟩
theorem RelL.norm {c:Ctx} {h:qab} {w:World} (s:HSim c h w) {xs:List AV} {vs:Array Value} (k:RelL c xs vs):RelL (c.share h w) (qbc h xs) vs :=
 ⟨by rw [normL_eq];simp [k.1],fun j x v hx hv=>by
  rw [normL_eq] at hx;simp only [List.getElem?_map,Option.map_eq_some_iff] at hx;obtain ⟨y,hy,rfl⟩:=hx;exact norm_rel s (k.2 j y v hy hv)⟩
theorem run_enter {o:Oper} {ev:Operand→Value} {w:World} {f:Operand} {args:Array Operand} {ts:Array TypeId} (ho:o.op=.call { callee:=.value f,args:=args,argTypes:=ts }) {fid:FuncId} {us vs:Array Value}
  (hf:ev f=.func (.func fid) us vs) (hen:Enter P fid):(execOp ev o).run P w=.ok (.enter fid (us++args.map ev++vs)) w:=by
 obtain ⟨fn,h1,h2,h3⟩:=hen;have hb:fn.body.isNone=false:=by
  cases hbd:fn.body with
  | none=>rw [hbd] at h2;simp at h2
  | some b=>rfl
 simp only [execOp,ho,resolve,hf,Deferred.ofValue,invoke,callFunc,Sem.run_bind,Sem.run_pure,Result.andThen_ok,run_program,h1,h3,hb,Bool.false_eq_true,if_false]
theorem qc2 (w:World) (o:Obj):(newObj o).run P w=.ok w.heap.size (w.alloc o):=rfl
theorem call_ok {c:Ctx} {e:Env} {a:Act} {w:World} (s:Sim E.N c e a w) (k:E.ok c e.h w) {o:Oper} {f:Operand} {args:Array Operand} {ts:Array TypeId} (ho:o.op=.call { callee:=.value f,args:=args,argTypes:=ts })
  (hall:qax e true (f::args.toList)) {fid:FuncId} {first caps:List AV} (hf:e.getS f=.fn (.func fid) first caps) {R:AEnd→qab→Prop}
  (hc:ACalls P fid (qbc e.h (first++args.toList.map e.getS++caps)) e.h R) {next:Act→World→Prop} {Q:Exit→Act→World→Prop}
  (hret:∀ v h' c' w' u,R (.ret v) h'→c.le c'→HSim c' h' w'→E.ok c' h' w'→Rel c' v u→next (a.put o.dst u) w')
  (hpan:∀ v h' c' w' u,R (.panic v) h'→c.le c'→HSim c' h' w'→E.ok c' h' w'→Rel c' v u→Q (.panic [⟨u,false,false⟩]) a w'):o.wp P a w next Q:=by
 have hrel:=qbm s hall;have hfr:=hrel f (by simp);rw [hf] at hfr;obtain ⟨us,vs,hev,h1,h2⟩:∃ us vs,a.eval f=.func (.func fid) us vs∧RelL c first us∧RelL c caps vs:=by
  generalize a.eval f=z at hfr;cases hfr with
  | data h=>cases h
  | fn f ys xs us vs hl' hl h' h=>exact ⟨us,vs,rfl,⟨hl',h'⟩,⟨hl,h⟩⟩
 have hargs:RelL c (args.toList.map e.getS) (args.map a.eval):=RelL.map fun x hx=>hrel x (by simp [hx]);have hlist:=(RelL.app (RelL.app h1 hargs) h2).norm s.hs;obtain ⟨s1,k1⟩:=share_ok s.hs k;unfold Oper.wp;rw [run_enter ho hev hc.1];refine (hc.2 _ w _ s1 hlist).mono ?_;rintro en w' ⟨r,h',c',hR,hE,hs',hk'⟩;have hle:c.le c':=(share_le c e.h w).trans hk'.ext;have hok:E.ok c' h' w':=k1.trans hk';cases r with
 | ret v =>
  cases en with
  | returned u=>exact hret v h' c' w' u hR hle hs' hok hE
  | _=>simp [EndR] at hE
 | panic v =>
  cases en with
  | panicked ch =>
   cases ch with
   | nil=>simp [EndR] at hE
   | cons p l =>
    cases l with
    | nil =>
     obtain ⟨u,r,g⟩:=p;cases r<;>cases g<;>simp only [EndR] at hE;exact hpan v h' c' w' u hR hle hs' hok hE
    | cons=>simp [EndR] at hE
  | _=>simp [EndR] at hE
theorem litRows_spec {h:qab} {sz:Nat}:∀ {k:Nat} {l:List (Nat×AV)} {rows:List (List AV)},litRows h sz k l=some rows →
  rows.length=l.length∧∀ (i:Nat) (p:Nat×AV),l[i]?=some p→p.1=k+i∧p.2.cellsOk=true∧p.2.cells.length=sz∧rows[i]?=some (qbc h p.2.cells)∧∀ x,x∈qbc h p.2.cells→x.isData=true
 | k,[],rows,hr=>by simp only [litRows,Option.some.injEq] at hr;subst hr;simp
 | k,(i,x)::l,rows,hr=>by
  simp only [litRows] at hr;split at hr
  ·
   rename_i hc;obtain ⟨rfl,h1,h2,h3⟩:=hc;simp only [Option.map_eq_some_iff] at hr;obtain ⟨rows',hr',rfl⟩:=hr;obtain ⟨h4,h5⟩:=litRows_spec hr';refine ⟨by simp [h4],fun j p hp=>?_⟩;cases j with
   | zero=>simp at hp;subst hp;exact ⟨by simp,h1,h2,by simp,List.all_eq_true.1 h3⟩
   | succ j =>
    obtain ⟨g1,g2⟩:=h5 j p (by simpa using hp);exact ⟨by omega,by simpa using g2⟩
  · cases hr
theorem isData_rel {c:Ctx} {x:AV} {v:Value} (h:x.isData=true) (hr:Rel c x v):DRel c.D x v:=by
 cases x with
 | val u=>obtain rfl:=hr.val_inv;exact .val v h (val_ok hr)
 | slice rows=>exact hr.slice_inv
 | _=>simp [AV.isData] at h
theorem lit_ok {c:Ctx} {h:qab} {w:World} (s:HSim c h w) (k:E.ok c h w) {T el sz n:Nat} (hk:qak P T=.slice el sz) {parts:List (Nat×AV)} {qs:Array (Nat×Value)} (hl:parts.length=qs.size)
  (hpq:∀ (j:Nat) (p:Nat×AV) (q:Nat×Value),parts[j]?=some p→qs[j]?=some q→p.1=q.1∧Rel c p.2 q.2) {rows:List (List AV)} (hr:litRows h sz 0 parts=some rows) (hn:rows.length=n) (hpos:0<sz) (h24:n * sz≤16777216)
  (hke:qak P el≠.other) (hsize:qau P el=sz) :
  ∃ v w' c',(Instr.buildSlice T n qs).run P w=.ok v w'∧c.le c'∧HSim c' h w'∧E.ok c' h w'∧Rel c' (.slice rows) v:=by
 obtain ⟨iT,dT,zT,_,hund,_,hkd,_⟩:=qat hk (by simp);obtain ⟨rfl,ie,hie,hies⟩:=qbv hkd;obtain ⟨ie',de,ze,hie',_,hze,_,hts,_,hzs,hz1⟩:=qat (P:=P) (t:=el) rfl hke;rw [hie] at hie';cases hie';subst hies;obtain ⟨hrl,hspec⟩:=litRows_spec hr;have hpn:parts.length=n:=by omega
 have hnl:∀ xs:List AV,(qbc h xs).length=xs.length:=fun xs=>by rw [normL_eq];simp
 -- the zero cells
 let zs:Array Value:=(Array.range (n * ie.size)).map (ze.cells[· % ze.cells.size]!)
 -- filling
 have hfill:∀ (m:Nat) (qs':List (Nat×Value)) (cs:Array Value),cs.size=n * ie.size→m+qs'.length=n→(∀ j q,qs'[j]?=some q→q.1=m+j∧q.2.cells.size=ie.size) →
   ∃ cs',Instr.fill (fun i=>some (i * ie.size,ie.size)) cs qs'=some cs'∧cs'.size=n * ie.size∧(∀ k,k<m * ie.size→cs'[k]?=cs[k]?) ∧
    ∀ j q t u,qs'[j]?=some q→q.2.cells[t]?=some u→cs'[(m+j) * ie.size+t]?=some u:=by
  intro m qs'
  induction qs' generalizing m with
  | nil=>intro cs hcs _ _;exact ⟨cs,rfl,hcs,fun _ _=>rfl,by simp⟩
  | cons q qs' ih =>
   intro cs hcs hm hq;obtain ⟨i,v⟩:=q;obtain ⟨h1,h2⟩:=hq 0 (i,v) rfl;simp only [Nat.add_zero] at h1 h2;subst h1;have hle:i * ie.size+ie.size≤n * ie.size:=by
    have:(i+1) * ie.size≤n * ie.size:=Nat.mul_le_mul_right _ (by simp at hm;omega);rw [Nat.add_mul] at this;omega
   let cs1:=v.cells.zipIdx.foldl (fun (cs:Array Value) (p:Value×Nat)=>cs.setIfInBounds (i * ie.size+p.2) p.1) cs
   have hcs1:cs1=(v.cells.toList.zipIdx 0).foldl (fun (cs:Array Value) (p:Value×Nat)=>cs.setIfInBounds (i * ie.size+p.2) p.1) cs:=by
    show v.cells.zipIdx.foldl _ cs=_;rw [← Array.foldl_toList,Array.toList_zipIdx]
   obtain ⟨g1,g2⟩:=setAll_get (i * ie.size) v.cells.toList 0 cs;have g2:=g2 (by simp [h2];omega);obtain ⟨cs',f1,f2,f3,f4⟩:=ih (i+1) cs1 (by rw [hcs1,g1];exact hcs) (by simp at hm;omega) (fun j q hq'=>by
    have:=hq (j+1) q (by simpa using hq');exact ⟨by omega,this.2⟩)
   refine ⟨cs',?_,f2,fun k hk=>?_,fun j q t u hq' hu=>?_⟩
   ·
    simp only [Instr.fill];rw [if_neg (by rw [h2,hcs];simp;omega)];exact f1
   · rw [f3 k (by rw [Nat.add_mul];omega),hcs1,g2 k,if_neg (by omega)]
   ·
    cases j with
    | zero =>
     simp at hq';subst hq';have ht:t<ie.size:=by rw [← h2];exact (Array.getElem?_eq_some_iff.1 hu).1
     have e1:(i+1) * ie.size=i * ie.size+ie.size:=by rw [Nat.add_mul];omega
     rw [Nat.add_zero,f3 _ (by omega),hcs1,g2,if_pos (by simp [h2];omega)];simpa using hu
    | succ j =>
     have:=f4 j q t u (by simpa using hq') hu;rw [show i+(j+1)=i+1+j from by omega];exact this
 obtain ⟨cs',hf1,hf2,_,hf4⟩:=hfill 0 qs.toList zs (by simp [zs]) (by simp;omega) (fun j q hq=>by
  have hjlt:j<parts.length:=by rw [hl];have:=(List.getElem?_eq_some_iff.1 hq).1;simpa using this
  obtain ⟨e1,e2⟩:=hpq j parts[j] q (by simp [hjlt]) (by simpa using hq);obtain ⟨p1,p2,p3,_⟩:=hspec j parts[j] (by simp [hjlt]);exact ⟨by omega,by rw [(e2.cells p2).1,p3]⟩)
 obtain ⟨c',hle,s1,k1,hD⟩:=data_ok (E:=E) (share_ok s k).1 (share_ok s k).2 cs' el;have hlit:¬ (n * ie.size > 2 ^ 24):=by simp;omega
 have hzv:(zeroValue el).run P w=.ok ze w:=by simp [zeroValue,run_typeInfo _ hie,hze]
 refine ⟨.slice (some ⟨w.heap.size,0,none⟩) n n,w.alloc (.cells cs' el),c',?_,(share_le c h w).trans hle,s1,k1,?_⟩
 ·
  simp only [Instr.buildSlice,Sem.run_bind,qa3 hund,Result.andThen_ok,qbp hie,if_neg hlit];by_cases h0:n * ie.size=0
  ·
   have hz0:(Array.range (n * ie.size)).map (fun x=>(#[]:Array Value)[x % (#[]:Array Value).size]!)=zs:=by
    simp [zs,h0]
   simp only [h0,if_true,Sem.run_pure,Result.andThen_ok,Sem.run_bind];rw [h0] at hz0;simp only [hz0,hf1,newRow,Sem.run_bind,qc2,Result.andThen_ok,Sem.run_pure]
  ·
   simp only [if_neg h0,Sem.run_bind,hzv,Result.andThen_ok,Sem.run_pure];have hzz:(Array.range (n * ie.size)).map (fun x=>ze.cells[x % ze.cells.size]!)=zs:=rfl;simp only [hzz,hf1,newRow,Sem.run_bind,qc2,Result.andThen_ok,Sem.run_pure]
 ·
  have hcell:∀ (i j:Nat) (r:List AV) (x:AV),rows[i]?=some r→r[j]?=some x→∃ v,c'.D w.heap.size (i * ie.size+j)=some v∧DRel c'.D x v:=by
   intro i j r x hr' hx;have hilt:i<parts.length:=by rw [← hrl];exact (List.getElem?_eq_some_iff.1 hr').1
   obtain ⟨p1,p2,p3,p4,p5⟩:=hspec i parts[i] (by simp [hilt]);rw [p4] at hr';cases hr';have hqlt:i<qs.size:=by omega
   obtain ⟨e1,e2⟩:=hpq i parts[i] qs[i] (by simp [hilt]) (by simp [hqlt]);obtain ⟨q1,q2⟩:=e2.cells p2;have hx':=hx;rw [normL_eq,List.getElem?_map,Option.map_eq_some_iff] at hx';obtain ⟨y,hy,hyx⟩:=hx';have hjlt:j<qs[i].2.cells.size:=by rw [q1];exact (List.getElem?_eq_some_iff.1 hy).1
   obtain ⟨r1,r2⟩:=q2 j y qs[i].2.cells[j] hy (by simp [hjlt]);have h6:=hf4 i qs[i] j qs[i].2.cells[j] (by simp [hqlt]) (by simp [hjlt]);rw [Nat.zero_add] at h6;refine ⟨_,hD _ _ h6,?_⟩;have h7:=norm_rel s r1;rw [hyx] at h7;exact (isData_rel (p5 x (List.mem_of_getElem? hx)) h7).mono hle.D
  have hdr:DRel c'.D (.slice rows) (.slice (some ⟨w.heap.size,0,none⟩) rows.length n):=.slice rows w.heap.size 0 n ie.size (fun i j=>(c'.D w.heap.size (i * ie.size+j)).getD undef) (fun r hr'=>by
    obtain ⟨i,hi⟩:=List.getElem?_of_mem hr';have hilt:i<parts.length:=by rw [← hrl];exact (List.getElem?_eq_some_iff.1 hi).1
    obtain ⟨p1,p2,p3,p4,p5⟩:=hspec i parts[i] (by simp [hilt]);rw [p4] at hi;cases hi;rw [hnl,p3]) (by
    rw [hn];have:n * 1≤n * ie.size:=Nat.mul_le_mul_left _ hpos;omega) (by omega) (fun i j r x hr' hx=>by
    obtain ⟨v,hv,_⟩:=hcell i j r x hr' hx;rw [Nat.zero_add,hv];rfl) fun i j r x hr' hx=>by
    obtain ⟨v,hv,hd⟩:=hcell i j r x hr' hx;rw [hv];exact hd
  rw [hn] at hdr;exact .data hdr
end
end Go.Abs
