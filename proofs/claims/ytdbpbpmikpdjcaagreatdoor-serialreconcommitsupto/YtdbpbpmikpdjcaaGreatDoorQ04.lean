/- Part 4 of a proof: AbsL, AbsM, AbsX, AbsN, AbsO, AbsXs -/
import Derived.Test.YtdbpbpmikpdjcaaGreatDoorQ03
set_option linter.all false

namespace Go.Abs
theorem append_two {P:Program} {w:World} (t ty e:TypeId) (i:TypeInfo) (z:Value) (ht:P.underlying t=some (.slice e)) (hi:P.info? e=some i) (hz:i.zero=some z)
  (hzs:z.cells.size=i.size) (hsz:0<i.size) (v:Value) (n:Nat) (xs:List Value) (hown:w.ownsRow 0 e i.size v n xs)
  (a:Addr) (m c:Nat) (news:List Value) (hl:news.length=m * i.size) (hnews:∀ j u,news[j]?=some u→w.cell? (a.add j)=some u) (h1:∀ u∈news,u.oneCell'=true) (hm:0<m)
  (h63:n+m≤maxLen) (hbytes:(n+m) * i.bytes≤140737488355328) :
  ∃ v' w',(Builtin.append_ #[t,t] ty #[v,.slice (some a) m c]).run P w=.ok v' w'∧v'.oneCell'=true∧w'.ownsRow 0 e i.size v' (n+m) (xs++news)∧w'.os=w.os∧w'.tape=w.tape∧w'.output=w.output∧w.heap.size≤w'.heap.size ∧
   ((∃ g,v.ownBlock=some g∧v'.ownBlock=some g∧∀ k,k≠g→w'.heap[k]?=w.heap[k]?)∨(v'.ownBlock=some w.heap.size∧∀ k,k<w.heap.size→w'.heap[k]?=w.heap[k]?)):=by
 have hsmall:n+m≤9223372036854775807:=by simp only [maxLen] at h63;omega
 have hlen:(xs++news).length=(n+m) * i.size:=by rw [List.length_append,hown.1,hl,Nat.add_mul]
 have grown:∀ (old:Nat),old<n+m →
   (w.drew.alloc (.cells (xs.toArray++news.toArray++Builtin.zeroCells z.cells (grownCap w (n+m) old e - (n+m))) e)).ownsRow 0 e i.size
    (.slice (some ⟨w.heap.size,0,none⟩) (n+m) (grownCap w (n+m) old e)) (n+m) (xs++news):=by
  intro old ho
  have hge:=grownCap_ge w (n+m) old e
  have hcm:grownCap w (n+m) old e≤maxLen:=grownCap_le_maxLen w (n+m) old e h63
  refine ⟨hlen,.inr ⟨w.heap.size,_,_,rfl,Nat.zero_le _,heap_alloc_new w.drew _,hge,hcm,?_,?_⟩⟩
  ·
   simp only [Array.size_append,List.size_toArray,size_zeroCells,hzs,hown.1,hl,← Nat.add_mul]
   congr 1
   omega
  ·
   simp only [Array.toList_append,List.append_assoc]
   rw [← List.append_assoc,← hlen]
   exact List.take_left
 rcases hown.2 with ⟨rfl,rfl⟩ | ⟨g,cap,cur,rfl,hbg,hg,hnc,hcm,hcs,htake⟩
 ·
  have hx:xs=[]:=List.eq_nil_of_length_eq_zero (by simpa using hown.1)
  subst hx
  have hr:=run_append_nil (P:=P) w t ty e i z ht hi hz a m c news hl hnews (by omega) (by omega) (by have hb:=hbytes;simp only [Nat.zero_add] at hb;omega)
  have hgr:=grown 0 (by omega)
  simp only [Nat.zero_add,List.nil_append,Array.empty_append] at hgr ⊢
  exact ⟨_,_,hr,rfl,hgr,rfl,rfl,rfl,alloc_le w.drew _,.inr ⟨rfl,fun k hk=>heap_alloc_old w.drew _ k hk⟩⟩
 ·
  by_cases hroom:n+m≤cap
  ·
   have hfit:n * i.size+news.length≤cur.size:=by rw [hl,hcs,← Nat.add_mul];exact Nat.mul_le_mul_right _ hroom
   have hr:=run_append_room (P:=P) w t ty e i ht hi g n cap cur hg a m c news hl hnews h1 hroom hfit
   refine ⟨_,_,hr,rfl,⟨hlen,.inr ⟨g,cap,_,rfl,hbg,setRow_heap w g cur _ e _ hg,hroom,hcm,?_,?_⟩⟩,rfl,rfl,rfl,by simp [World.setRow],.inl ⟨g,rfl,rfl,fun k hk=>setRow_other w g k _ hk⟩⟩
   ·
    simp only [List.size_toArray,List.length_append,List.length_take,List.length_drop,Array.length_toList]
    omega
   ·
    rw [htake,← hlen]
    exact List.take_left
  ·
   have holds:∀ j u,xs[j]?=some u→w.cell? ((⟨g,0,none⟩:Addr).add j)=some u:=hown.cells (g:=g) rfl
   have hr:=run_append_grow (P:=P) w t ty e i z ht hi hz ⟨g,0,none⟩ n cap xs hown.1 holds a m c news hl hnews (by omega) (by omega) (growslice_fits (by omega) hbytes)
   exact ⟨_,_,hr,rfl,grown cap (by omega),rfl,rfl,rfl,alloc_le w.drew _,.inr ⟨rfl,fun k hk=>heap_alloc_old w.drew _ k hk⟩⟩
theorem append_zero {P:Program} {w:World} (t ty e:TypeId) (i:TypeInfo) (ht:P.underlying t=some (.slice e)) (hi:P.info? e=some i) (v:Value) (n:Nat) (xs:List Value) (hown:w.ownsRow 0 e i.size v n xs)
  (ad:Option Addr) (c:Nat):(Builtin.append_ #[t,t] ty #[v,.slice ad 0 c]).run P w=.ok v w:=by
 have hfc:(Builtin.firstCells i.size 0 (.slice ad 0 c)).run P w=.ok #[] w:=by
  cases ad<;>simp [Builtin.firstCells,loadCells,loadCellsFrom]
 rcases hown.2 with ⟨rfl,rfl⟩ | ⟨g,cap,cur,rfl,hbg,hg,hnc,hcm,hcs,htake⟩
 · simp [Builtin.append_,run_underlying ht,sizeOf,typeInfo,hi,Builtin.lenOf,hfc]
 · simp [Builtin.append_,run_underlying ht,sizeOf,typeInfo,hi,Builtin.lenOf,hfc,hnc,storeCells]
def Ctx.addSl (c:Ctx) (i n:Nat) (v:Value):Ctx:={ c with sl:=fun i' n'=>if i'=i∧n'=n then some v else c.sl i' n' }
theorem Ctx.addSl_le {c:Ctx} {i n:Nat} {v:Value} (h:c.sl i n=none):c.le (c.addSl i n v) :=
 ⟨fun _ _ _ h=>h,fun _ _ h=>h,fun i' n' u hu=>by
  simp only [Ctx.addSl]
  split
  · rename_i he;rw [he.1,he.2,h] at hu;cases hu
  · exact hu⟩
theorem DRel.flat {D:Nat→Nat→Option Value} {rows:List (List AV)} {vs:List Value} {sz:Nat} (h:∀ (i j:Nat) (r:List AV) (x:AV),rows[i]?=some r→r[j]?=some x→∃ u,vs[i * sz+j]?=some u∧DRel D x u)
  {news:List (List AV)} {us:List Value} (hl:vs.length=rows.length * sz) (k:∀ (i j:Nat) (r:List AV) (x:AV),news[i]?=some r→r[j]?=some x→∃ u,us[i * sz+j]?=some u∧DRel D x u) :
  ∀ (i j:Nat) (r:List AV) (x:AV),(rows++news)[i]?=some r→r[j]?=some x→∃ u,(vs++us)[i * sz+j]?=some u∧DRel D x u:=by
 intro i j r x hr hx
 by_cases hi:i<rows.length
 ·
  rw [List.getElem?_append_left hi] at hr
  obtain ⟨u,hu,hd⟩:=h i j r x hr hx
  have hlt:i * sz+j<vs.length:=(List.getElem?_eq_some_iff.1 hu).1
  exact ⟨u,by rw [List.getElem?_append_left hlt];exact hu,hd⟩
 ·
  rw [List.getElem?_append_right (by omega)] at hr
  obtain ⟨u,hu,hd⟩:=k _ j r x hr hx
  have he:i * sz+j=vs.length+((i - rows.length) * sz+j):=by
   rw [hl,Nat.sub_mul]
   have:rows.length * sz≤i * sz:=Nat.mul_le_mul_right _ (by omega)
   omega
  refine ⟨u,?_,hd⟩
  rw [he,List.getElem?_append_right (by omega)]
  rw [show vs.length+((i - rows.length) * sz+j) - vs.length=(i - rows.length) * sz+j from by omega]
  exact hu
end Go.Abs

namespace Go.Abs
theorem arr_nil {E:Ent} {c:Ctx} {h:qaa} {w:World} (s:HSim c h w) (k:E.ok c h w) (e:TypeId) (sz:Nat) :
  HSim (c.addSl h.length 0 (.slice none 0 0)) (h++[.arr e sz []]) w∧E.ok (c.addSl h.length 0 (.slice none 0 0)) (h++[.arr e sz []]) w:=by
 have hle:c.le (c.addSl h.length 0 (.slice none 0 0)):=Ctx.addSl_le ((s.dom _ (Nat.le_refl _)).2 0)
 have hsl:∀ i,i<h.length→∀ m,(c.addSl h.length 0 (.slice none 0 0)).sl i m=c.sl i m:=fun i hi m=>by
  simp only [Ctx.addSl];rw [if_neg (by omega)]
 have hlt:∀ {i:Nat} {o:AObj},h[i]?=some o→i<h.length:=fun hi=>(List.getElem?_eq_some_iff.1 hi).1
 have hnew:qah (c.addSl h.length 0 (.slice none 0 0)) h.length (.arr e sz [])=none:=by simp [qah,Ctx.addSl,Value.ownBlock]
 refine ⟨⟨s.data,fun i hi=>?_,fun i o hi=>?_,fun i j o o' b hi hj hb hb'=>?_,fun i o b j v hi hb hD=>?_⟩,⟨k.edom,k.ext.trans hle,k.blk0,by have:=k.len;simp;omega,k.os,k.tape,k.output,k.size,k.frame,fun i o b hi hb=>?_,k.dold⟩⟩
 ·
  simp only [List.length_append,List.length_cons,List.length_nil] at hi
  have:=s.dom i (by omega)
  refine ⟨this.1,fun m=>?_⟩
  simp only [Ctx.addSl]
  rw [if_neg (by omega)]
  exact this.2 m
 ·
  rcases qal hi with h1 | ⟨rfl,rfl⟩
  · exact (s.obj i o h1).keep hle (hsl i (hlt h1)) fun _ _=>rfl
  ·
   refine ⟨.slice none 0 0,[],by simp [Ctx.addSl],rfl,fun m hm=>?_,World.ownsRow_nil w 0 e sz,by simp,by simp,by simp,fun b j hb=>by cases hb⟩
   simp only [Ctx.addSl]
   rw [if_neg (by simp at hm;omega)]
   exact (s.dom _ (Nat.le_refl _)).2 m
 ·
  rcases qal hi with h1 | ⟨rfl,rfl⟩<;>rcases qal hj with h2 | ⟨rfl,rfl⟩
  ·
   rw [(s.obj i o h1).blk hle] at hb
   rw [(s.obj j o' h2).blk hle] at hb'
   exact s.apart i j o o' b h1 h2 hb hb'
  · rw [hnew] at hb';cases hb'
  · rw [hnew] at hb;cases hb
  · rfl
 ·
  rcases qal hi with h1 | ⟨rfl,rfl⟩
  ·
   rw [(s.obj i o h1).blk hle] at hb
   exact s.sep i o b j v h1 hb hD
  · rw [hnew] at hb;cases hb
 ·
  rcases qal hi with h1 | ⟨rfl,rfl⟩
  ·
   rw [(s.obj i o h1).blk hle] at hb
   exact k.newobj i o b h1 hb
  · rw [hnew] at hb;cases hb
theorem arr_grow {E:Ent} {c:Ctx} {h:qaa} {w w':World} (s:HSim c h w) (k:E.ok c h w) {i e sz m:Nat} {rows news:List (List AV)} {v v':Value} {us:List Value} (hi:h[i]?=some (.arr e sz rows))
  (hv:c.sl i rows.length=some v) (hnl:news.length=m) (hm:0<m) (hlen:rows.length+m≤68719476736) (hrow:∀ r,r∈news→r.length=sz)
  (hus:∀ (i' j:Nat) (r:List AV) (x:AV),news[i']?=some r→r[j]?=some x→∃ u,us[i' * sz+j]?=some u∧DRel c.D x u) (ho:v'.oneCell'=true)
  (hown:∀ xs,w.ownsRow 0 e sz v rows.length xs→w'.ownsRow 0 e sz v' (rows.length+m) (xs++us)) (hos:w'.os=w.os) (ht:w'.tape=w.tape) (hou:w'.output=w.output) (hs:w.heap.size≤w'.heap.size)
  (htwo:(∃ g,v.ownBlock=some g∧v'.ownBlock=some g∧∀ k,k≠g→w'.heap[k]?=w.heap[k]?)∨(v'.ownBlock=some w.heap.size∧∀ k,k<w.heap.size→w'.heap[k]?=w.heap[k]?)) :
  ∃ c',c.le c'∧HSim c' (h.set i (.arr e sz (rows++news))) w'∧E.ok c' (h.set i (.arr e sz (rows++news))) w'∧Rel c' (.own i (rows.length+m)) v':=by
 obtain ⟨v0,vs,h1,_,hmax,h2,h3,h4,h5,h6⟩:=s.obj i _ hi
 rw [hv] at h1
 cases h1
 have hown':=hown vs h2
 have hnone:c.sl i (rows.length+m)=none:=hmax _ (by omega)
 have hle0:c.le (c.addSl i (rows.length+m) v'):=Ctx.addSl_le hnone
 have hbold:qah c i (.arr e sz rows)=v.ownBlock:=by simp only [qah,hv,Option.bind_some]
 -- what is known of the new block's cells,as data
 let L:=vs++us
 have hL:L.length=(rows.length+m) * sz:=hown'.1
 have hcellL:∀ g j u,v'.ownBlock=some g→L[j]?=some u→w'.cell? ⟨g,j,none⟩=some u:=fun g j u hg hu=>by
  have:=hown'.cells hg j u hu
  rwa [addLit,Nat.zero_add] at this
 have hjl:∀ b j u,c.D b j=some u→v'.ownBlock=some b→j<rows.length * sz∧L[j]?=some u:=fun b j u hD hg'=>by
  rcases htwo with ⟨g,hg,hg2,hk⟩ | ⟨hg2,hk⟩
  ·
   rw [hg2] at hg';cases hg'
   have hj:j<rows.length * sz:=s.sep i _ b j u hi (by rw [hbold,hg]) hD
   have hjl:j<vs.length:=by rw [h2.1];exact hj
   have c1:=h2.cells hg j vs[j] (by simp [hjl])
   rw [addLit,Nat.zero_add,s.data b j u hD] at c1
   refine ⟨hj,?_⟩
   show (vs++us)[j]?=some u
   rw [List.getElem?_append_left hjl,List.getElem?_eq_getElem hjl,← c1]
  ·
   rw [hg2] at hg';cases hg'
   rw [s.noD (Nat.le_refl _)] at hD;cases hD
 let c':Ctx:={ c.addSl i (rows.length+m) v' with D:=fun b j=>if v'.ownBlock=some b∧j<L.length then L[j]? else c.D b j }
 have hDle:∀ b j u,c.D b j=some u→c'.D b j=some u:=fun b j u hD=>by
  simp only [c']
  split
  · rename_i hh;exact (hjl b j u hD hh.1).2
  · exact hD
 have hle:c.le c':=⟨hDle,fun _ _ h=>h,hle0.sl⟩
 have hDnew:∀ b j u,c'.D b j=some u→(v'.ownBlock=some b∧j<L.length∧L[j]?=some u)∨(v'.ownBlock≠some b∧c.D b j=some u):=fun b j u hD=>by
  simp only [c'] at hD
  split at hD
  · rename_i hh;exact .inl ⟨hh.1,hh.2,hD⟩
  ·
   rename_i hh
   by_cases hb:v'.ownBlock=some b
   ·
    have h7:=hjl b j u hD hb
    exact .inl ⟨hb,(List.getElem?_eq_some_iff.1 h7.2).1,h7.2⟩
   · exact .inr ⟨hb,hD⟩
 have hsl:∀ j,j≠i→∀ m',c'.sl j m'=c.sl j m':=fun j hj m'=>by
  simp only [c',Ctx.addSl];rw [if_neg (by intro h;exact hj h.1)]
 have hlen':(rows++news).length=rows.length+m:=by simp [hnl]
 have hslv:c'.sl i (rows++news).length=some v':=by simp [c',Ctx.addSl,hlen']
 have hbnew:qah c' i (.arr e sz (rows++news))=v'.ownBlock:=by simp only [qah,hslv,Option.bind_some]
 have hile:i<h.length:=(List.getElem?_eq_some_iff.1 hi).1
 -- a block of another object stands
 have hoth:∀ j o b,j≠i→h[j]?=some o→qah c j o=some b→w'.heap[b]?=w.heap[b]?:=fun j o b hj hjo hb=>by
  rcases htwo with ⟨g,hg,hg',hk⟩ | ⟨hg',hk⟩
  ·
   refine hk b fun e=>hj ?_
   subst e
   exact s.apart j i o _ b hjo hi hb (by rw [hbold,hg])
  · exact hk b ((s.obj j o hjo).lt hb)
 -- the new block of object i,and the others
 have hfresh:∀ j o b,j≠i→h[j]?=some o→qah c j o=some b→v'.ownBlock≠some b:=fun j o b hj hjo hb hv'=>by
  rcases htwo with ⟨g,hg,hg',hk⟩ | ⟨hg',hk⟩
  ·
   rw [hg'] at hv'
   cases hv'
   exact hj (s.apart j i o _ _ hjo hi hb (by rw [hbold,hg]))
  ·
   rw [hg'] at hv'
   cases hv'
   have:=(s.obj j o hjo).lt hb
   omega
 have hnewblk:∀ b,v'.ownBlock=some b→(∃ o0,E.h[i]?=some o0∧qah E.c i o0=some b)∨E.w.heap.size≤b:=fun b hb=>by
  rcases htwo with ⟨g,hg,hg',hk⟩ | ⟨hg',hk⟩
  ·
   rw [hg'] at hb
   cases hb
   exact k.newobj i _ _ hi (by rw [hbold,hg])
  ·
   rw [hg'] at hb
   cases hb
   exact .inr k.size
 refine ⟨c',hle,⟨fun b j u hD=>?_,fun j hj=>?_,fun j o hj=>?_,fun j j' o o' b hj hj' hb hb'=>?_,fun j o b n u hj hb hD=>?_⟩,⟨k.edom,k.ext.trans hle,k.blk0,by simpa using k.len,hos.trans k.os,ht.trans k.tape,hou.trans k.output,Nat.le_trans k.size hs,fun b hb hno=>?_,fun j o b hj hb=>?_,fun b j u hD=>?_⟩,
  .own i _ v' (by simp [c',Ctx.addSl]) ho⟩
 ·
  rcases hDnew b j u hD with ⟨hg,_,hu⟩ | ⟨hg,hD'⟩
  · exact hcellL b j u hg hu
  ·
   have hcell:=s.data b j u hD'
   rcases htwo with ⟨g,hg1,hg',hk⟩ | ⟨hg',hk⟩
   · rw [World.cell?_of_block (w:=w) (hk b (fun e=>hg (by rw [hg',e])))];exact hcell
   ·
    have hb:b<w.heap.size:=World.block_lt_of_cell? w ⟨b,j,none⟩ hcell
    rw [World.cell?_of_block (w:=w) (hk b hb)];exact hcell
 ·
  have hj':h.length≤j:=by simpa using hj
  have:=s.dom j hj'
  exact ⟨this.1,fun m'=>by rw [hsl j (by omega)];exact this.2 m'⟩
 ·
  rcases qae hj with ⟨rfl,rfl⟩ | ⟨hne,hjo⟩
  ·
   refine ⟨v',vs++us,hslv,ho,fun m' hm'=>?_,by rw [hlen'];exact hown',by omega,fun r hr=>?_,fun i' j' r x hr hx=>?_,fun b n hb hn=>?_⟩
   ·
    simp only [c',Ctx.addSl]
    rw [if_neg (by omega)]
    exact hmax m' (by omega)
   ·
    rcases List.mem_append.1 hr with hr | hr
    · exact h4 r hr
    · exact hrow r hr
   ·
    obtain ⟨u,hu,hd⟩:=DRel.flat h5 h2.1 hus i' j' r x hr hx
    exact ⟨u,hu,hd.mono hDle⟩
   ·
    rw [hlen',← hL] at hn
    refine ⟨L[n],?_⟩
    simp only [c',if_pos (show v'.ownBlock=some b∧n<L.length from ⟨hb,hn⟩)]
    exact List.getElem?_eq_getElem hn
  · exact (s.obj j o hjo).keep hle (hsl j hne) fun b hb=>hoth j o b hne hjo hb
 ·
  rcases qae hj with ⟨rfl,rfl⟩ | ⟨hne,hjo⟩<;>rcases qae hj' with ⟨h8,h7⟩ | ⟨hne',hjo'⟩
  · exact h8.symm
  ·
   rw [hbnew] at hb
   rw [(s.obj j' o' hjo').blk hle] at hb'
   exact (hfresh j' o' b hne' hjo' hb' hb).elim
  ·
   subst h8;subst h7
   rw [hbnew] at hb'
   rw [(s.obj j o hjo).blk hle] at hb
   exact (hfresh j o b hne hjo hb hb').elim
  ·
   rw [(s.obj j o hjo).blk hle] at hb
   rw [(s.obj j' o' hjo').blk hle] at hb'
   exact s.apart j j' o o' b hjo hjo' hb hb'
 ·
  rcases qae hj with ⟨rfl,rfl⟩ | ⟨hne,hjo⟩
  ·
   rw [hbnew] at hb
   simp only [AObj.shares,hlen']
   rcases hDnew b n u hD with ⟨_,hn,_⟩ | ⟨hg,_⟩
   · rw [← hL];exact hn
   · exact (hg hb).elim
  ·
   rw [(s.obj j o hjo).blk hle] at hb
   rcases hDnew b n u hD with ⟨hg,_⟩ | ⟨_,hD'⟩
   · exact (hfresh j o b hne hjo hb hg).elim
   · exact s.sep j o b n u hjo hb hD'
 ·
  have hne:∀ g,v.ownBlock=some g→b≠g:=fun g hg e=>by
   subst e
   rcases k.newobj i _ b hi (by rw [hbold,hg]) with ⟨o0,h0,h1⟩ | h2
   · exact hno i o0 h0 h1
   · omega
  rcases htwo with ⟨g,hg,hg',hk⟩ | ⟨hg',hk⟩
  · rw [hk b (hne g hg)];exact k.frame b hb hno
  · rw [hk b (Nat.lt_of_lt_of_le hb k.size)];exact k.frame b hb hno
 ·
  rcases qae hj with ⟨rfl,rfl⟩ | ⟨hne,hjo⟩
  ·
   rw [hbnew] at hb
   exact hnewblk b hb
  ·
   rw [(s.obj j o hjo).blk hle] at hb
   exact k.newobj j o b hjo hb
 ·
  rcases hDnew b j u hD with ⟨hg,_⟩ | ⟨_,hD'⟩
  ·
   rcases hnewblk b hg with ⟨o0,g1,g2⟩ | g1
   · exact .inr (.inr ⟨i,o0,g1,g2⟩)
   · exact .inr (.inl g1)
  · exact k.dold b j u hD'
theorem data_row {c:Ctx} {h:qaa} {w:World} (s:HSim c h w) {rows:List (List AV)} {sz:Nat} (hsz:∀ r,r∈rows→r.length=sz) (h0:0<sz) {u:Value} (hr:DRel c.D (.slice rows) u) :
  ∃ ad cap,u=.slice ad rows.length cap∧(rows=[]∨∃ b off,ad=some ⟨b,off,none⟩∧∃ us:List Value,us.length=rows.length * sz∧(∀ j v,us[j]?=some v→w.cell? ⟨b,off+j,none⟩=some v)∧(∀ v,v∈us→v.oneCell'=true) ∧
   ∀ (i j:Nat) (r:List AV) (x:AV),rows[i]?=some r→r[j]?=some x→∃ v,us[i * sz+j]?=some v∧DRel c.D x v):=by
 cases hr with
 | nil=>exact ⟨none,0,rfl,.inl rfl⟩
 | empty a=>exact ⟨some a,0,rfl,.inl rfl⟩
 | slice rows b off cap sz' g hsz' hB hc hD hh =>
  refine ⟨_,cap,rfl,?_⟩
  by_cases he:rows=[]
  · exact .inl he
  ·
   refine .inr ⟨b,off,rfl,?_⟩
   have hpos:0<rows.length:=by cases rows with | nil=>exact (he rfl).elim | cons=>simp
   have:sz'=sz:=by rw [← hsz' rows[0] (by simp),hsz rows[0] (by simp)]
   subst this
   obtain ⟨us,hl,hp⟩:=choose_list (fun k v=>w.cell? ⟨b,off+k,none⟩=some v∧v.oneCell'=true∧∀ r x,rows[k / sz']?=some r→r[k % sz']?=some x→DRel c.D x v) (rows.length * sz') (fun k hk=>by
    have hq:k / sz'<rows.length:=Nat.div_lt_of_lt_mul (by rw [Nat.mul_comm];exact hk)
    have hrow:rows[k / sz'].length=sz':=hsz' _ (by simp)
    have hm:k % sz'<rows[k / sz'].length:=by rw [hrow];exact Nat.mod_lt _ h0
    have e1:rows[k / sz']?=some rows[k / sz']:=by simp [hq]
    have e2:rows[k / sz'][k % sz']?=some rows[k / sz'][k % sz']:=by simp [hm]
    have hd:=hD _ _ _ _ e1 e2
    have hrel:=hh _ _ _ _ e1 e2
    have hk':off+k / sz' * sz'+k % sz'=off+k:=by
     have:=Nat.div_add_mod k sz'
     rw [Nat.mul_comm] at this
     omega
    rw [hk'] at hd
    refine ⟨_,s.data _ _ _ hd,hrel.one,fun r x hr hx=>?_⟩
    rw [e1] at hr
    cases hr
    rw [e2] at hx
    cases hx
    exact hrel)
   refine ⟨us,hl,fun j v hv=>(hp j v hv).1,fun v hv=>?_,fun i j r x hr hx=>?_⟩
   ·
    obtain ⟨j,hj⟩:=List.getElem?_of_mem hv
    exact (hp j v hj).2.1
   ·
    have hj:j<sz':=by rw [← hsz' r (List.mem_of_getElem? hr)];exact (List.getElem?_eq_some_iff.1 hx).1
    have hi:i<rows.length:=(List.getElem?_eq_some_iff.1 hr).1
    have hlt:i * sz'+j<us.length:=by
     have:(i+1) * sz'≤rows.length * sz':=Nat.mul_le_mul_right _ hi
     rw [Nat.add_mul] at this
     omega
    refine ⟨us[i * sz'+j],by simp [hlt],(hp (i * sz'+j) _ (by simp [hlt])).2.2 r x ?_ ?_⟩
    · rw [Nat.mul_comm,Nat.mul_add_div h0,Nat.div_eq_of_lt hj,Nat.add_zero];exact hr
    · rw [Nat.mul_comm,Nat.mul_add_mod,Nat.mod_eq_of_lt hj];exact hx
end Go.Abs

namespace Go.Abs
theorem uarr_nil {E:Ent} {c:Ctx} {h:qaa} {w:World} (s:HSim c h w) (k:E.ok c h w) (e:TypeId) (sz:Nat) :
  c.le (c.addSl h.length 0 (.slice none 0 0))∧HSim (c.addSl h.length 0 (.slice none 0 0)) (h++[.uarr e sz []]) w∧E.ok (c.addSl h.length 0 (.slice none 0 0)) (h++[.uarr e sz []]) w:=by
 have hle:c.le (c.addSl h.length 0 (.slice none 0 0)):=Ctx.addSl_le ((s.dom _ (Nat.le_refl _)).2 0)
 have hsl:∀ i,i<h.length→∀ m,(c.addSl h.length 0 (.slice none 0 0)).sl i m=c.sl i m:=fun i hi m=>by
  simp only [Ctx.addSl];rw [if_neg (by omega)]
 have hlt:∀ {i:Nat} {o:AObj},h[i]?=some o→i<h.length:=fun hi=>(List.getElem?_eq_some_iff.1 hi).1
 have hnew:qah (c.addSl h.length 0 (.slice none 0 0)) h.length (.uarr e sz [])=none:=by simp [qah,Ctx.addSl,Value.ownBlock]
 refine ⟨hle,⟨s.data,fun i hi=>?_,fun i o hi=>?_,fun i j o o' b hi hj hb hb'=>?_,fun i o b j v hi hb hD=>?_⟩,⟨k.edom,k.ext.trans hle,k.blk0,by have:=k.len;simp;omega,k.os,k.tape,k.output,k.size,k.frame,fun i o b hi hb=>?_,k.dold⟩⟩
 ·
  simp only [List.length_append,List.length_cons,List.length_nil] at hi
  have:=s.dom i (by omega)
  refine ⟨this.1,fun m=>?_⟩
  simp only [Ctx.addSl]
  rw [if_neg (by omega)]
  exact this.2 m
 ·
  rcases qal hi with h1 | ⟨rfl,rfl⟩
  · exact (s.obj i o h1).keep hle (hsl i (hlt h1)) fun _ _=>rfl
  ·
   refine ⟨.slice none 0 0,[],by simp [Ctx.addSl],rfl,fun m hm=>?_,World.ownsRow_nil w 0 e sz,by simp,by simp,by simp⟩
   simp only [Ctx.addSl]
   rw [if_neg (by simp at hm;omega)]
   exact (s.dom _ (Nat.le_refl _)).2 m
 ·
  rcases qal hi with h1 | ⟨rfl,rfl⟩<;>rcases qal hj with h2 | ⟨rfl,rfl⟩
  ·
   rw [(s.obj i o h1).blk hle] at hb
   rw [(s.obj j o' h2).blk hle] at hb'
   exact s.apart i j o o' b h1 h2 hb hb'
  · rw [hnew] at hb';cases hb'
  · rw [hnew] at hb;cases hb
  · rfl
 ·
  rcases qal hi with h1 | ⟨rfl,rfl⟩
  ·
   rw [(s.obj i o h1).blk hle] at hb
   exact s.sep i o b j v h1 hb hD
  · rw [hnew] at hb;cases hb
 ·
  rcases qal hi with h1 | ⟨rfl,rfl⟩
  ·
   rw [(s.obj i o h1).blk hle] at hb
   exact k.newobj i o b h1 hb
  · rw [hnew] at hb;cases hb
theorem uarr_grow {E:Ent} {c:Ctx} {h:qaa} {w w':World} (s:HSim c h w) (k:E.ok c h w) {i e sz:Nat} {rows rows':List (List AV)} {v v':Value} {us:List Value} (hi:h[i]?=some (.uarr e sz rows))
  (hv:c.sl i rows.length=some v) (hnl:rows.length<rows'.length) (hlen:rows'.length≤68719476736) (hrow:∀ r,r∈rows'→r.length=sz)
  (hus:∀ (i' j:Nat) (r:List AV) (x:AV),rows'[i']?=some r→r[j]?=some x→∃ u,us[i' * sz+j]?=some u∧DRel c.D x u) (ho:v'.oneCell'=true)
  (hown':w'.ownsRow 0 e sz v' rows'.length us) (hos:w'.os=w.os) (ht:w'.tape=w.tape) (hou:w'.output=w.output) (hs:w.heap.size≤w'.heap.size)
  (htwo:(∃ g,v.ownBlock=some g∧v'.ownBlock=some g∧∀ k,k≠g→w'.heap[k]?=w.heap[k]?)∨(v'.ownBlock=some w.heap.size∧∀ k,k<w.heap.size→w'.heap[k]?=w.heap[k]?)) :
  ∃ c',c.le c'∧HSim c' (h.set i (.uarr e sz rows')) w'∧E.ok c' (h.set i (.uarr e sz rows')) w'∧Rel c' (.own i rows'.length) v':=by
 obtain ⟨v0,vs,h1,_,hmax,h2,h3,h4,h5⟩:=s.obj i _ hi
 rw [hv] at h1
 cases h1
 have hnone:c.sl i rows'.length=none:=hmax _ hnl
 have hle:c.le (c.addSl i rows'.length v'):=Ctx.addSl_le hnone
 have hsl:∀ j,j≠i→∀ m',(c.addSl i rows'.length v').sl j m'=c.sl j m':=fun j hj m'=>by
  simp only [Ctx.addSl];rw [if_neg (by intro h;exact hj h.1)]
 have hslv:(c.addSl i rows'.length v').sl i rows'.length=some v':=by simp [Ctx.addSl]
 have hbnew:qah (c.addSl i rows'.length v') i (.uarr e sz rows')=v'.ownBlock:=by simp only [qah,hslv,Option.bind_some]
 have hbold:qah c i (.uarr e sz rows)=v.ownBlock:=by simp only [qah,hv,Option.bind_some]
 have hoth:∀ j o b,j≠i→h[j]?=some o→qah c j o=some b→w'.heap[b]?=w.heap[b]?:=fun j o b hj hjo hb=>by
  rcases htwo with ⟨g,hg,hg',hk⟩ | ⟨hg',hk⟩
  ·
   refine hk b fun e=>hj ?_
   subst e
   exact s.apart j i o _ b hjo hi hb (by rw [hbold,hg])
  · exact hk b ((s.obj j o hjo).lt hb)
 have hfresh:∀ j o b,j≠i→h[j]?=some o→qah c j o=some b→v'.ownBlock≠some b:=fun j o b hj hjo hb hv'=>by
  rcases htwo with ⟨g,hg,hg',hk⟩ | ⟨hg',hk⟩
  ·
   rw [hg'] at hv'
   cases hv'
   exact hj (s.apart j i o _ _ hjo hi hb (by rw [hbold,hg]))
  ·
   rw [hg'] at hv'
   cases hv'
   have:=(s.obj j o hjo).lt hb
   omega
 have hnoD:∀ b,v'.ownBlock=some b→∀ j u,c.D b j=some u→False:=fun b hb j u hD=>by
  rcases htwo with ⟨g,hg,hg',hk⟩ | ⟨hg',hk⟩
  ·
   rw [hg'] at hb;cases hb
   exact s.sep i _ _ j u hi (by rw [hbold,hg]) hD
  ·
   rw [hg'] at hb;cases hb
   rw [s.noD (Nat.le_refl _)] at hD;cases hD
 refine ⟨_,hle,⟨fun b j u hD=>?_,fun j hj=>?_,fun j o hj=>?_,fun j j' o o' b hj hj' hb hb'=>?_,fun j o b n u hj hb hD=>?_⟩,⟨k.edom,k.ext.trans hle,k.blk0,by simpa using k.len,hos.trans k.os,ht.trans k.tape,hou.trans k.output,Nat.le_trans k.size hs,fun b hb hno=>?_,fun j o b hj hb=>?_,k.dold⟩,
  .own i _ v' (by simp [Ctx.addSl]) ho⟩
 ·
  have hD':c.D b j=some u:=hD
  have hcell:=s.data b j u hD'
  rcases htwo with ⟨g,hg,hg',hk⟩ | ⟨hg',hk⟩
  · rw [World.cell?_of_block (w:=w) (hk b (fun e=>hnoD b (by rw [hg',e]) j u hD'))];exact hcell
  ·
   have hb:b<w.heap.size:=World.block_lt_of_cell? w ⟨b,j,none⟩ hcell
   rw [World.cell?_of_block (w:=w) (hk b hb)];exact hcell
 ·
  have hj':h.length≤j:=by simpa using hj
  have hilt:i<h.length:=(List.getElem?_eq_some_iff.1 hi).1
  have:=s.dom j hj'
  exact ⟨this.1,fun m'=>by rw [hsl j (by omega)];exact this.2 m'⟩
 ·
  rcases qae hj with ⟨rfl,rfl⟩ | ⟨hne,hjo⟩
  ·
   refine ⟨v',us,hslv,ho,fun m' hm'=>?_,hown',hlen,hrow,hus⟩
   simp only [Ctx.addSl]
   rw [if_neg (by omega)]
   exact hmax m' (by omega)
  · exact (s.obj j o hjo).keep hle (hsl j hne) fun b hb=>hoth j o b hne hjo hb
 ·
  rcases qae hj with ⟨rfl,rfl⟩ | ⟨hne,hjo⟩<;>rcases qae hj' with ⟨h6,h7⟩ | ⟨hne',hjo'⟩
  · exact h6.symm
  ·
   rw [hbnew] at hb
   rw [(s.obj j' o' hjo').blk hle] at hb'
   exact (hfresh j' o' b hne' hjo' hb' hb).elim
  ·
   subst h6;subst h7
   rw [hbnew] at hb'
   rw [(s.obj j o hjo).blk hle] at hb
   exact (hfresh j o b hne hjo hb hb').elim
  ·
   rw [(s.obj j o hjo).blk hle] at hb
   rw [(s.obj j' o' hjo').blk hle] at hb'
   exact s.apart j j' o o' b hjo hjo' hb hb'
 ·
  have hD':c.D b n=some u:=hD
  rcases qae hj with ⟨rfl,rfl⟩ | ⟨hne,hjo⟩
  ·
   rw [hbnew] at hb
   exact hnoD b hb n u hD'
  ·
   rw [(s.obj j o hjo).blk hle] at hb
   exact s.sep j o b n u hjo hb hD'
 ·
  have hne:∀ g,v.ownBlock=some g→b≠g:=fun g hg e=>by
   subst e
   rcases k.newobj i _ b hi (by rw [hbold,hg]) with ⟨o0,h0,h1⟩ | h2
   · exact hno i o0 h0 h1
   · omega
  rcases htwo with ⟨g,hg,hg',hk⟩ | ⟨hg',hk⟩
  · rw [hk b (hne g hg)];exact k.frame b hb hno
  · rw [hk b (Nat.lt_of_lt_of_le hb k.size)];exact k.frame b hb hno
 ·
  rcases qae hj with ⟨rfl,rfl⟩ | ⟨hne,hjo⟩
  ·
   rw [hbnew] at hb
   rcases htwo with ⟨g,hg,hg',hk⟩ | ⟨hg',hk⟩
   ·
    rw [hg'] at hb
    cases hb
    exact k.newobj j _ _ hi (by rw [hbold,hg])
   ·
    rw [hg'] at hb
    cases hb
    exact .inr k.size
  ·
   rw [(s.obj j o hjo).blk hle] at hb
   exact k.newobj j o b hjo hb
theorem demote_ok {E:Ent} {c:Ctx} {h:qaa} {w:World} (s:HSim c h w) (k:E.ok c h w) {i e sz:Nat} {rows:List (List AV)} (hi:h[i]?=some (.uarr e sz rows)) :
  ∃ c',c.le c'∧HSim c' (h.set i (.arr e sz rows)) w∧E.ok c' (h.set i (.arr e sz rows)) w:=by
 obtain ⟨v,vs,hv,ho,hmax,h2,h3,h4,h5⟩:=s.obj i _ hi
 have hbold:qah c i (.uarr e sz rows)=v.ownBlock:=by simp only [qah,hv,Option.bind_some]
 have hnoD:∀ b,v.ownBlock=some b→∀ j u,c.D b j=some u→False:=fun b hb j u hD=>s.sep i _ b j u hi (by rw [hbold,hb]) hD
 let c':Ctx:={ c with D:=fun b j=>if v.ownBlock=some b∧j<vs.length then vs[j]? else c.D b j }
 have hDle:∀ b j u,c.D b j=some u→c'.D b j=some u:=fun b j u hD=>by
  simp only [c']
  rw [if_neg (fun hh=>hnoD b hh.1 j u hD)]
  exact hD
 have hle:c.le c':=⟨hDle,fun _ _ h=>h,fun _ _ _ h=>h⟩
 have hDnew:∀ b j u,c'.D b j=some u→(v.ownBlock=some b∧j<vs.length∧vs[j]?=some u)∨(v.ownBlock≠some b∧c.D b j=some u):=fun b j u hD=>by
  simp only [c'] at hD
  split at hD
  · rename_i hh;exact .inl ⟨hh.1,hh.2,hD⟩
  ·
   by_cases hb:v.ownBlock=some b
   · exact (hnoD b hb j u hD).elim
   · exact .inr ⟨hb,hD⟩
 have hbnew:qah c' i (.arr e sz rows)=v.ownBlock:=by
  show (c.sl i rows.length).bind Value.ownBlock=_
  rw [hv];rfl
 have hsame:∀ j o b,(h.set i (.arr e sz rows))[j]?=some o→qah c' j o=some b→∃ o0,h[j]?=some o0∧qah c j o0=some b:=fun j o b hj hb=>by
  rcases qae hj with ⟨rfl,rfl⟩ | ⟨hne,hjo⟩
  · exact ⟨_,hi,by rw [hbold,← hbnew,hb]⟩
  ·
   rw [(s.obj j o hjo).blk hle] at hb
   exact ⟨o,hjo,hb⟩
 refine ⟨c',hle,⟨fun b j u hD=>?_,fun j hj=>s.dom j (by simpa using hj),fun j o hj=>?_,fun j j' o o' b hj hj' hb hb'=>?_,fun j o b n u hj hb hD=>?_⟩,
  ⟨k.edom,k.ext.trans hle,k.blk0,by simpa using k.len,k.os,k.tape,k.output,k.size,k.frame,fun j o b hj hb=>?_,fun b j u hD=>?_⟩⟩
 ·
  rcases hDnew b j u hD with ⟨hg,_,hu⟩ | ⟨_,hD'⟩
  ·
   have:=h2.cells hg j u hu
   rwa [addLit,Nat.zero_add] at this
  · exact s.data b j u hD'
 ·
  rcases qae hj with ⟨rfl,rfl⟩ | ⟨hne,hjo⟩
  ·
   refine ⟨v,vs,hv,ho,hmax,h2,h3,h4,fun i' j' r x hr hx=>(h5 i' j' r x hr hx).imp fun u hu=>⟨hu.1,hu.2.mono hDle⟩,fun b n hb hn=>?_⟩
   rw [← h2.1] at hn
   refine ⟨vs[n],?_⟩
   simp only [c',if_pos (show v.ownBlock=some b∧n<vs.length from ⟨hb,hn⟩)]
   exact List.getElem?_eq_getElem hn
  · exact (s.obj j o hjo).keep hle (fun _=>rfl) fun _ _=>rfl
 ·
  obtain ⟨o1,g1,g2⟩:=hsame j o b hj hb
  obtain ⟨o2,g3,g4⟩:=hsame j' o' b hj' hb'
  exact s.apart j j' o1 o2 b g1 g3 g2 g4
 ·
  rcases qae hj with ⟨rfl,rfl⟩ | ⟨hne,hjo⟩
  ·
   rw [hbnew] at hb
   simp only [AObj.shares]
   rcases hDnew b n u hD with ⟨_,hn,_⟩ | ⟨hg,_⟩
   · rw [← h2.1];exact hn
   · exact (hg hb).elim
  ·
   rw [(s.obj j o hjo).blk hle] at hb
   rcases hDnew b n u hD with ⟨hg,_⟩ | ⟨_,hD'⟩
   · exact (hne (s.apart j i o _ b hjo hi hb (by rw [hbold,hg]))).elim
   · exact s.sep j o b n u hjo hb hD'
 ·
  obtain ⟨o1,g1,g2⟩:=hsame j o b hj hb
  exact k.newobj j o1 b g1 g2
 ·
  rcases hDnew b j u hD with ⟨hg,_⟩ | ⟨_,hD'⟩
  ·
   rcases k.newobj i _ b hi (by rw [hbold,hg]) with ⟨o0,g1,g2⟩ | g1
   · exact .inr (.inr ⟨i,o0,g1,g2⟩)
   · exact .inr (.inl g1)
  · exact k.dold b j u hD'
theorem demote_wk (E:Ent) (e:Env) {i t sz:Nat} {rows:List (List AV)} (hi:e.h[i]?=some (.uarr t sz rows)):Wk E e ⟨e.t,e.h.set i (.arr t sz rows)⟩:=fun c a w s k=>by
 obtain ⟨c',hle,s',k'⟩:=demote_ok s.hs k hi
 exact ⟨c',⟨s.defers,s.size,fun j=>(s.tmps j).mono hle,s'⟩,k'⟩
end Go.Abs

namespace Go.Abs
section
variable {P:Program} {E:Ent}
theorem set_same {α:Type} {l:List α} {i:Nat} {x:α} (h:l[i]?=some x):l.set i x=l:=by
 apply List.ext_getElem?
 intro j
 rw [List.getElem?_set]
 split
 · rename_i hij;subst hij;rw [h];split<;>simp;rename_i hn;exact (hn (List.getElem?_eq_some_iff.1 h).1).elim
 · rfl
theorem append_obj {c:Ctx} {h:qaa} {w:World} (s:HSim c h w) (k:E.ok c h w) {T e sz ty:Nat} (hk:qaf P T=.slice e sz) (hpos:0<sz) (hbytes:qan P e≤2048) (hsize:qar P e=sz) (hke:qaf P e≠.other)
  {i:Nat} {rows news:List (List AV)} (hi:h[i]?=some (.arr e sz rows)) {v u:Value} (hv:c.sl i rows.length=some v) (hu:DRel c.D (.slice news) u) (hrow:∀ r,r∈news→r.length=sz) (hlen:rows.length+news.length≤68719476736) :
  ∃ v' w' c',(Builtin.append_ #[T,T] ty #[v,u]).run P w=.ok v' w'∧c.le c'∧HSim c' (h.set i (.arr e sz (rows++news))) w'∧E.ok c' (h.set i (.arr e sz (rows++news))) w'∧Rel c' (.own i (rows.length+news.length)) v':=by
 obtain ⟨iT,dT,zT,_,hund,_,hkd,_⟩:=qas hk (by simp)
 obtain ⟨rfl,ie,hie,hies⟩:=qbj hkd
 obtain ⟨ie',de,ze,hie',_,hze,_,hts,_,hzs,hz1⟩:=qas (P:=P) (t:=e) rfl hke
 rw [hie] at hie'
 cases hie'
 subst hies
 have hb:ie.bytes≤2048:=by
  have:qan P e=ie.bytes:=by
   unfold qan
   have hne:=hke
   unfold qaf at hne
   split at hne
   ·
    rename_i x hx
    obtain ⟨i2,d2,z2,g1,_,_,rfl,_⟩:=ti_spec hx
    rw [hie] at g1;cases g1
    simp [hx]
   · exact (hne rfl).elim
  omega
 obtain ⟨v0,vs,h1,ho1,hmax,h2,h3,h4,h5,h6⟩:=s.obj i _ hi
 rw [hv] at h1
 cases h1
 obtain ⟨ad,cap,rfl,hsrc⟩:=data_row s hrow hpos hu
 by_cases hn:news=[]
 ·
  subst hn
  have hrun:=append_zero (P:=P) (w:=w) T ty e ie hund hie v rows.length vs h2 ad cap
  refine ⟨v,w,c,by simpa using hrun,.refl c,?_,?_,?_⟩
  · rw [List.append_nil,set_same hi];exact s
  · rw [List.append_nil,set_same hi];exact k
  · exact .own i _ v (by simpa using hv) ho1
 ·
  rcases hsrc with hn' | ⟨b,off,rfl,us,hul,hcell,hone,hdat⟩
  · exact (hn hn').elim
  ·
   have hm:0<news.length:=by cases news with | nil=>exact (hn rfl).elim | cons=>simp
   obtain ⟨v',w',hrun,ho',hown',hos,ht,hou,hsz,htwo⟩:=append_two (P:=P) (w:=w) T ty e ie ze hund hie hze hzs hpos v rows.length vs h2 ⟨b,off,none⟩ news.length cap us hul (fun j u hu=>by rw [addLit];exact hcell j u hu) hone hm
    (by simp only [maxLen];omega) (by
     have:(rows.length+news.length) * ie.bytes≤68719476736 * 2048:=Nat.mul_le_mul hlen hb
     omega)
   obtain ⟨c',hle,hs',hk',hr'⟩:=arr_grow (E:=E) s k (w':=w') hi hv rfl hm hlen hrow hdat ho' (fun xs hxs=>by
    have:xs=vs:=by
     rcases hxs.2 with ⟨e1,e2⟩ | ⟨g,cp,cur,e1,_,e3,_,_,_,e4⟩
     ·
      have a1:xs=[]:=List.eq_nil_of_length_eq_zero (by rw [hxs.1,e2];simp)
      have a2:vs=[]:=List.eq_nil_of_length_eq_zero (by rw [h2.1,e2];simp)
      rw [a1,a2]
     ·
      rcases h2.2 with ⟨f1,f2⟩ | ⟨g',cp',cur',f1,_,f3,_,_,_,f4⟩
      · rw [f1] at e1;cases e1
      ·
       rw [f1] at e1
       cases e1
       rw [f3] at e3
       cases e3
       rw [← e4,← f4]
    rw [this];exact hown') hos ht hou hsz htwo
   exact ⟨v',w',c',hrun,hle,hs',hk',hr'⟩
theorem append_uobj {c:Ctx} {h:qaa} {w:World} (s:HSim c h w) (k:E.ok c h w) {T e sz ty:Nat} (hk:qaf P T=.slice e sz) (hpos:0<sz) (hbytes:qan P e≤2048) (hsize:qar P e=sz) (hke:qaf P e≠.other)
  {i:Nat} {rows news:List (List AV)} (hi:h[i]?=some (.uarr e sz rows)) {v u:Value} (hv:c.sl i rows.length=some v) (hu:DRel c.D (.slice news) u) (hrow:∀ r,r∈news→r.length=sz) (hlen:rows.length+news.length≤68719476736) :
  ∃ v' w' c',(Builtin.append_ #[T,T] ty #[v,u]).run P w=.ok v' w'∧c.le c'∧HSim c' (h.set i (.uarr e sz (rows++news))) w'∧E.ok c' (h.set i (.uarr e sz (rows++news))) w'∧Rel c' (.own i (rows.length+news.length)) v':=by
 obtain ⟨iT,dT,zT,_,hund,_,hkd,_⟩:=qas hk (by simp)
 obtain ⟨rfl,ie,hie,hies⟩:=qbj hkd
 obtain ⟨ie',de,ze,hie',_,hze,_,hts,_,hzs,hz1⟩:=qas (P:=P) (t:=e) rfl hke
 rw [hie] at hie'
 cases hie'
 subst hies
 have hb:ie.bytes≤2048:=by
  have:qan P e=ie.bytes:=by
   unfold qan
   have hne:=hke
   unfold qaf at hne
   split at hne
   ·
    rename_i x hx
    obtain ⟨i2,d2,z2,g1,_,_,rfl,_⟩:=ti_spec hx
    rw [hie] at g1;cases g1
    simp [hx]
   · exact (hne rfl).elim
  omega
 obtain ⟨v0,vs,h1,ho1,hmax,h2,h3,h4,h5⟩:=s.obj i _ hi
 rw [hv] at h1
 cases h1
 obtain ⟨ad,cap,rfl,hsrc⟩:=data_row s hrow hpos hu
 by_cases hn:news=[]
 ·
  subst hn
  have hrun:=append_zero (P:=P) (w:=w) T ty e ie hund hie v rows.length vs h2 ad cap
  refine ⟨v,w,c,by simpa using hrun,.refl c,?_,?_,?_⟩
  · rw [List.append_nil,set_same hi];exact s
  · rw [List.append_nil,set_same hi];exact k
  · exact .own i _ v (by simpa using hv) ho1
 ·
  rcases hsrc with hn' | ⟨b,off,rfl,us,hul,hcell,hone,hdat⟩
  · exact (hn hn').elim
  ·
   have hm:0<news.length:=by cases news with | nil=>exact (hn rfl).elim | cons=>simp
   obtain ⟨v',w',hrun,ho',hown',hos,ht,hou,hsz,htwo⟩:=append_two (P:=P) (w:=w) T ty e ie ze hund hie hze hzs hpos v rows.length vs h2 ⟨b,off,none⟩ news.length cap us hul (fun j u hu=>by rw [addLit];exact hcell j u hu) hone hm
    (by simp only [maxLen];omega) (by
     have:(rows.length+news.length) * ie.bytes≤68719476736 * 2048:=Nat.mul_le_mul hlen hb
     omega)
   obtain ⟨c',hle,hs',hk',hr'⟩:=uarr_grow (E:=E) s k (w':=w') (rows':=rows++news) (us:=vs++us) hi hv (by simp;omega) (by simpa using hlen) (fun r hr=>by
    rcases List.mem_append.1 hr with hr | hr
    · exact h4 r hr
    · exact hrow r hr) (DRel.flat h5 h2.1 hdat) ho' (by simpa using hown') hos ht hou hsz htwo
   exact ⟨v',w',c',hrun,hle,hs',hk',by simpa using hr'⟩
theorem src_rel {c:Ctx} {h:qaa} {w:World} (s:HSim c h w) {x:AV} {rows:List (List AV)} (hx:srcRows h x=some rows) {u:Value} (hr:Rel c x u):DRel (c.share h w).D (.slice rows) u:=by
 have hn:=norm_rel s hr
 cases x with
 | slice r=>simp only [srcRows,Option.some.injEq] at hx;subst hx;exact Rel.slice_inv hn
 | nils=>simp only [srcRows,Option.some.injEq] at hx;subst hx;exact Rel.slice_inv hn
 | own i n =>
  simp only [srcRows] at hx
  simp only [AV.norm] at hn
  split at hx
  ·
   rename_i e sz rows' hi
   split at hx
   ·
    rename_i hlen
    simp only [Option.some.injEq] at hx
    subst hx
    simp only [hi,hlen,if_true] at hn
    exact Rel.slice_inv hn
   · cases hx
  · cases hx
 | _=>cases hx
theorem append_ok {c:Ctx} {h:qaa} {w:World} (s:HSim c h w) (k:E.ok c h w) {T ty:Nat} {x y:AV} {v u:Value} (hx:Rel c x v) (hy:Rel c y u) {K:AV→qaa→Prop} (hK:aAppend P T x y h K) :
  ∃ r h' v' w' c',K r h'∧(Builtin.append_ #[T,T] ty #[v,u]).run P w=.ok v' w'∧c.le c'∧HSim c' h' w'∧E.ok c' h' w'∧Rel c' r v':=by
 unfold aAppend at hK
 split at hK
 ·
  rename_i e sz news hk hsrc
  obtain ⟨hrow,hpos,hbytes,hsize,hke,hK⟩:=hK
  have hu:=src_rel s hsrc hy
  obtain ⟨s1,k1⟩:=share_ok s k
  have hle1:=share_le c h w
  split at hK
  ·
   obtain ⟨hlen,hK⟩:=hK
   have hv:v=.slice none 0 0:=by
    cases hx with
    | data h=>cases h
    | nils=>rfl
   subst hv
   obtain ⟨s2,k2⟩:=arr_nil s1 k1 e sz
   have hle2:(c.share h w).le ((c.share h w).addSl h.length 0 (.slice none 0 0)):=Ctx.addSl_le ((s1.dom _ (Nat.le_refl _)).2 0)
   obtain ⟨v',w',c',hrun,hle3,s3,k3,r3⟩:=append_obj (P:=P) (ty:=ty) s2 k2 hk hpos hbytes hsize hke (i:=h.length) (rows:=[]) (news:=news) (by simp) (v:=.slice none 0 0) (by simp [Ctx.addSl]) (hu.mono hle2.D) hrow (by simpa using hlen)
   refine ⟨_,_,v',w',c',hK,hrun,hle1.trans (hle2.trans hle3),by simpa using s3,by simpa using k3,by simpa using r3⟩
  ·
   rename_i i n
   split at hK
   ·
    rename_i e' sz' rows hi
    obtain ⟨rfl,rfl,rfl,hlen,hK⟩:=hK
    have hv:c.sl i rows.length=some v:=by
     cases hx with
     | data h=>cases h
     | own i n v h ho=>exact h
    obtain ⟨v',w',c',hrun,hle3,s3,k3,r3⟩:=append_obj (P:=P) (ty:=ty) s1 k1 hk hpos hbytes hsize hke (i:=i) (rows:=rows) (news:=news) hi (v:=v) (hle1.sl _ _ _ hv) hu hrow hlen
    exact ⟨_,_,v',w',c',hK,hrun,hle1.trans hle3,s3,k3,r3⟩
   ·
    rename_i e' sz' rows hi
    obtain ⟨rfl,rfl,rfl,hlen,hK⟩:=hK
    have hv:c.sl i rows.length=some v:=by
     cases hx with
     | data h=>cases h
     | own i n v h ho=>exact h
    obtain ⟨v',w',c',hrun,hle3,s3,k3,r3⟩:=append_uobj (P:=P) (ty:=ty) s1 k1 hk hpos hbytes hsize hke (i:=i) (rows:=rows) (news:=news) hi (v:=v) (hle1.sl _ _ _ hv) hu hrow hlen
    exact ⟨_,_,v',w',c',hK,hrun,hle1.trans hle3,s3,k3,r3⟩
   · exact hK.elim
  · exact hK.elim
 · exact hK.elim
end
end Go.Abs

namespace Go.Abs
section
variable {P:Program} {E:Ent}
theorem RelL.app {c:Ctx} {xs ys:List AV} {us vs:Array Value} (h:RelL c xs us) (k:RelL c ys vs):RelL c (xs++ys) (us++vs) :=
 ⟨by simp [h.1,k.1],fun j x v hx hv=>by
  by_cases hj:j<xs.length
  ·
   rw [List.getElem?_append_left hj] at hx
   rw [Array.getElem?_append_left (by rw [h.1];exact hj)] at hv
   exact h.2 j x v hx hv
  ·
   rw [List.getElem?_append_right (by omega)] at hx
   rw [Array.getElem?_append_right (by rw [h.1];omega),h.1] at hv
   exact k.2 _ x v hx hv⟩
theorem RelL.map {c:Ctx} {g:Operand→AV} {ev:Operand→Value} {l:Array Operand} (hg:∀ x,x∈l.toList→Rel c (g x) (ev x)):RelL c (l.toList.map g) (l.map ev) :=
 ⟨by simp,(relMap hg).2⟩
theorem RelL.norm {c:Ctx} {h:qaa} {w:World} (s:HSim c h w) {xs:List AV} {vs:Array Value} (k:RelL c xs vs):RelL (c.share h w) (qa4 h xs) vs :=
 ⟨by rw [normL_eq];simp [k.1],fun j x v hx hv=>by
  rw [normL_eq] at hx
  simp only [List.getElem?_map,Option.map_eq_some_iff] at hx
  obtain ⟨y,hy,rfl⟩:=hx
  exact norm_rel s (k.2 j y v hy hv)⟩
theorem run_enter {o:Oper} {ev:Operand→Value} {w:World} {f:Operand} {args:Array Operand} {ts:Array TypeId} (ho:o.op=.call { callee:=.value f,args:=args,argTypes:=ts }) {fid:FuncId} {us vs:Array Value}
  (hf:ev f=.func (.func fid) us vs) (hen:Enter P fid):(execOp ev o).run P w=.ok (.enter fid (us++args.map ev++vs)) w:=by
 obtain ⟨fn,h1,h2,h3⟩:=hen
 have hb:fn.body.isNone=false:=by
  cases hbd:fn.body with
  | none=>rw [hbd] at h2;simp at h2
  | some b=>rfl
 simp only [execOp,ho,resolve,hf,Deferred.ofValue,invoke,callFunc,Sem.run_bind,Sem.run_pure,Result.andThen_ok,run_program,h1,h3,hb,Bool.false_eq_true,if_false]
theorem qcc (w:World) (o:Obj):(newObj o).run P w=.ok w.heap.size (w.alloc o):=rfl
theorem call_ok {c:Ctx} {e:Env} {a:Act} {w:World} (s:Sim E.N c e a w) (k:E.ok c e.h w) {o:Oper} {f:Operand} {args:Array Operand} {ts:Array TypeId} (ho:o.op=.call { callee:=.value f,args:=args,argTypes:=ts })
  (hall:qax e true (f::args.toList)) {fid:FuncId} {first caps:List AV} (hf:e.getS f=.fn (.func fid) first caps) {R:AEnd→qaa→Prop}
  (hc:ACalls P fid (qa4 e.h (first++args.toList.map e.getS++caps)) e.h R) {next:Act→World→Prop} {Q:Exit→Act→World→Prop}
  (hret:∀ v h' c' w' u,R (.ret v) h'→c.le c'→HSim c' h' w'→E.ok c' h' w'→Rel c' v u→next (a.put o.dst u) w')
  (hpan:∀ v h' c' w' u,R (.panic v) h'→c.le c'→HSim c' h' w'→E.ok c' h' w'→Rel c' v u→Q (.panic [⟨u,false,false⟩]) a w'):o.wp P a w next Q:=by
 have hrel:=qbd s hall
 have hfr:=hrel f (by simp)
 rw [hf] at hfr
 obtain ⟨us,vs,hev,h1,h2⟩:∃ us vs,a.eval f=.func (.func fid) us vs∧RelL c first us∧RelL c caps vs:=by
  generalize a.eval f=z at hfr
  cases hfr with
  | data h=>cases h
  | fn f ys xs us vs hl' hl h' h=>exact ⟨us,vs,rfl,⟨hl',h'⟩,⟨hl,h⟩⟩
 have hargs:RelL c (args.toList.map e.getS) (args.map a.eval):=RelL.map fun x hx=>hrel x (by simp [hx])
 have hlist:=(RelL.app (RelL.app h1 hargs) h2).norm s.hs
 obtain ⟨s1,k1⟩:=share_ok s.hs k
 unfold Oper.wp
 rw [run_enter ho hev hc.1]
 refine (hc.2 _ w _ s1 hlist).mono ?_
 rintro en w' ⟨r,h',c',hR,hE,hs',hk'⟩
 have hle:c.le c':=(share_le c e.h w).trans hk'.ext
 have hok:E.ok c' h' w':=k1.trans hk'
 cases r with
 | ret v =>
  cases en with
  | returned u=>exact hret v h' c' w' u hR hle hs' hok hE
  | _=>simp [EndR] at hE
 | panic v =>
  cases en with
  | panicked ch =>
   cases ch with
   | nil=>simp [EndR] at hE
   | cons p l =>
    cases l with
    | nil =>
     obtain ⟨u,r,g⟩:=p
     cases r<;>cases g<;>simp only [EndR] at hE
     exact hpan v h' c' w' u hR hle hs' hok hE
    | cons=>simp [EndR] at hE
  | _=>simp [EndR] at hE
theorem litRows_spec {h:qaa} {sz:Nat}:∀ {k:Nat} {l:List (Nat×AV)} {rows:List (List AV)},litRows h sz k l=some rows →
  rows.length=l.length∧∀ (i:Nat) (p:Nat×AV),l[i]?=some p→p.1=k+i∧p.2.cellsOk=true∧p.2.cells.length=sz∧rows[i]?=some (qa4 h p.2.cells)∧∀ x,x∈qa4 h p.2.cells→x.isData=true
 | k,[],rows,hr=>by simp only [litRows,Option.some.injEq] at hr;subst hr;simp
 | k,(i,x)::l,rows,hr=>by
  simp only [litRows] at hr
  split at hr
  ·
   rename_i hc
   obtain ⟨rfl,h1,h2,h3⟩:=hc
   simp only [Option.map_eq_some_iff] at hr
   obtain ⟨rows',hr',rfl⟩:=hr
   obtain ⟨h4,h5⟩:=litRows_spec hr'
   refine ⟨by simp [h4],fun j p hp=>?_⟩
   cases j with
   | zero=>simp at hp;subst hp;exact ⟨by simp,h1,h2,by simp,List.all_eq_true.1 h3⟩
   | succ j =>
    obtain ⟨g1,g2⟩:=h5 j p (by simpa using hp)
    exact ⟨by omega,by simpa using g2⟩
  · cases hr
theorem isData_rel {c:Ctx} {x:AV} {v:Value} (h:x.isData=true) (hr:Rel c x v):DRel c.D x v:=by
 cases x with
 | val u=>obtain rfl:=hr.val_inv;exact .val v h (val_ok hr)
 | slice rows=>exact hr.slice_inv
 | _=>simp [AV.isData] at h
theorem lit_ok {c:Ctx} {h:qaa} {w:World} (s:HSim c h w) (k:E.ok c h w) {T el sz n:Nat} (hk:qaf P T=.slice el sz) {parts:List (Nat×AV)} {qs:Array (Nat×Value)} (hl:parts.length=qs.size)
  (hpq:∀ (j:Nat) (p:Nat×AV) (q:Nat×Value),parts[j]?=some p→qs[j]?=some q→p.1=q.1∧Rel c p.2 q.2) {rows:List (List AV)} (hr:litRows h sz 0 parts=some rows) (hn:rows.length=n) (hpos:0<sz) (h24:n * sz≤16777216)
  (hke:qaf P el≠.other) (hsize:qar P el=sz) :
  ∃ v w' c',(Instr.buildSlice T n qs).run P w=.ok v w'∧c.le c'∧HSim c' h w'∧E.ok c' h w'∧Rel c' (.slice rows) v:=by
 obtain ⟨iT,dT,zT,_,hund,_,hkd,_⟩:=qas hk (by simp)
 obtain ⟨rfl,ie,hie,hies⟩:=qbj hkd
 obtain ⟨ie',de,ze,hie',_,hze,_,hts,_,hzs,hz1⟩:=qas (P:=P) (t:=el) rfl hke
 rw [hie] at hie'
 cases hie'
 subst hies
 obtain ⟨hrl,hspec⟩:=litRows_spec hr
 have hpn:parts.length=n:=by omega
 have hnl:∀ xs:List AV,(qa4 h xs).length=xs.length:=fun xs=>by rw [normL_eq];simp
 -- the zero cells
 let zs:Array Value:=(Array.range (n * ie.size)).map (ze.cells[· % ze.cells.size]!)
 -- filling
 have hfill:∀ (m:Nat) (qs':List (Nat×Value)) (cs:Array Value),cs.size=n * ie.size→m+qs'.length=n→(∀ j q,qs'[j]?=some q→q.1=m+j∧q.2.cells.size=ie.size) →
   ∃ cs',Instr.fill (fun i=>some (i * ie.size,ie.size)) cs qs'=some cs'∧cs'.size=n * ie.size∧(∀ k,k<m * ie.size→cs'[k]?=cs[k]?) ∧
    ∀ j q t u,qs'[j]?=some q→q.2.cells[t]?=some u→cs'[(m+j) * ie.size+t]?=some u:=by
  intro m qs'
  induction qs' generalizing m with
  | nil=>intro cs hcs _ _;exact ⟨cs,rfl,hcs,fun _ _=>rfl,by simp⟩
  | cons q qs' ih =>
   intro cs hcs hm hq
   obtain ⟨i,v⟩:=q
   obtain ⟨h1,h2⟩:=hq 0 (i,v) rfl
   simp only [Nat.add_zero] at h1 h2
   subst h1
   have hle:i * ie.size+ie.size≤n * ie.size:=by
    have:(i+1) * ie.size≤n * ie.size:=Nat.mul_le_mul_right _ (by simp at hm;omega)
    rw [Nat.add_mul] at this;omega
   let cs1:=v.cells.zipIdx.foldl (fun (cs:Array Value) (p:Value×Nat)=>cs.setIfInBounds (i * ie.size+p.2) p.1) cs
   have hcs1:cs1=(v.cells.toList.zipIdx 0).foldl (fun (cs:Array Value) (p:Value×Nat)=>cs.setIfInBounds (i * ie.size+p.2) p.1) cs:=by
    show v.cells.zipIdx.foldl _ cs=_
    rw [← Array.foldl_toList,Array.toList_zipIdx]
   obtain ⟨g1,g2⟩:=setAll_get (i * ie.size) v.cells.toList 0 cs
   have g2:=g2 (by simp [h2];omega)
   obtain ⟨cs',f1,f2,f3,f4⟩:=ih (i+1) cs1 (by rw [hcs1,g1];exact hcs) (by simp at hm;omega) (fun j q hq'=>by
    have:=hq (j+1) q (by simpa using hq')
    exact ⟨by omega,this.2⟩)
   refine ⟨cs',?_,f2,fun k hk=>?_,fun j q t u hq' hu=>?_⟩
   ·
    simp only [Instr.fill]
    rw [if_neg (by rw [h2,hcs];simp;omega)]
    exact f1
   · rw [f3 k (by rw [Nat.add_mul];omega),hcs1,g2 k,if_neg (by omega)]
   ·
    cases j with
    | zero =>
     simp at hq'
     subst hq'
     have ht:t<ie.size:=by rw [← h2];exact (Array.getElem?_eq_some_iff.1 hu).1
     have e1:(i+1) * ie.size=i * ie.size+ie.size:=by rw [Nat.add_mul];omega
     rw [Nat.add_zero,f3 _ (by omega),hcs1,g2,if_pos (by simp [h2];omega)]
     simpa using hu
    | succ j =>
     have:=f4 j q t u (by simpa using hq') hu
     rw [show i+(j+1)=i+1+j from by omega]
     exact this
 obtain ⟨cs',hf1,hf2,_,hf4⟩:=hfill 0 qs.toList zs (by simp [zs]) (by simp;omega) (fun j q hq=>by
  have hjlt:j<parts.length:=by rw [hl];have:=(List.getElem?_eq_some_iff.1 hq).1;simpa using this
  obtain ⟨e1,e2⟩:=hpq j parts[j] q (by simp [hjlt]) (by simpa using hq)
  obtain ⟨p1,p2,p3,_⟩:=hspec j parts[j] (by simp [hjlt])
  exact ⟨by omega,by rw [(e2.cells p2).1,p3]⟩)
 obtain ⟨c',hle,s1,k1,hD⟩:=data_ok (E:=E) (share_ok s k).1 (share_ok s k).2 cs' el
 have hlit:¬ (n * ie.size > 2 ^ 24):=by simp;omega
 have hzv:(zeroValue el).run P w=.ok ze w:=by simp [zeroValue,run_typeInfo _ hie,hze]
 refine ⟨.slice (some ⟨w.heap.size,0,none⟩) n n,w.alloc (.cells cs' el),c',?_,(share_le c h w).trans hle,s1,k1,?_⟩
 ·
  simp only [Instr.buildSlice,Sem.run_bind,qay hund,Result.andThen_ok,qba hie,if_neg hlit]
  by_cases h0:n * ie.size=0
  ·
   have hz0:(Array.range (n * ie.size)).map (fun x=>(#[]:Array Value)[x % (#[]:Array Value).size]!)=zs:=by
    simp [zs,h0]
   simp only [h0,if_true,Sem.run_pure,Result.andThen_ok,Sem.run_bind]
   rw [h0] at hz0
   simp only [hz0,hf1,newRow,Sem.run_bind,qcc,Result.andThen_ok,Sem.run_pure]
  ·
   simp only [if_neg h0,Sem.run_bind,hzv,Result.andThen_ok,Sem.run_pure]
   have hzz:(Array.range (n * ie.size)).map (fun x=>ze.cells[x % ze.cells.size]!)=zs:=rfl
   simp only [hzz,hf1,newRow,Sem.run_bind,qcc,Result.andThen_ok,Sem.run_pure]
 ·
  have hcell:∀ (i j:Nat) (r:List AV) (x:AV),rows[i]?=some r→r[j]?=some x→∃ v,c'.D w.heap.size (i * ie.size+j)=some v∧DRel c'.D x v:=by
   intro i j r x hr' hx
   have hilt:i<parts.length:=by rw [← hrl];exact (List.getElem?_eq_some_iff.1 hr').1
   obtain ⟨p1,p2,p3,p4,p5⟩:=hspec i parts[i] (by simp [hilt])
   rw [p4] at hr'
   cases hr'
   have hqlt:i<qs.size:=by omega
   obtain ⟨e1,e2⟩:=hpq i parts[i] qs[i] (by simp [hilt]) (by simp [hqlt])
   obtain ⟨q1,q2⟩:=e2.cells p2
   have hx':=hx
   rw [normL_eq,List.getElem?_map,Option.map_eq_some_iff] at hx'
   obtain ⟨y,hy,hyx⟩:=hx'
   have hjlt:j<qs[i].2.cells.size:=by rw [q1];exact (List.getElem?_eq_some_iff.1 hy).1
   obtain ⟨r1,r2⟩:=q2 j y qs[i].2.cells[j] hy (by simp [hjlt])
   have h6:=hf4 i qs[i] j qs[i].2.cells[j] (by simp [hqlt]) (by simp [hjlt])
   rw [Nat.zero_add] at h6
   refine ⟨_,hD _ _ h6,?_⟩
   have h7:=norm_rel s r1
   rw [hyx] at h7
   exact (isData_rel (p5 x (List.mem_of_getElem? hx)) h7).mono hle.D
  have hdr:DRel c'.D (.slice rows) (.slice (some ⟨w.heap.size,0,none⟩) rows.length n):=.slice rows w.heap.size 0 n ie.size (fun i j=>(c'.D w.heap.size (i * ie.size+j)).getD undef) (fun r hr'=>by
    obtain ⟨i,hi⟩:=List.getElem?_of_mem hr'
    have hilt:i<parts.length:=by rw [← hrl];exact (List.getElem?_eq_some_iff.1 hi).1
    obtain ⟨p1,p2,p3,p4,p5⟩:=hspec i parts[i] (by simp [hilt])
    rw [p4] at hi
    cases hi
    rw [hnl,p3]) (by
    rw [hn]
    have:n * 1≤n * ie.size:=Nat.mul_le_mul_left _ hpos
    omega) (by omega) (fun i j r x hr' hx=>by
    obtain ⟨v,hv,_⟩:=hcell i j r x hr' hx
    rw [Nat.zero_add,hv];rfl) fun i j r x hr' hx=>by
    obtain ⟨v,hv,hd⟩:=hcell i j r x hr' hx
    rw [hv];exact hd
  rw [hn] at hdr
  exact .data hdr
end
end Go.Abs

namespace Go.Abs
theorem splice_get {α:Type} (l us:List α) (p k:Nat) (h:p+us.length≤l.length) :
  (l.take p++us++l.drop (p+us.length))[k]?=if k<p then l[k]? else if k<p+us.length then us[k - p]? else l[k]?:=by
 have hm:min p l.length=p:=by omega
 by_cases h1:k<p
 · rw [if_pos h1,List.append_assoc,List.getElem?_append_left (by simp;omega),List.getElem?_take,if_pos h1]
 ·
  rw [if_neg h1]
  by_cases h2:k<p+us.length
  ·
   rw [if_pos h2,List.append_assoc,List.getElem?_append_right (by simp;omega),List.getElem?_append_left (by simp;omega)]
   simp only [List.length_take,hm]
  ·
   rw [if_neg h2,List.getElem?_append_right (by simp;omega),List.getElem?_drop]
   simp only [List.length_append,List.length_take,hm]
   congr 1;omega
section
variable {P:Program} {E:Ent}
theorem ustore_run {c:Ctx} {h:qaa} {w:World} (hs:HSim c h w) (k:E.ok c h w) {o:Oper} {ev:Operand→Value} {T:TypeId} {ad x:Operand} (hop:o.op=.store T ad x) {i n sz r q e:Nat} {rows:List (List AV)} {y:AV}
  (hra:Rel c (.optr i n sz r q) (ev ad)) (hrx:Rel c y (ev x)) (hi:h[i]?=some (.uarr e sz rows)) (hn:rows.length=n) (hr:r<rows.length) (hok:y.cellsOk=true) (hdat:(qa4 h y.cells).all AV.isData=true)
  (hsz:y.cells.length=qar P T) (hk:qaf P T≠.other) (hle:q+y.cells.length≤sz) :
  ∃ w',(execOp ev o).run P w=.ok .skip w'∧HSim c (h.set i (.uarr e sz (rows.set r ((rows.getD r []).take q++qa4 h y.cells++(rows.getD r []).drop (q+y.cells.length))))) w' ∧
   E.ok c (h.set i (.uarr e sz (rows.set r ((rows.getD r []).take q++qa4 h y.cells++(rows.getD r []).drop (q+y.cells.length))))) w':=by
 obtain ⟨b,o',len,cap,hav,hv⟩:=optr_inv hra
 subst hn
 obtain ⟨v',vs,h1,ho1,hmax,h2,h3,h4,h5⟩:=hs.obj i _ hi
 rw [hv] at h1
 cases h1
 rcases h2.2 with ⟨e1,_⟩ | ⟨g,cp,cur,e1,_,hg,hnc,hcm,hcs,htake⟩
 · cases e1
 ·
  cases e1
  obtain ⟨c1,c2⟩:=hrx.cells hok
  obtain ⟨iT,d,z,t1,t2,t3,t4,t5,_⟩:=qas (P:=P) (t:=T) rfl hk
  have hone:∀ v,v∈(ev x).cells.toList→v.oneCell'=true:=fun v hv=>by
   obtain ⟨j,hj⟩:=List.getElem?_of_mem hv
   have hlt:j<y.cells.length:=by rw [← c1];have:=(List.getElem?_eq_some_iff.1 hj).1;simpa using this
   exact (c2 j _ v (by simp [hlt];rfl) (by simpa using hj)).2
  have hul:(ev x).cells.toList.length=y.cells.length:=by simpa using c1
  have hrs:(r+1) * sz≤rows.length * sz:=Nat.mul_le_mul_right _ hr
  rw [Nat.add_mul,Nat.one_mul] at hrs
  have hcs':rows.length * sz≤cur.size:=by rw [hcs];exact Nat.mul_le_mul_right _ hnc
  have hp:(r * sz+q)+(ev x).cells.toList.length≤cur.size:=by rw [hul];omega
  have hrun:=run_storeCells_at P b (r * sz+q) e (ev x).cells.toList 0 cur w hg (by omega) hone
  simp only [Nat.add_zero] at hrun
  have hsize:(ev x).cells.size=iT.size:=by rw [c1,hsz,t5]
  have hst:(execOp ev o).run P w=.ok .skip (w.setRow b (cur.toList.take (r * sz+q)++(ev x).cells.toList++cur.toList.drop (r * sz+q+(ev x).cells.toList.length)).toArray):=by
   simp only [execOp,hop,Instr.storeAt,hav,Nat.zero_add,Instr.sureAddr,storeVar,Sem.run_bind,Sem.run_pure,Result.andThen_ok,qba t1,hsize,ne_eq,not_true_eq_false,if_false,hrun]
  have hoth:∀ g,g≠b→(w.setRow b (cur.toList.take (r * sz+q)++(ev x).cells.toList++cur.toList.drop (r * sz+q+(ev x).cells.toList.length)).toArray).heap[g]?=w.heap[g]?:=fun g hg=>setRow_other w b g _ hg
  have hsz':(w.setRow b (cur.toList.take (r * sz+q)++(ev x).cells.toList++cur.toList.drop (r * sz+q+(ev x).cells.toList.length)).toArray).heap.size=w.heap.size:=by simp [World.setRow]
  have hbo:qah c i (.uarr e sz rows)=some b:=by simp [qah,hv,Value.ownBlock]
  let rows':=rows.set r ((rows.getD r []).take q++qa4 h y.cells++(rows.getD r []).drop (q+y.cells.length))
  have hbo':qah c i (.uarr e sz rows')=some b:=by simp [qah,rows',hv,Value.ownBlock]
  have hrow0:rows[r]?=some (rows.getD r []):=by simp [List.getD,hr]
  have hrl:(rows.getD r []).length=sz:=h4 _ (List.mem_of_getElem? hrow0)
  have hnl:(qa4 h y.cells).length=y.cells.length:=by simp [normL_eq]
  have holt:∀ j ob b',(h.set i (.uarr e sz rows'))[j]?=some ob→qah c j ob=some b'→∃ o0,h[j]?=some o0∧qah c j o0=some b':=fun j ob b' hj hb'=>by
   rcases qae hj with ⟨rfl,rfl⟩ | ⟨hne,h1⟩
   · exact ⟨_,hi,by rw [hbo,← hbo',hb']⟩
   · exact ⟨ob,h1,hb'⟩
  have hvs:∀ kk,kk<rows.length * sz→vs[kk]?=cur.toList[kk]?:=fun kk hkk=>by rw [← htake,List.getElem?_take,if_pos hkk]
  have hnew:ObjR c (w.setRow b (cur.toList.take (r * sz+q)++(ev x).cells.toList++cur.toList.drop (r * sz+q+(ev x).cells.toList.length)).toArray) i (.uarr e sz rows'):=by
   refine ⟨.slice (some ⟨b,0,none⟩) rows.length cap,(cur.toList.take (r * sz+q)++(ev x).cells.toList++cur.toList.drop (r * sz+q+(ev x).cells.toList.length)).take (rows.length * sz),by simp [rows',hv],rfl,by simpa [rows'] using hmax,⟨?_,.inr ⟨b,cap,_,by simp [rows'],Nat.zero_le _,setRow_heap w b cur _ e (0,0) hg,by simpa [rows'] using hnc,hcm,?_,by simp [rows']⟩⟩,by simpa [rows'] using h3,fun r' hr'=>?_,fun i' j row' x' hrw hx'=>?_⟩
   · simp [rows',hul];omega
   · simp [hul];omega
   ·
    rcases List.mem_or_eq_of_mem_set hr' with h6 | h6
    · exact h4 r' h6
    · rw [h6];simp only [List.length_append,List.length_take,List.length_drop,hnl,hrl];omega
   ·
    have hlt:i'<rows.length:=by have:=(List.getElem?_eq_some_iff.1 hrw).1;simpa [rows'] using this
    have his:(i'+1) * sz≤rows.length * sz:=Nat.mul_le_mul_right _ hlt
    rw [Nat.add_mul,Nat.one_mul] at his
    have hget:=splice_get cur.toList (ev x).cells.toList (r * sz+q) (i' * sz+j) (by simpa using hp)
    rcases qae hrw with ⟨rfl,rfl⟩ | ⟨hne,h6⟩
    ·
     have hj:j<sz:=by
      have:=(List.getElem?_eq_some_iff.1 hx').1
      simp only [List.length_append,List.length_take,List.length_drop,hnl,hrl] at this;omega
     rw [List.getElem?_take,if_pos (by omega),hget]
     have hg2:=splice_get (rows.getD i' []) (qa4 h y.cells) q j (by rw [hnl,hrl];exact hle)
     rw [hnl] at hg2
     rw [hg2] at hx'
     by_cases hj1:j<q
     ·
      rw [if_pos hj1] at hx'
      rw [if_pos (by omega),← hvs _ (by omega)]
      exact h5 i' j _ x' hrow0 hx'
     ·
      rw [if_neg hj1] at hx'
      rw [if_neg (by omega)]
      by_cases hj2:j<q+y.cells.length
      ·
       rw [if_pos hj2] at hx'
       rw [if_pos (by omega)]
       have hjc:j - q<y.cells.length:=by omega
       have hxm:=List.mem_of_getElem? hx'
       have e2:i' * sz+j - (i' * sz+q)=j - q:=by omega
       rw [e2]
       simp only [normL_eq,List.getElem?_map,Option.map_eq_some_iff] at hx'
       obtain ⟨y0,hy0,rfl⟩:=hx'
       have hlt2:j - q<(ev x).cells.size:=by rw [c1];exact hjc
       refine ⟨(ev x).cells[j - q],by simp [hlt2],isData_rel (List.all_eq_true.1 hdat _ hxm) (norm_rel hs (c2 _ y0 _ hy0 (by simp [hlt2])).1)⟩
      ·
       rw [if_neg hj2] at hx'
       rw [if_neg (by omega),← hvs _ (by omega)]
       exact h5 i' j _ x' hrow0 hx'
    ·
     have hrow':=h4 row' (List.mem_of_getElem? h6)
     have hj:j<sz:=by rw [← hrow'];exact (List.getElem?_eq_some_iff.1 hx').1
     rw [List.getElem?_take,if_pos (by omega),hget]
     rcases Nat.lt_or_ge i' r with h7 | h7
     ·
      have:(i'+1) * sz≤r * sz:=Nat.mul_le_mul_right _ h7
      rw [Nat.add_mul,Nat.one_mul] at this
      rw [if_pos (by omega),← hvs _ (by omega)]
      exact h5 i' j row' x' h6 hx'
     ·
      have:(r+1) * sz≤i' * sz:=Nat.mul_le_mul_right _ (by omega)
      rw [Nat.add_mul,Nat.one_mul] at this
      rw [if_neg (by omega),if_neg (by omega),← hvs _ (by omega)]
      exact h5 i' j row' x' h6 hx'
  refine ⟨_,hst,⟨fun g j v hD=>?_,fun j hj=>hs.dom j (by simpa using hj),fun j ob hj=>?_,fun j j' ob o2 b' hj hj' hb1 hb2=>?_,fun j ob b' m v hj hb1 hD=>?_⟩,⟨k.edom,k.ext,k.blk0,by simpa using k.len,k.os,k.tape,k.output,by rw [hsz'];exact k.size,fun g hg' hno=>?_,fun j ob b' hj hb1=>?_,k.dold⟩⟩
  ·
   have hg':g≠b:=fun e2=>by
    subst e2
    exact hs.sep i _ g j v hi hbo hD
   rw [World.cell?_of_block (w:=w) (hoth g hg')]
   exact hs.data g j v hD
  ·
   rcases qae hj with ⟨rfl,rfl⟩ | ⟨hne,h6⟩
   · exact hnew
   ·
    refine (hs.obj j ob h6).keep (.refl c) (fun _=>rfl) fun b' hb'=>hoth b' fun e2=>hne ?_
    subst e2
    exact hs.apart j i ob _ b' h6 hi hb' hbo
  ·
   obtain ⟨o3,g1,g1'⟩:=holt j ob b' hj hb1
   obtain ⟨o4,g2,g2'⟩:=holt j' o2 b' hj' hb2
   exact hs.apart j j' o3 o4 b' g1 g2 g1' g2'
  ·
   rcases qae hj with ⟨rfl,rfl⟩ | ⟨hne,h6⟩
   ·
    have hb1':qah c j (.uarr e sz rows')=some b':=hb1
    rw [hbo'] at hb1'
    have h9:(AObj.uarr e sz rows).shares m:=hs.sep j (.uarr e sz rows) b' m v hi (by rw [hbo,hb1']) hD
    exact h9
   · exact hs.sep j ob b' m v h6 hb1 hD
  ·
   have hne:g≠b:=fun e2=>by
    subst e2
    rcases k.newobj i _ g hi hbo with ⟨o0,h6,h7⟩ | h6
    · exact hno i o0 h6 h7
    · omega
   rw [hoth g hne]
   exact k.frame g hg' hno
  ·
   obtain ⟨o3,g1,g1'⟩:=holt j ob b' hj hb1
   exact k.newobj j o3 b' g1 g1'
end
end Go.Abs
