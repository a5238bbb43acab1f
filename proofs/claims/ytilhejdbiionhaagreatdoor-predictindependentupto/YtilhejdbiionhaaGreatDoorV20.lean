/- Part 20 of a proof: AbsRo, AbsOf, AbsZl, AbsOd, AbsOh, AbsOi, AbsZg, AbsZj, AbsZi, AbsZh, AbsRs -/
import Derived.Shelf.Sort.Plain
import Derived.Shelf.Slices.In.SortNone
import Derived.Shelf.Spec.SlicesInsert
import Derived.Lib.SliceRun
import Derived.Test.YtilhejdbiionhaaGreatDoorV08
import Derived.Test.YtilhejdbiionhaaGreatDoorV13
import Derived.Test.YtilhejdbiionhaaGreatDoorV14
import Derived.Test.YtilhejdbiionhaaGreatDoorV16
import Derived.Test.YtilhejdbiionhaaGreatDoorV17
import Derived.Test.YtilhejdbiionhaaGreatDoorV19
set_option linter.all false

namespace Go.Abs
open Go.Proofs Go.Shelf Go.Sort Go.Lib
section
variable {P:Program} {E:Ent}
theorem putRow_heapS {w:World} {g:Nat} {cur:Array Value} {e:TypeId} {d:Array (List UInt8)} (hg:w.heap[g]?=some (.cells cur e (0,0))):(putRow encStr w g 0 d).heap[g]?=some (.cells (putCells encStr 0 d cur) e (0,0)) ∧
  ∀ b,b≠g→(putRow encStr w g 0 d).heap[b]?=w.heap[b]?:=by
 constructor
 · simp only [putRow,mapBlock,Array.getElem?_modify,if_true,hg,Option.map_some,onCells]
 ·
  intro b hb;simp only [putRow,mapBlock,Array.getElem?_modify,if_neg (Ne.symm hb)]
abbrev sR (x:ByteArray):List AV:=[.val (.string x)]
theorem enc_of (l:List (List UInt8)):l.map encStr=(ofBys l).map Value.string:=by simp [ofBys]
theorem strs_cells {c:Ctx} {l:List ByteArray} {us:List Value} (hl:us.length=l.length * 1) (h:∀ (i j:Nat) (r:List AV) (x:AV),(l.map sR)[i]?=some r→r[j]?=some x→∃ u,us[i * 1+j]?=some u∧DRel c.D x u):us=l.map (Value.string):=by
 apply List.ext_getElem?;intro k;rcases Nat.lt_or_ge k l.length with hk | hk
 ·
  obtain ⟨u,hu,hd⟩:=h k 0 _ _ (by rw [List.getElem?_map,List.getElem?_eq_getElem hk];rfl) rfl;rw [Nat.mul_one,Nat.add_zero] at hu;cases hd;rw [hu,List.getElem?_map,List.getElem?_eq_getElem hk];rfl
 · rw [List.getElem?_eq_none (by omega),List.getElem?_eq_none (by simpa using hk)]
theorem cells_strs {D:Nat→Nat→Option Value} (l:List ByteArray) (ho:∀ z,z∈l→strOk (.string z)=true) (rest:List Value):∀ (i j:Nat) (r:List AV) (x:AV),(l.map sR)[i]?=some r→r[j]?=some x→∃ u,(l.map (Value.string)++rest)[i * 1+j]?=some u∧DRel D x u:=fun i j r x hr hx=>by
 rw [List.getElem?_map] at hr;obtain ⟨z,hz,rfl⟩:=Option.map_eq_some_iff.1 hr;cases j with
 | succ j=>simp [sR] at hx
 | zero =>
  simp [sR] at hx;subst hx;have hlt:=(List.getElem?_eq_some_iff.1 hz).1;exact ⟨_,by rw [Nat.mul_one,Nat.add_zero,List.getElem?_append_left (by simpa using hlt),List.getElem?_map,hz];rfl,.val _ rfl (ho z (List.mem_of_getElem? hz))⟩
theorem holds_strs {w:World} {g cap:Nat} {cur:Array Value} {T:TypeId} {l:List ByteArray} (hh:w.heap[g]?=some (.cells cur T (0,0))) (htake:cur.toList.take (l.length * 1)=l.map (Value.string)) (hcur:cur.size=cap * 1) (hnc:l.length≤cap):Holds encStr w g 0 (bysL l).toArray:=by
 intro j hj;have hj':j<l.length:=by simpa [bysL] using hj
 have e1:cur[j]?=some (.string l[j]):=by
  have:(cur.toList.take (l.length * 1))[j]?=(l.map (Value.string))[j]?:=by rw [htake]
  rw [List.getElem?_take,if_pos (by omega),Array.getElem?_toList,List.getElem?_map,List.getElem?_eq_getElem hj'] at this;exact this
 refine ⟨?_,by simp [World.frozen?,hh]⟩;rw [cell_of_row _ _ _ _ _ _ hh,Nat.zero_add,e1];simp [bysL,List.getElem?_eq_getElem hj']
theorem acalls_sortS {ρ:Ren} (Ly:Lays.n190 P ρ) (hEn:Enter P (ρ.f 190)) {h:qab} {i T:Nat} {l:List ByteArray} (hi:h[i]?=some (.uarr T 1 (l.map sR))) :
  ACalls P (ρ.f 190) [.own i l.length] h fun r h'=>r=.ret (.tuple [])∧h'=h.set i (.uarr T 1 ((qdo l).map sR)):=by
 refine ⟨hEn,fun c w vs hs ha=>?_⟩;have hvs:vs = #[vs[0]!]:=by
  have:=ha.1;apply Array.ext
  · simpa using this
  ·
   intro k h1 h2;have:k=0:=by simp at h2;exact h2
   subst this;simp [getElem!_pos,h1]
 obtain ⟨v,rfl⟩:∃ v,vs = #[v]:=⟨_,hvs⟩
 have hr:=ha.2 0 _ v rfl rfl;obtain ⟨hv,us,hown,hrl,hcells⟩:=own_inv hs hi (by simp) hr;have hus:us=l.map (Value.string):=strs_cells (by rw [hown.1]) hcells;have hml:=sortS_len l;have hso:∀ z,z∈qdo l→strOk (.string z)=true:=fun z hz=>by
  obtain ⟨k,hk,rfl⟩:=List.mem_iff_getElem.1 (mem_sortS.1 hz);obtain ⟨u,hu,hd⟩:=hcells k 0 _ _ (by rw [List.getElem?_map,List.getElem?_eq_getElem hk];rfl) rfl;cases hd;assumption
 have hsl:((bysL l).mergeSort fun x y=>decide (x≤y)).map encStr=(qdo l).map Value.string:=enc_of _;rcases hown.2 with ⟨rfl,hn⟩ | ⟨g,cap,cur,rfl,_,hh,hnc,hcm,hcur,htake⟩
 ·
  have hl0:l=[]:=List.eq_nil_of_length_eq_zero hn;subst hl0;refine (Any.slices_Sort_string_none Ly none 0 w).mono ?_;rintro e w' ⟨rfl,rfl⟩;have e0:qdo []=[]:=by simp [qdo,bysL,ofBys]
  refine ⟨_,_,c,⟨rfl,rfl⟩,.tuple [] #[] rfl (by simp),?_,?_⟩
  · rw [e0,qcz hi];exact hs
  · rw [e0,qcz hi];exact .refl 0 hs
 ·
  have hH:=holds_strs hh (by rw [htake,hus]) hcur hnc;have hlen:l.length≤68719476736:=by obtain ⟨_,_,_,_,_,_,h3,_⟩:=hs.obj i _ hi;simpa using h3
  have hglt:g<w.heap.size:=(Array.getElem?_eq_some_iff.1 hh).1;refine (show Calls P (ρ.f 190) #[.slice (some ⟨g,0,none⟩) l.length cap] w _ from by have:=(Any.slices_Sort_string Ly g 0 cap (bysL l) w hH hglt (by simp [bysL];omega));rwa [show (bysL l).length=l.length by simp [bysL]] at this).mono ?_;rintro e w' ⟨rfl,n,os,rfl⟩;obtain ⟨D,hD⟩:∃ D,((bysL l).mergeSort fun x y=>decide (x≤y)).toArray=D:=⟨_,rfl⟩
  have hDl:D.toList.map encStr=(qdo l).map Value.string:=by rw [← hD];simpa using hsl
  have hDs:D.size=l.length:=by have:=congrArg List.length hDl;simpa [hml] using this
  rw [hD];obtain ⟨p1,p2⟩:=putRow_heapS (w:=Sort.ahead w n) (d:=D) hh;have hsize:(putRow encStr (Sort.ahead w n) g 0 D).heap.size=w.heap.size:=by simp [Sort.ahead]
  have hold:∀ b,b<w.heap.size→(grow (putRow encStr (Sort.ahead w n) g 0 D) os).heap[b]?=(putRow encStr (Sort.ahead w n) g 0 D).heap[b]?:=fun b hb=>by
   simp only [grow];rw [Array.getElem?_append_left (by rw [hsize];exact hb)]
  have hput:(putCells encStr 0 D cur).toList.take (l.length * 1)=(qdo l).map Value.string:=by
   rw [← hDl];apply List.ext_getElem?;intro k;rw [List.getElem?_take];by_cases hk:k<l.length * 1
   ·
    rw [if_pos hk,Array.getElem?_toList];have hkc:k<cur.size:=by omega
    have hk2:k<D.size:=by omega
    simp only [putCells,Array.getElem?_mapIdx,Array.getElem?_eq_getElem hkc,Option.map_some,Nat.zero_le,Nat.zero_add,true_and,Nat.sub_zero,hk2,if_true,List.getElem?_map,Array.getElem?_toList];simp [hk2]
   · rw [if_neg hk,List.getElem?_eq_none (by simp;omega)]
  obtain ⟨s1,k1⟩:=uarr_over (E:=⟨0,c,h,w⟩) hs (.refl 0 hs) (w':=grow (putRow encStr (Sort.ahead w n) g 0 D) os) (rows':=(qdo l).map sR)
   (us:=(qdo l).map Value.string) hi (by simpa using hv) (by simp [hml]) (by simp)
   ⟨by simp [hml],.inr ⟨g,cap,_,by simp,Nat.zero_le _,(hold g hglt).trans p1,by simpa using hnc,hcm,by simp [putCells,hcur],by simpa using hput⟩⟩
   (by simpa using cells_strs (D:=c.D) (qdo l) hso []) rfl rfl rfl (by simp [grow,Sort.ahead]) (fun b hb hlt=>by rw [hold b hlt,p2 b hb];rfl)
  exact ⟨_,_,c,⟨rfl,rfl⟩,.tuple [] #[] rfl (by simp),s1,k1⟩
end
end Go.Abs

namespace Go.Abs
open Go.Proofs
section
variable {P:Program} {E:Ent}
end
end Go.Abs

namespace Go.Abs
section
variable {P:Program} {E:Ent}
end
end Go.Abs

namespace Go.Abs
open Go.Proofs
section
variable {P:Program} {E:Ent}
end
end Go.Abs

namespace Go.Abs
open Go.Proofs
end Go.Abs

namespace Go.Abs
open Go.Proofs
theorem nilu_wk (E:Ent) (e:Env) (i t sz:Nat) (hi:qbb e.t i=.nils):Wk E e ⟨(i,.own e.h.length 0)::e.t,e.h++[.uarr t sz []]⟩:=fun c a w s k=>by
 obtain ⟨hle,s1,k1⟩:=uarr_nil s.hs k t sz;refine ⟨_,⟨s.defers,s.size,fun j=>?_,s1⟩,k1⟩;simp only [qbb];by_cases hj:i=j
 ·
  subst hj;simp only [beq_self_eq_true,cond_true];have:=s.tmps i;rw [hi] at this;rw [nils_inv this];exact .own _ _ _ (by simp [Ctx.addSl]) rfl
 ·
  have:(i == j)=false:=by simpa using hj
  simp only [this,cond_false];exact (s.tmps j).mono hle
end Go.Abs

namespace Go.Abs
theorem acalls_nilu {P:Program} {f:FuncId} {rest:List AV} {h:qab} {R:AEnd→qab→Prop} (t sz:Nat) (k:ACalls P f (.own h.length 0::rest) (h++[.uarr t sz []]) R):ACalls P f (.nils::rest) h R:=by
 refine ⟨k.1,fun c w vs hs ha=>?_⟩;obtain ⟨hle,s1,k1⟩:=uarr_nil hs (.refl 0 hs) t sz;have ha1:RelL (c.addSl h.length 0 (.slice none 0 0)) (.own h.length 0::rest) vs:=by
  refine ⟨by simpa using ha.1,fun j x v hx hv=>?_⟩;cases j with
  | zero =>
   have:=nils_inv (ha.2 0 .nils v rfl hv);simp only [List.getElem?_cons_zero,Option.some.injEq] at hx;subst hx;rw [this];exact .own _ _ _ (by simp [Ctx.addSl]) rfl
  | succ j =>
   simp only [List.getElem?_cons_succ] at hx;exact (ha.2 (j+1) x v (by simpa using hx) hv).mono hle
 refine (k.2 _ w vs s1 ha1).mono ?_;rintro e w' ⟨r,h',c',hR,hE,hs',ok'⟩;exact ⟨r,h',c',hR,hE,hs',k1.trans ok'⟩
theorem acalls_ret {P:Program} {f:FuncId} {args:List AV} {h h1 h2:qab} {x y:AV} (hw:∀ E:Ent,E.h=h→Wk E ⟨[(0,x)],h1⟩ ⟨[(0,y)],h2⟩) (k:ACalls P f args h fun r h'=>r=.ret x∧h'=h1):ACalls P f args h fun r h'=>r=.ret y∧h'=h2:=by
 refine ⟨k.1,fun c w vs hs ha=>?_⟩;refine (k.2 c w vs hs ha).mono ?_;rintro e w' ⟨r,h',c',⟨rfl,rfl⟩,hE,hs',ok'⟩;cases e with
 | returned v =>
  have hE:Rel c' x v:=hE;obtain ⟨c1,s1,o1⟩:=hw ⟨1,c,h,w⟩ rfl c' ⟨#[v],[]⟩ w' ⟨rfl,rfl,fun i=>by
   cases i with
   | zero=>simpa [qbb] using hE
   | succ i=>simp [qbb];exact .top _,hs'⟩ ⟨ok'.edom,ok'.ext,ok'.blk0,ok'.len,ok'.os,ok'.tape,ok'.output,ok'.size,ok'.frame,ok'.newobj,ok'.dold⟩
  have h1:Rel c1 y v:=by simpa [qbb] using s1.tmps 0
  exact ⟨_,_,c1,⟨rfl,rfl⟩,h1,s1.hs,⟨o1.edom,o1.ext,o1.blk0,o1.len,o1.os,o1.tape,o1.output,o1.size,o1.frame,o1.newobj,o1.dold⟩⟩
 | _=>exact hE.elim
theorem acalls_nilret {P:Program} {f:FuncId} {rest:List AV} {h:qab} {t sz:Nat} {rows:List (List AV)} {n:Nat} (hn:n=rows.length) (k:ACalls P f (.own h.length 0::rest) (h++[.uarr t sz []]) fun r h'=>r=.ret (.own h.length n)∧h'=h++[.uarr t sz rows]) (hu:hUnder h.length h=true) :
  ACalls P f (.nils::rest) h fun r h'=>r=.ret (.slice rows)∧h'=h:=by
 subst hn;refine acalls_ret (x:=.own h.length rows.length) (h1:=h++[.uarr t sz rows]) (fun E hE=>?_) (acalls_nilu t sz k);refine (qd5 E _ (i:=h.length) (t:=t) (sz:=sz) (rows:=rows) (by simp)).trans ?_;refine (norm_wk E _).trans ?_;exact Wk.mk (by simp [hE]) (by simpa [go_sem] using hwk.app0 _) (by simpa using hu) (by simp [go_sem,AV.norm,wkT])
end Go.Abs

namespace Go.Abs
section
variable {P:Program} {E:Ent}
theorem run_build0 {T el:TypeId} {sz:Nat} (hk:qah P T=.slice el sz) (hke:qah P el≠.other) (hsize:qav P el=sz) (hpos:0<sz) (w:World) :
  (Instr.buildSlice T 0 #[]).run P w=.ok (.slice (some ⟨w.heap.size,0,none⟩) 0 0) (w.alloc (.cells #[] el)):=by
 obtain ⟨iT,dT,zT,_,hund,_,hkd,_⟩:=qau hk (by simp);obtain ⟨rfl,ie,hie,hies⟩:=qbl hkd;obtain ⟨ie',de,ze,hie',_,hze,_,hts,_,hzs,hz1⟩:=qau (P:=P) (t:=el) rfl hke;rw [hie] at hie';cases hie';simp only [Instr.buildSlice,Sem.run_bind,qaz hund,Result.andThen_ok,qbe hie,hies];have h24:¬ (0 * sz > 2 ^ 24):=by simp
 rw [if_neg h24,if_pos (by simp)];simp only [Sem.run_bind,Sem.run_pure,Result.andThen_ok];have hf:Instr.fill (fun i=>some (i * sz,sz)) ((Array.range (0 * sz)).map ((#[]:Array Value)[· % (#[]:Array Value).size]!)) []=some #[]:=by
  simp [Instr.fill]
 simp only [hf,newRow,Sem.run_bind,qcs,Result.andThen_ok,Sem.run_pure]
theorem arr_lit0 {c:Ctx} {h:qab} {w:World} (s:HSim c h w) (k:E.ok c h w) (e:TypeId) (sz:Nat) :
  c.le (c.addSl h.length 0 (.slice (some ⟨w.heap.size,0,none⟩) 0 0))∧HSim (c.addSl h.length 0 (.slice (some ⟨w.heap.size,0,none⟩) 0 0)) (h++[.arr e sz []]) (w.alloc (.cells #[] e)) ∧
   E.ok (c.addSl h.length 0 (.slice (some ⟨w.heap.size,0,none⟩) 0 0)) (h++[.arr e sz []]) (w.alloc (.cells #[] e)):=by
 obtain ⟨v0,hv0⟩:∃ v0,v0=Value.slice (some ⟨w.heap.size,0,none⟩) 0 0:=⟨_,rfl⟩
 rw [← hv0];have hle:c.le (c.addSl h.length 0 v0):=Ctx.addSl_le ((s.dom _ (Nat.le_refl _)).2 0);have hsl:∀ i,i<h.length→∀ m,(c.addSl h.length 0 v0).sl i m=c.sl i m:=fun i hi m=>by
  simp only [Ctx.addSl];rw [if_neg (by omega)]
 have hlt:∀ {i:Nat} {o:AObj},h[i]?=some o→i<h.length:=fun hi=>(List.getElem?_eq_some_iff.1 hi).1;have hnew:qag (c.addSl h.length 0 v0) h.length (.arr e sz [])=some w.heap.size:=by simp [qag,Ctx.addSl,hv0,Value.ownBlock]
 have hold:∀ b,b<w.heap.size→(w.alloc (.cells #[] e)).heap[b]?=w.heap[b]?:=fun b hb=>by first | exact heap_alloc_old w _ b hb | exact heap_alloc_old w _ hb
 refine ⟨hle,⟨fun b j v hD=>?_,fun i hi=>?_,fun i o hi=>?_,fun i j o o' b hi hj hb hb'=>?_,fun i o b j v hi hb hD=>?_⟩,⟨k.edom,k.ext.trans hle,k.blk0,by have:=k.len;simp;omega,k.os,k.tape,k.output,Nat.le_trans k.size (alloc_le w _),fun b hb hno=>?_,fun i o b hi hb=>?_,k.dold⟩⟩
 ·
  have hcell:=s.data b j v hD;have hb:b<w.heap.size:=World.block_lt_of_cell? w ⟨b,j,none⟩ hcell;rw [World.cell?_of_block (w:=w) (hold b hb)];exact hcell
 ·
  simp only [List.length_append,List.length_cons,List.length_nil] at hi;have:=s.dom i (by omega);refine ⟨this.1,fun m=>?_⟩;simp only [Ctx.addSl];rw [if_neg (by omega)];exact this.2 m
 ·
  rcases qax hi with h1 | ⟨rfl,rfl⟩
  · exact (s.obj i o h1).keep hle (hsl i (hlt h1)) fun b hb=>hold b ((s.obj i o h1).lt hb)
  ·
   refine ⟨v0,[],by simp [Ctx.addSl],by rw [hv0];rfl,fun m hm=>?_,by rw [hv0];exact World.ownsRow_made w #[] 0 (Nat.zero_le _) (Nat.zero_le _) (by simp),by simp,by simp,by simp,fun b j hb hj=>by simp at hj⟩;simp only [Ctx.addSl];rw [if_neg (by simp at hm;omega)];exact (s.dom _ (Nat.le_refl _)).2 m
 ·
  rcases qax hi with h1 | ⟨rfl,rfl⟩<;>rcases qax hj with h2 | ⟨rfl,rfl⟩
  ·
   rw [(s.obj i o h1).blk hle] at hb;rw [(s.obj j o' h2).blk hle] at hb';exact s.apart i j o o' b h1 h2 hb hb'
  ·
   rw [hnew] at hb';rw [(s.obj i o h1).blk hle] at hb;cases hb';have:=(s.obj i o h1).lt hb;omega
  ·
   rw [hnew] at hb;rw [(s.obj j o' h2).blk hle] at hb';cases hb;have:=(s.obj j o' h2).lt hb';omega
  · rfl
 ·
  have hD':c.D b j=some v:=hD;rcases qax hi with h1 | ⟨rfl,rfl⟩
  ·
   rw [(s.obj i o h1).blk hle] at hb;exact s.sep i o b j v h1 hb hD'
  ·
   rw [hnew] at hb;cases hb;rw [s.noD (Nat.le_refl _)] at hD';cases hD'
 · rw [hold b (Nat.lt_of_lt_of_le hb k.size)];exact k.frame b hb hno
 ·
  rcases qax hi with h1 | ⟨rfl,rfl⟩
  ·
   rw [(s.obj i o h1).blk hle] at hb;exact k.newobj i o b h1 hb
  ·
   rw [hnew] at hb;cases hb;exact .inr k.size
theorem wp_lit0 {c:Ctx} {e:Env} {a:Act} {w:World} (s:Sim E.N c e a w) (k:E.ok c e.h w) {ops:Array Oper} {rest:List Oper} {o1:Oper} {Q:Exit→Act→World→Prop} {T el:TypeId} {sz d1:Nat}
  (g1:o1.guard=none) (hd1:o1.dst=some d1) (hlt1:d1<E.N) (hop1:o1.op=.buildSlice T 0 #[])
  (hT:qah P T=.slice el sz) (hel:qah P el≠.other) (hsz:qav P el=sz) (hpos:0<sz)
  (hnext:∀ c' a' w',Sim E.N c' (({ e with h:=e.h++[.arr el sz []] }:Env).put o1.dst (.own e.h.length 0)) a' w'→E.ok c' (e.h++[.arr el sz []]) w'→wpList P ops Q rest a' w') :
  wpList P ops Q (o1::rest) a w:=by
 have hrun1:=run_build0 (P:=P) hT hel hsz hpos w;obtain ⟨hle,s1,k1⟩:=arr_lit0 (E:=E) s.hs k el sz;refine qdd (G:=true) (by simp [Region.wanted,g1]) (fun _=>?_) (fun h=>by cases h);refine qb0 (w':=w.alloc (.cells #[] el)) (v:=.slice (some ⟨w.heap.size,0,none⟩) 0 0) (by simp only [execOp,hop1,List.map_toArray,List.map_nil,Sem.run_bind,hrun1,Result.andThen_ok,Sem.run_pure]) ?_;refine hnext _ _ _ ?_ k1;exact s.put hle s1 (fun j hj=>by rw [hd1] at hj;cases hj;exact hlt1) (.own _ _ _ (by simp [Ctx.addSl]) rfl)
theorem wp_eqnil {c:Ctx} {e:Env} {a:Act} {w:World} (s:Sim E.N c e a w) {ops:Array Oper} {rest:List Oper} {o1:Oper} {Q:Exit→Act→World→Prop} {T T' el:TypeId} {sz:Nat} {x:Operand} {d1:Nat} {rows:List (List AV)}
  (g1:o1.guard=none) (hd1:o1.dst=some d1) (hlt1:d1<E.N) (hop1:o1.op=.binOp .eql T x (.const (.slice none 0 0)) T')
  (hT:qah P T=.slice el sz) (hx:qaw e true [x]) (hxv:e.getS x=.slice rows)
  (hnext:∀ (b:Bool) a',(b=true→rows=[])→Sim E.N c (e.put o1.dst (.val (.bool b))) a' w→wpList P ops Q rest a' w) :
  wpList P ops Q (o1::rest) a w:=by
 obtain ⟨iT,dT,zT,_,hund,_,hkd,_⟩:=qau hT (by simp);obtain ⟨rfl,ie,hie,hies⟩:=qbl hkd;have hrx:=qbd s hx x (by simp);rw [hxv] at hrx;have hd:=Rel.slice_inv hrx;obtain ⟨A,n,cp,hv,hA⟩:∃ (A:Option Addr) (n cp:Nat),a.eval x=.slice A n cp∧(A.isNone=true→rows=[]):=by
  generalize a.eval x=v at hd;cases hd with
  | nil=>exact ⟨none,0,0,rfl,fun _=>rfl⟩
  | slice rows b off cap sz' g h1 h2 h3 h4 h5=>exact ⟨_,_,_,rfl,fun h=>by simp at h⟩
  | empty a=>exact ⟨_,_,_,rfl,fun _=>rfl⟩
 refine qdd (G:=true) (by simp [Region.wanted,g1]) (fun _=>?_) (fun h=>by cases h);refine qb0 (w':=w) (v:=.bool A.isNone) (by
  have h1:=Lib.run_eql_slice_nil (P:=P) w T el A n cp 0 0 hund;have hc:a.eval (.const (.slice none 0 0))=.slice none 0 0:=rfl;simp only [execOp,hop1,hv,hc,eqGuard,Sem.run_bind,Sem.run_pure,Result.andThen_ok];simp only [h1,Result.andThen_ok,Bool.not_true,Bool.false_eq_true,if_false,Sem.run_pure]) ?_
 exact hnext A.isNone _ hA (s.put (.refl c) s.hs (fun j hj=>by rw [hd1] at hj;cases hj;exact hlt1) (.val _))
end
end Go.Abs

namespace Go.Abs
section
variable {P:Program} {E:Ent}
theorem wp_callR {c:Ctx} {e:Env} {a:Act} {w:World} (s:Sim E.N c e a w) (k:E.ok c e.h w) {ops:Array Oper} {rest:List Oper} {o1:Oper} {Q:Exit→Act→World→Prop} {fid:FuncId} {args:Array Operand} {ts:Array TypeId} {d1:Nat} {x:AV} {h2:qab}
  (g1:o1.guard=none) (hd1:o1.dst=some d1) (hlt1:d1<E.N) (ho:o1.op=.call { callee:=.value (.func fid),args:=args,argTypes:=ts })
  (hall:qaw e true args.toList) (hc:ACalls P fid (args.toList.map e.getS) e.h fun r h'=>r=.ret x∧h'=h2)
  (hnext:∀ c' a' w',Sim E.N c' (({ e with h:=h2 }:Env).put o1.dst x) a' w'→E.ok c' h2 w'→wpList P ops Q rest a' w') :
  wpList P ops Q (o1::rest) a w:=by
 have hrel:=qbd s hall;have hargs:RelL c (args.toList.map e.getS) (args.map a.eval):=RelL.map fun x hx=>hrel x hx;refine qdd (G:=true) (by simp [Region.wanted,g1]) (fun _=>?_) (fun h=>by cases h);unfold Oper.wp;rw [run_enter (us:=#[]) (vs:=#[]) ho rfl hc.1];simp only [Array.empty_append,Array.append_empty];refine (hc.2 c w _ s.hs hargs).mono ?_;rintro en w' ⟨r,h',c',⟨rfl,rfl⟩,hE,hs',hk'⟩;cases en with
 | returned u=>exact hnext c' _ w' (s.put hk'.ext hs' (fun j hj=>by rw [hd1] at hj;cases hj;exact hlt1) hE) (k.trans hk')
 | _=>simp [EndR] at hE
end
end Go.Abs

namespace Go.Abs
section
variable {P:Program} {E:Ent}
theorem wp_lit1 {c:Ctx} {e:Env} {a:Act} {w:World} (s:Sim E.N c e a w) (k:E.ok c e.h w) {ops:Array Oper} {rest:List Oper} {o1:Oper} {Q:Exit→Act→World→Prop} {T el:TypeId} {x:Operand} {d1:Nat}
  (g1:o1.guard=none) (hd1:o1.dst=some d1) (hlt1:d1<E.N) (hop1:o1.op=.buildSlice T 1 #[(0,x)])
  (hT:qah P T=.slice el 1) (hel:qah P el≠.other) (hsz:qav P el=1) (hx:qaw e true [x]) {v:Value} (hxv:e.getS x=.val v) (hone:v.oneCell'=true)
  (hnext:∀ c' a' w',Sim E.N c' (({ e with h:=e.h++[.arr el 1 [[.val v]]] }:Env).put o1.dst (.own e.h.length 1)) a' w'→E.ok c' (e.h++[.arr el 1 [[.val v]]]) w'→wpList P ops Q rest a' w') :
  wpList P ops Q (o1::rest) a w:=by
 have hrx:=qbd s hx x (by simp);rw [hxv] at hrx;have hvx:a.eval x=v:=hrx.val_inv;have hrun1:=run_build1 (P:=P) hT hel hsz hone w;obtain ⟨hle0,s0,k0⟩:=uarr_nil s.hs k el 1;have hi0:(e.h++[AObj.uarr el 1 []])[e.h.length]?=some (.uarr el 1 []):=by simp
 obtain ⟨c1,hle1,s1,k1,r1⟩:=uarr_grow (E:=E) s0 k0 (w':=w.alloc (.cells #[v] el)) (v':=.slice (some ⟨w.heap.size,0,none⟩) 1 1) (rows':=[[.val v]]) (us:=[v]) hi0 (v:=.slice none 0 0) (by simp [Ctx.addSl]) (by simp) (by simp) (by simp) (fun i' j r x' hr hx'=>by
   cases i' with
   | zero =>
    simp at hr;subst hr;cases j with
    | zero=>simp at hx';subst hx';exact ⟨v,rfl,.val v hone (val_ok hrx)⟩
    | succ j=>simp at hx'
   | succ i'=>simp at hr) rfl ⟨rfl,.inr ⟨w.heap.size,1,#[v],rfl,Nat.zero_le _,heap_alloc_new _ _,Nat.le_refl _,by decide,rfl,rfl⟩⟩ rfl rfl rfl (by simp) (.inr ⟨rfl,fun k hk=>heap_alloc_old _ _ hk⟩)
 have hset:(e.h++[AObj.uarr el 1 []]).set e.h.length (.uarr el 1 [[.val v]])=e.h++[.uarr el 1 [[.val v]]]:=by simp
 rw [hset] at s1 k1;obtain ⟨c2,hle2,s2,k2⟩:=demote_ok (E:=E) s1 k1 (i:=e.h.length) (e:=el) (sz:=1) (rows:=[[.val v]]) (by simp);have hset2:(e.h++[AObj.uarr el 1 [[.val v]]]).set e.h.length (.arr el 1 [[.val v]])=e.h++[.arr el 1 [[.val v]]]:=by simp
 rw [hset2] at s2 k2;refine qdd (G:=true) (by simp [Region.wanted,g1]) (fun _=>?_) (fun h=>by cases h);refine qb0 (w':=w.alloc (.cells #[v] el)) (v:=.slice (some ⟨w.heap.size,0,none⟩) 1 1) (by simp only [execOp,hop1,List.map_toArray,List.map_cons,List.map_nil,hvx,Sem.run_bind,hrun1,Result.andThen_ok,Sem.run_pure]) ?_;refine hnext c2 _ _ ?_ k2;exact s.put (hle0.trans (hle1.trans hle2)) s2 (fun j hj=>by rw [hd1] at hj;cases hj;exact hlt1) (r1.mono hle2)
end
end Go.Abs

namespace Go.Abs
section
variable {P:Program} {E:Ent}
def opsU (P:Program) (N:Nat) (u:List Nat) (h0:qab):Nat→List (Option Tmp)→List Oper→Env→List DR→(List DR→Env→Prop)→Prop
 | _,_,[],e,acc,K=>K acc e
 | k,ds,o::l,e,acc,K=>stepDG P N ds o e acc fun e acc r=>(if k∈u then TPend (fun h=>stepDG P N ds o ⟨e.t,h⟩ acc fun _ _ r'=>r'=r) ⟨⟩ h0 else True)∧opsU P N u h0 (k+1) (ds++[o.dst]) l (r.next e) (acc++[r]) K
theorem opsU_wit {P:Program} {N:Nat} {u:List Nat} {h0:qab} {K:List DR→Env→Prop}:∀ {l:List Oper} {k:Nat} {ds:List (Option Tmp)} {e:Env} {acc:List DR},opsU P N u h0 k ds l e acc K →
  ∃ R:List DR,R.length=l.length∧(∀ (j:Nat) (o:Oper),l[j]?=some o→qd0 P N (ds++(l.take j).map (·.dst)) o (qai e (R.take j)) (fun r=>R[j]?=some r)) ∧
   (∀ (j:Nat) (o:Oper),k+j∈u→l[j]?=some o→qd0 P N (ds++(l.take j).map (·.dst)) o ⟨(qai e (R.take j)).t,h0⟩ (fun r=>R[j]?=some r))∧K (acc++R) (qai e R)
 | [],k,ds,e,acc,h=>⟨[],rfl,fun j o hj=>by simp at hj,fun j o _ hj=>by simp at hj,by simpa [qai,opsU] using h⟩
 | o::l,k,ds,e,acc,h=>by
  obtain ⟨r,h1,h2,h3⟩:=stepD_wit (stepDG_D (K:=fun e acc r=>(if k∈u then TPend (fun h=>stepDG P N ds o ⟨e.t,h⟩ acc fun _ _ r'=>r'=r) ⟨⟩ h0 else True)∧opsU P N u h0 (k+1) (ds++[o.dst]) l (r.next e) (acc++[r]) K) h);obtain ⟨R,hl,hs,hu,hK⟩:=opsU_wit h3;refine ⟨r::R,by simp [hl],fun j o' hj=>?_,fun j o' hk hj=>?_,by simpa [qai] using hK⟩
  ·
   cases j with
   | zero =>
    simp at hj;subst hj;simpa [qai,eq_comm] using h1
   | succ j =>
    have:=hs j o' (by simpa using hj);simpa [qai,List.append_assoc] using this
  ·
   cases j with
   | zero =>
    simp at hj;subst hj;rw [Nat.add_zero] at hk;rw [if_pos hk] at h2;unfold TPend at h2;have:=stepDG_D h2;simpa [qai,eq_comm] using this
   | succ j =>
    have:=hu j o' (by rwa [show k+1+j=k+(j+1) by omega]) (by simpa using hj);simpa [qai,List.append_assoc] using this
def TRCall (P:Program) (fid:FuncId) (args:List AV) (e:Env) (KA:AV→qab→Prop) (_:Tag KA):Prop:=∃ (r:AV) (h2:qab),ACalls P fid args e.h (fun x h'=>x=.ret r∧h'=h2)∧KA r h2
theorem trcall {P:Program} {fid:FuncId} {args:List AV} {e:Env} {KA:AV→qab→Prop} {t1:Tag KA} {r:AV} {h2:qab} (h:ACalls P fid args e.h fun x h'=>x=.ret r∧h'=h2) (k:KA r h2):TRCall P fid args e KA t1:=⟨r,h2,h,k⟩
def callKB (P:Program) (N:Nat) (Q:AExit→Env→Prop) (u:List Nat) (tl:List Oper) (ds:List (Option Tmp)) (l:List Oper) (e:Env) (acc:List DR) (pd:qab→Prop):Prop :=
 match l with
 | []=>False
 | o::l =>
  match o.op with
  | .call { callee:=.value f,args,.. } =>
   gB ds e o.guard=some true∧qdy N o.dst∧acc.all DR.isQ=true∧qaw e true (f::args.toList)∧match e.getS f with
   | .fn (.func fid) first caps=>TRCall P fid (qbf e.h (first++args.toList.map e.getS++caps)) e
     (fun r h2=>pd h2∧opsU P N u e.h (ds.length+1) (ds++[o.dst]) l ((⟨o.dst,optV o.guard true r,.quiet none⟩:DR).next ⟨e.t,h2⟩) (acc++[⟨o.dst,optV o.guard true r,.quiet none⟩]) fun R e1=>R.all DR.isQ=true∧opsG P N Q (ds++o.dst::l.map (·.dst)) tl ⟨e1.t,h2⟩) ⟨⟩
   | _=>False
  | _=>False
def checkKB (m jc:Nat) (u:List Nat) (l:List Oper):Bool :=
 let b:=Region.before (l.take m).toArray
 decide (m≤l.length)&&decide (jc<m)&&drawB (l.take m)&&tailB m l &&
 ((List.range m).all fun k=>k == jc||(decide (k<jc)&&(ordB b k jc||u.contains k))||(decide (jc<k)&&(ordB b jc k||u.contains k)))
theorem awp_drawKB {id:Nat} (m jc:Nat) (u:List Nat) {l:List Oper} {Q:AExit→Env→Prop} {e:Env} (hm:P.follows .mixedOrders=true) (hB:checkKB m jc u l=true)
  (h:opsK1 P E.N u (callKB P E.N Q u (l.drop m)) jc 0 [] (l.take m) e [] fun _=>True):AWp P E (.region id l.toArray true) Q e:=by
 simp only [checkKB,Bool.and_eq_true,decide_eq_true_eq] at hB;obtain ⟨⟨⟨⟨hml,hjm⟩,hdB⟩,hT⟩,hO⟩:=hB;have hok:=drawOk_of hdB;obtain ⟨R1,pd,hR1,hn,hs1,hK,hp⟩:=opsK1_wit h;simp only [List.nil_append] at hs1 hK hp;have hlen:(l.take m).length=m:=by simp;omega
 have hd:(l.take m).drop jc=(l.take m)[jc]'(by omega)::(l.take m).drop (jc+1):=List.drop_eq_getElem_cons (by omega);generalize hoc:(l.take m)[jc]'(by omega)=oc at hd;have hoc':(l.take m)[jc]?=some oc:=by rw [← hoc];exact List.getElem?_eq_getElem _
 rw [hd] at hK;simp only [callKB] at hK;split at hK
 rotate_left
 · exact hK.elim
 rename_i f args ats hop;obtain ⟨hg,hdst,hQ1,hall,hK⟩:=hK;have hq1:=allQ_iff.1 hQ1;split at hK
 rotate_left
 · exact hK.elim
 rename_i fid first caps hf
 obtain ⟨r,h2,hc,hKA⟩:=hK;have hord:∀ k,k<m→k≠jc→(k<jc∧(ordB (Region.before (l.take m).toArray) k jc=true∨k∈u))∨(jc<k∧(ordB (Region.before (l.take m).toArray) jc k=true∨k∈u)):=fun k hk hne=>by
  have:=List.all_eq_true.1 hO k (List.mem_range.2 hk);simp only [Bool.or_eq_true,beq_iff_eq,Bool.and_eq_true,decide_eq_true_eq,List.contains_iff_mem] at this;rcases this with (h1 | h1) | h1
  · exact (hne h1).elim
  · exact .inl h1
  · exact .inr h1
 have hops:oc.op.operands.toList=f::args.toList:=by
  rw [hop];simp [Op.operands,Call.operands]
 -- the results behind the call
 obtain ⟨h3,h4⟩:=hKA;have hdl:(((l.take m).take jc).map (·.dst)).length=jc:=by rw [List.length_map,List.length_take];omega
 obtain ⟨R2,hl2,g2,gu,g3⟩:=opsU_wit h4;rw [hdl] at gu;obtain ⟨g4,g5⟩:=g3;rw [List.all_append,List.all_append,Bool.and_eq_true,Bool.and_eq_true] at g4;have hq2:=allQ_iff.1 g4.2;have hd2:∀ (j:Nat) (r':DR),R2[j]?=some r'→∃ o,((l.take m).drop (jc+1))[j]?=some o∧r'.dst=o.dst:=fun j r' hj=>by
  have hlt:j<((l.take m).drop (jc+1)).length:=by rw [← hl2];exact (List.getElem?_eq_some_iff.1 hj).1
  obtain ⟨_,r'',k1,k2,_⟩:=qdf (g2 j _ (List.getElem?_eq_getElem hlt));rw [hj] at k2;cases k2;exact ⟨_,List.getElem?_eq_getElem hlt,k1⟩
 have e1:((l.take m).take jc).map (·.dst)++oc.dst::((l.take m).drop (jc+1)).map (·.dst)=(l.take m).map (·.dst):=by
  have h5:=List.take_append_drop jc (l.take m);rw [hd] at h5
  conv=>rhs;rw [← h5]
  rw [List.map_append,List.map_cons]
 rw [e1] at g5;generalize hrc:(⟨oc.dst,optV oc.guard true r,.quiet none⟩:DR)=rc at g2 gu g5;have hget1:∀ k,k<jc→(R1++rc::R2)[k]?=R1[k]?:=fun k hk=>List.getElem?_append_left (by omega);have hgetc:(R1++rc::R2)[jc]?=some rc:=by rw [List.getElem?_append_right (by omega),hR1,Nat.sub_self];rfl
 have hget2:∀ k,jc<k→(R1++rc::R2)[k]?=R2[k - (jc+1)]?:=fun k hk=>by
  rw [List.getElem?_append_right (by omega),hR1,show k - jc=(k - (jc+1))+1 by omega,List.getElem?_cons_succ]
 have htake1:∀ k,k≤jc→(R1++rc::R2).take k=R1.take k:=fun k hk=>by rw [List.take_append_of_le_length (by omega)]
 have htake2:∀ k,jc<k→(R1++rc::R2).take k=R1++rc::R2.take (k - (jc+1)):=fun k hk=>by
  rw [List.take_append,List.take_of_length_le (by omega),hR1,show k - jc=(k - (jc+1))+1 by omega,List.take_succ_cons]
 have hqR:∀ r',r'∈R1++rc::R2→∃ rd,r'.k=.quiet rd:=fun r' hr=>by
  rcases List.mem_append.1 hr with hr | hr
  · exact hq1 r' (by simpa using hr)
  ·
   rcases List.mem_cons.1 hr with rfl | hr
   · rw [← hrc];exact ⟨none,rfl⟩
   · exact hq2 r' hr
 have hdrop:∀ k,jc<k→((l.take m).drop (jc+1))[k - (jc+1)]?=(l.take m)[k]?:=fun k hk=>by
  rw [List.getElem?_drop,show jc+1+(k - (jc+1))=k by omega]
 have happ:∀ (A B:List DR) (x:Env),qai x (A++B)=qai (qai x A) B:=by
  intro A
  induction A with
  | nil=>intro B x;rfl
  | cons a A ih=>intro B x;exact ih B _
 have henv:∀ X:List DR,(∀ r',r'∈X→∃ rd,r'.k=.quiet rd)→qai e (R1++rc::X)=⟨(qai (rc.next ⟨(qai e R1).t,h2⟩) X).t,e.h⟩:=fun X hX=>by
  rw [happ];show qai (rc.next (qai e R1)) X=_;have q:=next_quiet (r:=rc) (by rw [← hrc];exact ⟨none,rfl⟩) (qai e R1) h2;have q2:=qa8 hX (rc.next (qai e R1)) h2;have q3:=(qa8 (R:=R1) (fun r' hr=>hq1 r' (by simpa using hr)) e e.h).2;rw [q.1,q2.1,← q3,← q.2,← q2.2]
 have dW:DRegW (l.take m) (R1++rc::R2):=by
  refine ⟨hok,by simp [hR1,hl2];omega,fun {k r'} hr=>?_,fun k s r' r'' i off cs _ _ hs hk=>?_⟩
  ·
   have hlt:k<m:=by have:=(List.getElem?_eq_some_iff.1 hr).1;simp [hR1,hl2] at this;omega
   obtain ⟨rd,hk⟩:=hqR r' (List.mem_of_getElem? hr);have hno:(∃ i off cs,r'.k=.store i off cs)→∀ o:Oper,isStore o.op=true:=by
    rintro ⟨i,off,cs,h⟩;rw [hk] at h;cases h
   rcases Nat.lt_trichotomy k jc with h1 | h1 | h1
   ·
    rw [hget1 k h1] at hr;have hlt':k<(l.take m).length:=by omega
    obtain ⟨_,r'',k1,k2,_⟩:=qdf (hs1 k _ h1 (List.getElem?_eq_getElem hlt'));rw [hr] at k2;cases k2;exact ⟨_,List.getElem?_eq_getElem hlt',k1,fun h=>hno h _⟩
   ·
    subst h1;rw [hgetc] at hr;cases hr;exact ⟨oc,hoc',by rw [← hrc],fun h=>hno h _⟩
   ·
    rw [hget2 k h1] at hr;obtain ⟨o,k1,k2⟩:=hd2 _ _ hr;rw [hdrop k h1] at k1;exact ⟨o,k1,k2,fun h=>hno h _⟩
  ·
   obtain ⟨rd,h1⟩:=hqR r'' (List.mem_of_getElem? hs);rw [h1] at hk;cases hk
 have d:DRegK P E (l.take m) e (R1++rc::R2) jc h2 True Q:=by
  refine ⟨dW,by omega,hqR,fun k o ho hne hno=>?_,fun hk k o ho hne hno=>?_,fun o ho=>?_⟩
  ·
   have hlt:k<m:=by have:=(List.getElem?_eq_some_iff.1 ho).1;omega
   rcases hord k hlt hne with ⟨h1,_⟩ | ⟨h1,h2' | hu⟩
   ·
    rw [htake1 k (by omega),hget1 k h1];exact hs1 k o h1 ho
   · rw [h2'] at hno;cases hno
   ·
    have:=gu (k - (jc+1)) o (by rwa [show jc+1+(k - (jc+1))=k by omega]) (by rw [hdrop k h1];exact ho);have e1:((l.take m).take jc).map (·.dst)++[oc.dst]++(((l.take m).drop (jc+1)).take (k - (jc+1))).map (·.dst)=((l.take m).take k).map (·.dst):=by
     rw [show (l.take m).take k=(l.take m).take (jc+(1+(k - (jc+1)))) by congr 1;omega,List.take_add,hd,List.map_append,Nat.add_comm 1,List.take_succ_cons];simp
    rw [e1,(qa8 (R:=R1) (fun r' hr=>hq1 r' (by simpa using hr)) e e.h).2] at this;rw [htake2 k h1,hget2 k h1,henv _ fun r' hr=>hq2 r' (List.mem_of_mem_take hr)];exact this
  ·
   have hlt:k<m:=by have:=(List.getElem?_eq_some_iff.1 ho).1;omega
   rcases hord k hlt hne with ⟨h1,h5 | h5⟩ | ⟨h1,_⟩
   · rw [h5] at hno;cases hno
   ·
    have:=(hp h2 h3).2 k o h1 (by rwa [Nat.zero_add]) ho;rw [htake1 k (by omega),hget1 k h1,(qa8 (R:=R1.take k) (fun r' hr=>hq1 r' (by simpa using List.mem_of_mem_take hr)) e h2).1];exact this
   ·
    have:=g2 (k - (jc+1)) o (by rw [hdrop k h1];exact ho);have e1:((l.take m).take jc).map (·.dst)++[oc.dst]++(((l.take m).drop (jc+1)).take (k - (jc+1))).map (·.dst)=((l.take m).take k).map (·.dst):=by
     rw [show (l.take m).take k=(l.take m).take (jc+(1+(k - (jc+1)))) by congr 1;omega,List.take_add,hd,List.map_append,Nat.add_comm 1,List.take_succ_cons];simp
    rw [e1] at this;rw [htake2 k h1,hget2 k h1];have e2:qai ⟨e.t,h2⟩ (R1++rc::R2.take (k - (jc+1)))=qai (rc.next ⟨(qai e R1).t,h2⟩) (R2.take (k - (jc+1))):=by
     have:∀ (A B:List DR) (x:Env),qai x (A++B)=qai (qai x A) B:=by
      intro A
      induction A with
      | nil=>intro B x;rfl
      | cons a A ih=>intro B x;exact ih B _
     rw [this,(qa8 (R:=R1) (fun r' hr=>hq1 r' (by simpa using hr)) e h2).1];rfl
    rw [e2];exact this
  ·
   rw [hoc'] at ho;cases ho;refine ⟨r,by rw [htake1 jc (Nat.le_refl _),List.take_of_length_le (l:=R1) (by omega)];exact hg,hdst,by rw [hgetc,← hrc],?_⟩;rw [htake1 jc (Nat.le_refl _),List.take_of_length_le (by omega)];show opEff P (qck (qai e R1) oc) oc.op _ _;have hh:=(qa8 (R:=R1) (fun r' hr=>hq1 r' (by simpa using hr)) e e.h).2;have hge:∀ x,x∈f::args.toList→(qck (qai e R1) oc).getS x=(qai e R1).getS x:=fun x hx=>by
    unfold Env.getS;rw [get_narrow (by rw [hops];exact hx)]
   have hmap:args.toList.map (qck (qai e R1) oc).getS=args.toList.map (qai e R1).getS:=List.map_congr_left fun x hx=>hge x (by simp [hx]);have hall':=qdi (o:=oc) (fun x hx=>by rw [hops];exact hx) hall;rw [hop];refine ⟨hall',?_⟩;rw [hge f (by simp),hf,hmap];exact hc.mono (by rintro _ _ ⟨rfl,rfl⟩;exact ⟨trivial,rfl,rfl⟩)
 refine awp_drawK0 m jc hm hml hT d fun hk=>?_;rw [(henv R2 hq2)];exact g5
end
attribute [go_sem] opsU callKB
end Go.Abs
