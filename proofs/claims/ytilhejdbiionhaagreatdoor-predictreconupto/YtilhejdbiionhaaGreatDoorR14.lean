/- Part 14 of a proof: AbsQb, AbsIns, AbsInt, AbsMk, AbsOa, AbsOb, AbsZn -/
import Derived.Shelf.Spec.SlicesInsertGrow
import Derived.Laws.MakeOwn
import Derived.Test.YtilhejdbiionhaaGreatDoorR09
import Derived.Test.YtilhejdbiionhaaGreatDoorR12
import Derived.Test.YtilhejdbiionhaaGreatDoorR13
set_option linter.all false

namespace Go.Abs
def flatB:AV→Bool
 | .val _=>true
 | .tuple xs=>xs.all fun| .val _=>true|_=>false
 | .agg xs=>xs.all fun| .val _=>true|_=>false
 |_=>false
theorem flat_rel{c c':Ctx}{x:AV}{v:Value}(hf:flatB x=true)(h:Rel c x v):Rel c' x v:=by
 cases x with
 |val u =>
  have:v=u:=h.val_inv;subst this;exact .val _ (val_ok h)
 |tuple xs =>
  cases h with
  |data h=>cases h
  |tuple _ vs hl h =>
   refine .tuple xs vs hl fun j x v hx hv=>?_;have h1:=h j x v hx hv;have h2:=List.all_eq_true.1 hf x (List.mem_of_getElem? hx);cases x with
   |val u =>
    have:v=u:=h1.val_inv;subst this;exact .val _ (val_ok h1)
   |_=>cases h2
 |agg xs =>
  cases h with
  |data h=>cases h
  |agg _ vs hl ho h =>
   refine .agg xs vs hl ho fun j x v hx hv=>?_;have h1:=h j x v hx hv;have h2:=List.all_eq_true.1 hf x (List.mem_of_getElem? hx);cases x with
   |val u =>
    have:v=u:=h1.val_inv;subst this;exact .val _ (val_ok h1)
   |_=>cases h2
 |_=>simp[flatB]at hf
def borV(h:qab):AV→AV
 | .nils=>.slice []
 | .slice r=>.slice r
 | .val v=>.val v
 | .own i n=>match h[i]? with
  |some (.arr _ _ rows)=>if rows.length=n then .slice rows else .top
  |some (.uarr _ _ rows)=>if rows.length=n then .slice rows else .top
  |_=>.top
 |_=>.top
section
variable {P:Program} {E:Ent}
def allD(w:World):Ctx:=⟨fun b j=>w.cell? ⟨b,j,none⟩,fun _=>none,fun _ _=>none⟩
theorem allD_sim(w:World):HSim (allD w) [] w :=
 ⟨fun _ _ _ h=>h,fun _ _=>⟨rfl,fun _=>rfl⟩,fun i o hi=>by simp at hi,fun i j o o' b hi=>by simp at hi,fun i o b j v hi=>by simp at hi⟩
theorem own_dataW{w:World}{c:Ctx}{e sz:Nat}{rows:List (List AV)}{v:Value}{vs:List Value}(hD:∀b j v,c.D b j=some v→w.cell? ⟨b,j,none⟩=some v)(h2:w.ownsRow 0 e sz v rows.length vs)(h3:rows.length≤68719476736)(h4:∀r,r∈rows→r.length=sz)
  (h5:∀(i' j:Nat) (r:List AV) (x:AV),rows[i']?=some r→r[j]?=some x→∃u,vs[i' * sz+j]?=some u∧DRel c.D x u):DRel (allD w).D (.slice rows) v:=by
 rcases h2.2 with⟨rfl,hn⟩|⟨g,cap,cur,rfl,hg,hh,hnc,hcm,hcs,htake⟩
 ·have:rows=[]:=List.eq_nil_of_length_eq_zero hn;subst this;exact .nil
 ·have hcell:∀(i' j:Nat) (r:List AV) (x:AV),rows[i']?=some r→r[j]?=some x→∃u,vs[i' * sz+j]?=some u∧DRel c.D x u∧(allD w).D g (0+i' * sz+j)=some u:=by
   intro i' j r x hr hx;obtain⟨u,hu,hd⟩:=h5 i' j r x hr hx;refine⟨u,hu,hd,?_⟩;have:=h2.cells (g:=g) rfl _ u hu;rw[qdv,Nat.zero_add]at this;rw[Nat.zero_add];exact this
  exact .slice rows g 0 cap sz (fun i' j=>(vs[i' * sz+j]?).getD undef) h4 h3 hnc (fun i' j r x hr hx=>by
   obtain⟨u,hu,hd,hD'⟩:=hcell i' j r x hr hx;rw[hu];exact hD') fun i' j r x hr hx=>by
   obtain⟨u,hu,hd,hD'⟩:=hcell i' j r x hr hx;rw[hu];exact hd.mono hD
theorem borV_rel{c:Ctx}{h:qab}{w:World}(s:HSim c h w){x:AV}{v:Value}(hr:Rel c x v):Rel (allD w) (borV h x) v:=by
 have hD:∀b j v,c.D b j=some v→(allD w).D b j=some v:=s.data;cases x with
 |nils =>
  cases hr with
  |data h=>cases h
  |nils=>exact .data .nil
 |slice r=>exact .data ((Rel.slice_inv hr).mono hD)
 |val u =>
  have:v=u:=hr.val_inv;subst this;exact .val _ (val_ok hr)
 |own i n =>
  cases hr with
  |data h=>cases h
  |own _ _ _ hv ho =>
   simp only[borV];split
   ·rename_i e sz rows hi;split
    ·rename_i hn;subst hn;obtain⟨v',vs,h1,_,_,h2,h3,h4,h5,_⟩:=s.obj i _ hi;rw[hv]at h1;cases h1;exact .data (own_dataW s.data h2 h3 h4 h5)
    ·exact .top _
   ·rename_i e sz rows hi;split
    ·rename_i hn;subst hn;obtain⟨v',vs,h1,_,_,h2,h3,h4,h5⟩:=s.obj i _ hi;rw[hv]at h1;cases h1;exact .data (own_dataW s.data h2 h3 h4 h5)
    ·exact .top _
   ·exact .top _
 |_=>exact .top _
theorem call_borrow{c:Ctx}{e:Env}{a:Act}{w:World}(s:Sim E.N c e a w)(k:E.ok c e.h w){o:Oper}{f:Operand}{args:Array Operand}{ts:Array TypeId}(ho:o.op=.call { callee:=.value f,args:=args,argTypes:=ts })
  (hall:qaw e true (f::args.toList)) {fid:FuncId} (hf:e.getS f=.fn (.func fid) [] []) {x:AV} (hP:APure P fid (args.toList.map fun y=>borV e.h (e.getS y)) x) (hx:flatB x=true) {next:Act→World→Prop} {Q:Exit→Act→World→Prop}
  (hret:∀w' u,HSim c e.h w'→E.ok c e.h w'→Rel c x u→next (a.put o.dst u) w'):o.wp P a w next Q:=by
 have hrel:=qbe s hall;have hfr:=hrel f (by simp);rw[hf]at hfr;have hev:a.eval f=.func (.func fid) #[] #[]:=by
  generalize a.eval f=z at hfr;cases hfr with
  |data h=>cases h
  |fn f ys xs us vs hl' hl h' h =>
   have h1:us = #[]:=Array.eq_empty_of_size_eq_zero hl';have h2:vs = #[]:=Array.eq_empty_of_size_eq_zero hl;rw[h1,h2]
 have hargs:RelL (allD w) (args.toList.map fun y=>borV e.h (e.getS y)) (args.map a.eval):=by
  refine⟨by simp,fun j y v hy hv=>?_⟩;simp only[List.getElem?_map,Option.map_eq_some_iff]at hy;obtain⟨z,hz,rfl⟩:=hy;simp only[Array.getElem?_map,Option.map_eq_some_iff]at hv;obtain⟨z',hz',rfl⟩:=hv;have:z'=z:=by
   rw[←Array.getElem?_toList,hz]at hz';exact(Option.some.inj hz').symm
  subst this;exact borV_rel s.hs (hrel z' (by simp[List.mem_of_getElem? hz]))
 have hA:=hP [];unfold Oper.wp;rw[run_enter ho hev hA.1];simp only[Array.empty_append,Array.append_empty];refine(hA.2 (allD w) w _ (allD_sim w) hargs).mono ?_;rintro en w' ⟨r,h',c',⟨rfl,rfl⟩,hE,hs',hk'⟩;have hold:∀b,b<w.heap.size→w'.heap[b]?=w.heap[b]?:=fun b hb=>hk'.frame b hb fun i o hi=>by simp at hi
 cases en with
 |returned u =>
  have hE':Rel c' x u:=hE;refine hret w' u (s.hs.ext hold (.refl c) (fun _ _=>rfl) (fun _ _ _ h=>.inl h) s.hs.dom) (k.ext' s.hs hold (.refl c) (fun _=>rfl) hk'.os hk'.tape hk'.output hk'.size fun _ _ _ h=>.inl h) (flat_rel hx hE')
 |_=>simp[EndR]at hE
def borStep(P:Program)(N:Nat)(o:Oper)(e:Env)(K:Env→Prop):Prop :=
 o.guard=none∧qee N o.dst∧match o.op with
  | .call { callee:=.value f,args,.. }=>qaw e true (f::args.toList)∧match e.getS f with
   | .fn (.func fid) [] []=>∃x,APure P fid (args.toList.map fun y=>borV e.h (e.getS y)) x∧flatB x=true∧K (e.put o.dst x)
   |_=>False
  |_=>False
theorem opsF_soundB{Q:AExit→Env→Prop}{ops:Array Oper}{o:Oper}{l2:List Oper}:∀(l1 done:List Oper) (e:Env),ops.toList=done++(l1++o::l2) →
  opsF P E.N (fun x e1=>match x with
   | .normal=>borStep P E.N o e1 fun e2=>opsF P E.N Q ((done++l1++[o]).map (·.dst)) l2 e2
   |x=>Q x e1) (done.map (·.dst)) l1 e→AOps P E ops (l1++o::l2) Q e
 | [],done,e,hops,h=>by
  intro c a w s k;simp only[opsF]at h;obtain⟨hg,hd,h⟩:=h;simp only[List.nil_append];refine qdq (G:=true) (by simp[Region.wanted,hg]) (fun _=>?_) (fun h=>by cases h);split at h
  ·rename_i f args ts hop;obtain⟨hall,h⟩:=h;split at h
   ·rename_i fid hf;obtain⟨x,hP,hx,hK⟩:=h;refine call_borrow s k hop hall hf hP hx fun w' u hs' hk' hr=>?_;exact qc9 l2 (done++[]++[o]) _ (by simpa using hops) hK c _ w' (s.put (.refl c) hs' (dst_lt hd) hr) (by cases o.dst<;>exact hk')
   ·exact h.elim
  ·exact h.elim
 |p::l1,done,e,hops,h=>by
  have ih:=fun e'=>opsF_soundB (Q:=Q) (ops:=ops) (o:=o) (l2:=l2) l1 (done++[p]) e' (by simp[hops]);simp only[List.map_append,List.map_cons,List.map_nil,List.append_assoc,List.cons_append,List.nil_append]at ih;intro c a w s k;simp only[opsF]at h;refine stepF_soundQ h (fun G hG=>wanted_eq hops s hG) s k (fun v e' c' a' w' u hq hr hs hk=>⟨.panic v,e',c',hq,hr,hs,hk⟩) fun e' c' a' w' hK s' k'=>?_;exact ih e' (by simpa using hK) c' a' w' s' k'
theorem opsF_soundT{Q:AExit→Env→Prop}{ops:Array Oper}{l2:List Oper}:∀(l1 done:List Oper) (e:Env),ops.toList=done++(l1++l2) →
  opsF P E.N (fun x e1=>match x with
   | .normal=>AOps P E ops l2 Q e1
   |x=>Q x e1) (done.map (·.dst)) l1 e→AOps P E ops (l1++l2) Q e
 | [],done,e,hops,h=>h
 |p::l1,done,e,hops,h=>by
  have ih:=fun e'=>opsF_soundT (Q:=Q) (ops:=ops) (l2:=l2) l1 (done++[p]) e' (by simp[hops]);simp only[List.map_append,List.map_cons,List.map_nil]at ih;intro c a w s k;simp only[opsF]at h;refine stepF_soundQ h (fun G hG=>wanted_eq hops s hG) s k (fun v e' c' a' w' u hq hr hs hk=>⟨.panic v,e',c',hq,hr,hs,hk⟩) fun e' c' a' w' hK s' k'=>?_;exact ih e' hK c' a' w' s' k'
theorem awp_opsT{id:Nat}{Q:AExit→Env→Prop}{e:Env}(l1 l2:List Oper) (h:opsF P E.N (fun x e1=>match x with
   | .normal=>AOps P E (l1++l2).toArray l2 Q e1
   |x=>Q x e1) [] l1 e):AWp P E (.region id (l1++l2).toArray false) Q e :=
 qd7 (by
  have:=opsF_soundT (Q:=Q) (ops:=(l1++l2).toArray) (l2:=l2) l1 [] e (by simp) (by simpa using h);simpa using this)
theorem awp_opsB{id:Nat}{Q:AExit→Env→Prop}{e:Env}(l1:List Oper){o:Oper}{l2:List Oper} (h:opsF P E.N (fun x e1=>match x with
   | .normal=>borStep P E.N o e1 fun e2=>opsF P E.N Q ((l1++[o]).map (·.dst)) l2 e2
   |x=>Q x e1) [] l1 e):AWp P E (.region id (l1++o::l2).toArray false) Q e :=
 qd7 (by
  have:=opsF_soundB (Q:=Q) (ops:=(l1++o::l2).toArray) (o:=o) (l2:=l2) l1 [] e (by simp) (by simpa using h);simpa using this)
end
end Go.Abs

namespace Go.Abs
open Go.Proofs Go.Shelf
theorem qdk{b:Nat}{e:TypeId}{fz:Nat×Nat}:∀(vs:List Value) (o:Nat) (w:World) (cur:Array Value),w.heap[b]?=some (.cells cur e fz)→o+vs.length≤cur.size →
  ∃cur',(w.setCells b o vs).heap[b]?=some (.cells cur' e fz)∧cur'.size=cur.size∧(∀j:Nat,cur'[j]?=if o≤j∧j<o+vs.length then vs[j - o]? else cur[j]?)∧(w.setCells b o vs).heap.size=w.heap.size ∧
   (w.setCells b o vs).os=w.os∧(w.setCells b o vs).tape=w.tape∧(w.setCells b o vs).output=w.output∧∀k,k≠b→(w.setCells b o vs).heap[k]?=w.heap[k]?
 | [],o,w,cur,h,_=>⟨cur,h,rfl,fun j=>by simp;intro h1 h2;omega,rfl,rfl,rfl,rfl,fun _ _=>rfl⟩
 |v::vs,o,w,cur,h,hl=>by
  simp only[List.length_cons]at hl;have hb:b<w.heap.size:=(Array.getElem?_eq_some_iff.1 h).1;have hv:w.heap[b]=.cells cur e fz:=(Array.getElem?_eq_some_iff.1 h).2;have h1:(w.setCell ⟨b,o,none⟩ v).heap[b]?=some (.cells (cur.setIfInBounds o v) e fz):=by
   unfold World.setCell;rw[Array.getElem?_eq_getElem (by simpa using hb),Array.getElem_modify];simp[hv]
  obtain⟨cur',g1,g2,g3,g4,g5,g6,g7,g8⟩:=qdk vs (o+1) (w.setCell ⟨b,o,none⟩ v) (cur.setIfInBounds o v) h1 (by simp;omega);refine⟨cur',g1,by rw[g2];simp,fun j=>?_,by rw[World.setCells,g4];simp,g5,g6,g7,fun k hk=>?_⟩
  ·rw[g3 j];simp only[List.length_cons];by_cases hj:j=o
   ·subst hj;rw[if_neg (by omega),if_pos (by omega),Nat.sub_self];have hlt:j<cur.size:=by omega
    simp[hlt]
   ·rw[Array.getElem?_setIfInBounds_ne (by omega)];by_cases h2:o+1≤j∧j<o+1+vs.length
    ·rw[if_pos h2,if_pos (by omega),show j - o=(j - (o+1))+1 by omega];rfl
    ·rw[if_neg h2,if_neg (by omega)]
  ·rw[World.setCells,g8 k hk];unfold World.setCell;simp[Array.getElem?_modify,Ne.symm hk]
structure InsPost(w w':World)(v v':Value)(e:TypeId)(n:Nat)(us:List Value):Prop where
 one:v'.oneCell'=true
 own:w'.ownsRow 0 e 1 v' n us
 os:w'.os=w.os
 tape:w'.tape=w.tape
 output:w'.output=w.output
 size:w.heap.size≤w'.heap.size
 two:(∃g,v.ownBlock=some g∧v'.ownBlock=some g∧∀k,k≠g→w'.heap[k]?=w.heap[k]?)∨(v'.ownBlock=some w.heap.size∧∀k,k<w.heap.size→w'.heap[k]?=w.heap[k]?)
theorem zeroCells_size(z:Array Value)(n:Nat)(hz:z.size=1):(Builtin.zeroCells z n).size=n:=by
 simp[Builtin.zeroCells,hz]
theorem insert_calls{P:Program}{ρ:Ren}(L:Lays2.n22 P ρ){w:World}{v:Value}{n:Nat}{cs:List Value}(hown:w.ownsRow 0 (ρ.t 9) 1 v n cs)(hone:∀u∈cs,u.oneCell'=true){pos:Nat}(hat:pos≤n)(hn:n+1≤68719476736)
  {vb vc:Nat} {kv:Value} {tA:TypeId} (hk:w.heap[vb]?=some (.cells #[kv] tA (0,0))) (hk1:kv.oneCell'=true) (hne:∀g,v.ownBlock=some g→vb≠g) :
  Calls P (ρ.f 22) #[v,.int .i64 pos,.slice (some ⟨vb,0,none⟩) 1 vc] w fun e w'=>∃v',e=.returned v'∧InsPost w w' v v' (ρ.t 9) (n+1) (cs.take pos++kv::cs.drop pos):=by
 have hkc:∀j u,[kv][j]?=some u→w.cell? ⟨vb,0+j,none⟩=some u:=fun j u hu=>by
  cases j with
  |zero=>simp at hu;subst hu;simp[World.cell?,hk]
  |succ j=>simp at hu
 have hkone:∀u∈[kv],u.oneCell'=true:=fun u hu=>by simp at hu;subst hu;exact hk1
 have hzc:∀m,(Builtin.zeroCells (Value.string ⟨#[]⟩).cells m).size=m:=fun m=>zeroCells_size _ m rfl;have hclen:cs.length=n:=by have:=hown.1;omega
 have hlast:pos=n→cs.take pos++kv::cs.drop pos=cs++[kv]:=fun h=>by
  subst h;rw[←hclen,List.take_length,List.drop_length]
 have hge:=grownCap_ge w (n+1);have hcm:=fun old=>grownCap_le_maxLen w (n+1) old (ρ.t 9) (by simp only[maxLen];omega);rcases hown.2 with⟨rfl,rfl⟩|⟨g,cap,cur,rfl,_,hg,hnc,hcm2,hcs,htake⟩
 ·
  have hp0:pos=0:=by omega
  subst hp0;have hnil:cs=[]:=List.eq_nil_of_length_eq_zero hclen;subst hnil;refine(Any2.slices_Insert_string_end_grow L none 0 0 vb 0 1 vc [] [kv] w (by omega) (Nat.le_refl _) (by omega) (by omega) rfl rfl (fun _=>rfl) (fun a h=>by cases h) hkc hkone).mono ?_;rintro e w' ⟨rfl,rfl⟩;refine⟨_,rfl,rfl,⟨by simp,.inr ⟨w.heap.size,_,_,rfl,Nat.zero_le _,heap_alloc_new _ _,hge 0 _,hcm 0,?_,by simp⟩⟩,rfl,rfl,rfl,by simp,.inr ⟨rfl,fun k hk=>Go.heap_alloc_old _ _ hk⟩⟩;have:=hge 0 (ρ.t 9);simp only[Nat.zero_add]at this;simp[hzc];omega
 ·have hcc:cap≤9223372036854775807:=by simp only[maxLen]at hcm2;omega
  have hvb:vb≠g:=hne g rfl;have hcell:∀j u,cs[j]?=some u→w.cell? ⟨g,0+j,none⟩=some u:=fun j u hu=>by
   have:=hown.cells (g:=g) rfl j u hu
   rwa [qdv]at this
  have hcur:cur.size=cap:=by rw[hcs];omega
  have hsome:∀j,j<cap→(w.cell? ⟨g,0+j,none⟩).isSome=true:=fun j hj=>by
   simp[World.cell?,hg];omega
  have hfz:∀j,w.frozen? ⟨g,0+j,none⟩=false:=fun j=>by simp[World.frozen?,hg]
  have hcurn:∀j,j<n→cur[j]?=cs[j]?:=fun j hj=>by
   rw[←htake,List.getElem?_take,if_pos (by omega),Array.getElem?_toList]
  rcases Nat.lt_or_ge pos n with hlt|hge'
  ·rcases Nat.lt_or_ge cap (n+1)with hroom|hroom
   ·
    refine(Any2.slices_Insert_string_grow L g 0 n cap pos vb 0 1 vc cs [kv] w hlt (by omega) hnc hroom (by omega) hclen rfl hcell hkc hone hkone).mono ?_;rintro e w' ⟨rfl,rfl⟩;have hg1:=hge cap (ρ.t 9);have h0:(w.alloc (.cells ((cs.take pos).toArray++Builtin.zeroCells (Value.string ⟨#[]⟩).cells (n+1 - pos)++Builtin.zeroCells (Value.string ⟨#[]⟩).cells (grownCap w (n+1) cap (ρ.t 9) - (n+1))) (ρ.t 9))).drew.heap[w.heap.size]?=some (.cells ((cs.take pos).toArray++Builtin.zeroCells (Value.string ⟨#[]⟩).cells (n+1 - pos)++Builtin.zeroCells (Value.string ⟨#[]⟩).cells (grownCap w (n+1) cap (ρ.t 9) - (n+1))) (ρ.t 9) (0,0)):=heap_alloc_new _ _;have hsz:((cs.take pos).toArray++Builtin.zeroCells (Value.string ⟨#[]⟩).cells (n+1 - pos)++Builtin.zeroCells (Value.string ⟨#[]⟩).cells (grownCap w (n+1) cap (ρ.t 9) - (n+1))).size=grownCap w (n+1) cap (ρ.t 9):=by
     simp[hzc,hclen];omega
    obtain⟨c1,a1,a2,a3,a4,a5,a6,a7,a8⟩:=qdk [kv] pos _ _ h0 (by rw[hsz];simp;omega);obtain⟨c2,b1,b2,b3,b4,b5,b6,b7,b8⟩:=qdk (cs.drop pos) (pos+1) ((w.alloc (.cells ((cs.take pos).toArray++Builtin.zeroCells (Value.string ⟨#[]⟩).cells (n+1 - pos)++Builtin.zeroCells (Value.string ⟨#[]⟩).cells (grownCap w (n+1) cap (ρ.t 9) - (n+1))) (ρ.t 9))).drew.setCells w.heap.size pos [kv]).drew c1 a1 (by rw[a2,hsz];simp[hclen];omega);refine⟨_,rfl,rfl,⟨by simp[hclen];omega,.inr ⟨w.heap.size,_,c2,rfl,Nat.zero_le _,b1,hg1,hcm cap,by rw[b2,a2,hsz];omega,?_⟩⟩,?_,?_,?_,?_,.inr ⟨rfl,fun k hk=>?_⟩⟩
    ·apply List.ext_getElem?;intro j;rw[List.getElem?_take,Array.getElem?_toList,b3 j,a3 j];simp only[List.length_drop,hclen,List.length_cons,List.length_nil];by_cases h1:j<pos
     ·rw[if_pos (by omega),if_neg (by omega),if_neg (by omega),List.getElem?_append_left (by simp[hclen];omega),Array.getElem?_append_left (by simp[hclen];omega),Array.getElem?_append_left (by simp[hclen];omega)];simp
     ·by_cases h2:j=pos
      ·subst h2;rw[if_pos (by omega),if_neg (by omega),if_pos (by omega),List.getElem?_append_right (by simp[hclen];omega)];simp[hclen,Nat.min_eq_left hat]
      ·by_cases h3:j<n+1
       ·rw[if_pos (by omega),if_pos (by omega),List.getElem?_append_right (by simp[hclen];omega)];simp only[List.length_take,hclen,Nat.min_eq_left hat];rw[show j - pos=(j - (pos+1))+1 by omega];rfl
       ·rw[if_neg (by omega),List.getElem?_eq_none (by simp[hclen];omega)]
    ·rw[b5];exact a5
    ·rw[b6];exact a6
    ·rw[b7];exact a7
    ·rw[b4];show w.heap.size≤_;have:((w.alloc (.cells ((cs.take pos).toArray++Builtin.zeroCells (Value.string ⟨#[]⟩).cells (n+1 - pos)++Builtin.zeroCells (Value.string ⟨#[]⟩).cells (grownCap w (n+1) cap (ρ.t 9) - (n+1))) (ρ.t 9))).drew.setCells w.heap.size pos [kv]).drew.heap.size=w.heap.size+1:=by
      rw[World.size_drew,a4];simp
     omega
    ·rw[b8 k (by omega)];show((w.alloc _).drew.setCells w.heap.size pos [kv]).heap[k]?=_;rw[a8 k (by omega)];exact Go.heap_alloc_old _ _ hk
   ·
    refine(Any2.slices_Insert_string_shift L g 0 n cap pos vb 0 1 vc cs [kv] w hlt (by omega) hroom hcc hvb hclen rfl hcell (fun j hj=>hsome j (by omega)) (fun j _=>hfz j) hkc hone hkone tA (ρ.t 9) 1 cap (by simp[World.shape?,hk]) (by simp[World.shape?,hg,hcur]) (by omega) (by simp[World.frozen?,hk]) (by simp[World.frozen?,hk])).mono ?_;rintro e w' ⟨rfl,rfl⟩;obtain⟨c1,a1,a2,a3,a4,a5,a6,a7,a8⟩:=qdk (cs.drop pos) (0+(pos+1)) w.drew cur hg (by simp[hclen];omega);obtain⟨c2,b1,b2,b3,b4,b5,b6,b7,b8⟩:=qdk [kv] (0+pos) _ c1 a1 (by rw[a2];simp;omega);refine⟨_,rfl,rfl,⟨by simp[hclen];omega,.inr ⟨g,cap,c2,rfl,Nat.zero_le _,b1,hroom,hcm2,by rw[b2,a2,hcs],?_⟩⟩,?_,?_,?_,?_,.inl ⟨g,rfl,rfl,fun k hk=>?_⟩⟩
    ·apply List.ext_getElem?;intro j;rw[List.getElem?_take,Array.getElem?_toList,b3 j,a3 j];simp only[List.length_drop,hclen,List.length_cons,List.length_nil,Nat.zero_add];by_cases h1:j<pos
     ·rw[if_pos (by omega),if_neg (by omega),if_neg (by omega),List.getElem?_append_left (by simp[hclen];omega),hcurn j (by omega),List.getElem?_take,if_pos h1]
     ·by_cases h2:j=pos
      ·subst h2;rw[if_pos (by omega),if_pos (by omega),List.getElem?_append_right (by simp[hclen];omega)];simp[hclen,Nat.min_eq_left hat]
      ·by_cases h3:j<n+1
       ·rw[if_pos (by omega),if_neg (by omega),if_pos (by omega),List.getElem?_append_right (by simp[hclen];omega)];simp only[List.length_take,hclen,Nat.min_eq_left hat];rw[show j - pos=(j - (pos+1))+1 by omega];rfl
       ·rw[if_neg (by omega),List.getElem?_eq_none (by simp[hclen];omega)]
    ·rw[b5];exact a5
    ·rw[b6];exact a6
    ·rw[b7];exact a7
    ·rw[b4,a4];exact Nat.le_refl _
    ·rw[b8 k hk,a8 k hk];rfl
  ·have hpn:pos=n:=by omega
   subst hpn;rw[hlast rfl];rcases Nat.lt_or_ge cap (pos+1)with hroom|hroom
   ·
    refine(Any2.slices_Insert_string_end_grow L (some ⟨g,0,none⟩) pos cap vb 0 1 vc cs [kv] w (by omega) hnc hroom (by omega) hclen rfl (fun h=>by cases h) (fun a h=>by cases h;exact fun j u hu=>by rw[qdv];exact hcell j u hu) hkc hkone).mono ?_;rintro e w' ⟨rfl,rfl⟩;have hg1:=hge cap (ρ.t 9);refine⟨_,rfl,rfl,⟨by simp[hclen],.inr ⟨w.heap.size,_,_,rfl,Nat.zero_le _,heap_alloc_new _ _,hg1,hcm cap,?_,?_⟩⟩,rfl,rfl,rfl,by simp,.inr ⟨rfl,fun k hk=>Go.heap_alloc_old _ _ hk⟩⟩
    ·simp[hzc,hclen];omega
    ·simp[hclen,List.take_append];exact List.take_of_length_le (by omega)
   ·
    refine(Any2.slices_Insert_string_end_room L g 0 pos cap vb 0 1 vc [kv] w (by omega) hroom hcc rfl (fun j hj=>by have:=hsome (pos+j) (by omega);rwa [Nat.zero_add]at this⊢) (fun j _=>by simp[World.frozen?,hg]) hkc hkone).mono ?_;rintro e w' ⟨rfl,rfl⟩;obtain⟨c1,a1,a2,a3,a4,a5,a6,a7,a8⟩:=qdk [kv] (0+pos) w cur hg (by simp;omega);refine⟨_,rfl,rfl,⟨by simp[hclen],.inr ⟨g,cap,c1,rfl,Nat.zero_le _,a1,hroom,hcm2,by rw[a2,hcs],?_⟩⟩,a5,a6,a7,by rw[a4];exact Nat.le_refl _,.inl ⟨g,rfl,rfl,a8⟩⟩;apply List.ext_getElem?;intro j;rw[List.getElem?_take,Array.getElem?_toList,a3 j];simp only[List.length_cons,List.length_nil,Nat.zero_add];by_cases h1:j<pos
    ·rw[if_pos (by omega),if_neg (by omega),List.getElem?_append_left (by omega),hcurn j h1]
    ·by_cases h2:j=pos
     ·subst h2;rw[if_pos (by omega),if_pos (by omega),List.getElem?_append_right (by omega)];simp[hclen]
     ·rw[if_neg (by omega),List.getElem?_eq_none (by simp[hclen];omega)]
end Go.Abs

namespace Go.Abs
open Go.Proofs Go.Shelf
section
variable {P:Program} {E:Ent}
theorem run_build1{T el:TypeId}(hk:qah P T=.slice el 1)(hke:qah P el≠.other)(hsize:qat P el=1){v:Value}(h1:v.oneCell'=true)(w:World) :
  (Instr.buildSlice T 1 #[(0,v)]).run P w=.ok (.slice (some ⟨w.heap.size,0,none⟩) 1 1) (w.alloc (.cells #[v] el)):=by
 obtain⟨iT,dT,zT,_,hund,_,hkd,_⟩:=qas hk (by simp);obtain⟨rfl,ie,hie,hies⟩:=qbq hkd;obtain⟨ie',de,ze,hie',_,hze,_,hts,_,hzs,hz1⟩:=qas (P:=P) (t:=el) rfl hke;rw[hie]at hie';cases hie';have hzv:(zeroValue el).run P w=.ok ze w:=by simp[zeroValue,run_typeInfo _ hie,hze]
 have hvc:v.cells = #[v]:=one_cells h1;have hz:ze.cells.size=1:=by omega
 simp only[Instr.buildSlice,Sem.run_bind,qa0 hund,Result.andThen_ok,qbh hie,hies];have h24:¬(1 * 1 > 2 ^ 24):=by decide
 rw[if_neg h24,if_neg (by decide)];simp only[Sem.run_bind,hzv,Result.andThen_ok,Sem.run_pure];have hf:Instr.fill (fun i=>some (i * 1,1)) ((Array.range (1 * 1)).map (ze.cells[· % ze.cells.size]!)) [(0,v)]=some #[v]:=by
  simp[Instr.fill,hvc,hz,show Array.range 1 = #[0]from rfl]
 simp only[hf,newRow,Sem.run_bind,qc2,Result.andThen_ok,Sem.run_pure]
theorem wp_insert{ρ:Ren}(L:Lays2.n22 P ρ){c:Ctx}{e:Env}{a:Act}{w:World}(s:Sim E.N c e a w)(k:E.ok c e.h w){ops:Array Oper}{rest:List Oper}{o1 o2:Oper}{Q:Exit→Act→World→Prop}{T:TypeId}{x xa xb f:Operand}{d1:Nat}{ts:Array TypeId}
  (g1:o1.guard=none) (g2:o2.guard=none) (hd1:o1.dst=some d1) (hlt1:d1<E.N) (hd2:qee E.N o2.dst) (hop1:o1.op=.buildSlice T 1 #[(0,x)]) (hop2:o2.op=.call { callee:=.value f,args:=#[xa,xb,.tmp d1],argTypes:=ts })
  (hT:qah P T=.slice (ρ.t 9) 1) (hel:qah P (ρ.t 9)≠.other) (hsz:qat P (ρ.t 9)=1) (hx:qaw e true [x,xa,xb,f]) {key:ByteArray} (hxk:e.getS x=.val (.string key)) {i n:Nat} (hxa:e.getS xa=.own i n) {pos:Nat} (hxb:e.getS xb=.val (.int .i64 pos))
  (hne:∀t,xa=.tmp t→t≠d1) (hneb:∀t,xb=.tmp t→t≠d1) (hf:f=.func (ρ.f 22)) {rows:List (List AV)} (hi:e.h[i]?=some (.uarr (ρ.t 9) 1 rows)) (hn:rows.length=n) (hpos:pos≤n) (hlen:n+1≤68719476736) (hE22:Enter P (ρ.f 22))
  (hnext:∀c' a' w',Sim E.N c' ((({ e with h:=e.h.set i (.uarr (ρ.t 9) 1 (rows.take pos++[.val (.string key)]::rows.drop pos)) }:Env).put o1.dst (.slice [[.val (.string key)]])).put o2.dst (.own i (n+1))) a' w'→E.ok c' (e.h.set i (.uarr (ρ.t 9) 1 (rows.take pos++[.val (.string key)]::rows.drop pos))) w'→wpList P ops Q rest a' w') :
  wpList P ops Q (o1::o2::rest) a w:=by
 have hrel:=qbe s hx;have hrx:=hrel x (by simp);have hrxa:=hrel xa (by simp);have hrxb:=hrel xb (by simp);rw[hxk]at hrx;rw[hxa]at hrxa;rw[hxb]at hrxb;have hvx:a.eval x=.string key:=hrx.val_inv;have hvb:a.eval xb=.int .i64 pos:=hrxb.val_inv;have hrun1:=run_build1 (P:=P) hT hel hsz (v:=.string key) rfl w;obtain⟨c1,hle1,s1,k1,hD1⟩:=data_ok s.hs k #[.string key] (ρ.t 9);refine qdq (G:=true) (by simp[Region.wanted,g1]) (fun _=>?_) (fun h=>by cases h);refine qb1 (w':=w.alloc (.cells #[.string key] (ρ.t 9))) (v:=.slice (some ⟨w.heap.size,0,none⟩) 1 1) (by simp only[execOp,hop1,List.map_toArray,List.map_cons,List.map_nil,hvx,Sem.run_bind,hrun1,Result.andThen_ok,Sem.run_pure]) ?_;have hlit:Rel c1 (.slice [[.val (.string key)]]) (.slice (some ⟨w.heap.size,0,none⟩) 1 1):=by
  refine .data (.slice [[.val (.string key)]] w.heap.size 0 1 1 (fun _ _=>.string key) (by simp) (by simp) (by simp) (fun i j r x' hr hx=>?_) fun i j r x' hr hx=>?_)
  ·cases i with
   |zero =>
    simp at hr;subst hr;cases j with
    |zero=>exact hD1 0 _ rfl
    |succ j=>simp at hx
   |succ i=>simp at hr
  ·cases i with
   |zero =>
    simp at hr;subst hr;cases j with
    |zero=>simp at hx;subst hx;exact .val _ rfl (val_ok hrx)
    |succ j=>simp at hx
   |succ i=>simp at hr
 have s2:Sim E.N c1 (e.put o1.dst (.slice [[.val (.string key)]])) (a.put o1.dst (.slice (some ⟨w.heap.size,0,none⟩) 1 1)) (w.alloc (.cells #[.string key] (ρ.t 9))) :=
  s.put hle1 s1 (fun j hj=>by rw[hd1]at hj;cases hj;exact hlt1) hlit
 -- the call
 obtain⟨hv,vs,hown,hrl,hcells⟩:=own_inv s1 hi hn (hrxa.mono hle1);have hrow1:∀j u,vs[j]?=some u→∃r x,rows[j]?=some r∧r[0]?=some x∧DRel c1.D x u:=fun j u hu=>by
  have hlt:j<rows.length:=by have:=(List.getElem?_eq_some_iff.1 hu).1;rw[hown.1]at this;omega
  have hr:rows[j]?=some rows[j]:=by simp[hlt]
  have hrl':=hrl _ (List.mem_of_getElem? hr);have hx0:rows[j][0]?=some (rows[j][0]'(by omega)):=by simp[hrl']
  obtain⟨u',hu',hd⟩:=hcells j 0 _ _ hr hx0;rw[Nat.mul_one,Nat.add_zero,hu]at hu';cases hu';exact⟨_,_,hr,hx0,hd⟩
 have hone:∀u,u∈vs→u.oneCell'=true:=fun u hu=>by
  obtain⟨j,hj⟩:=List.getElem?_of_mem hu;obtain⟨r,x,_,_,hd⟩:=hrow1 j u hj;exact hd.one
 have hbig:w.heap.size<(w.alloc (.cells #[.string key] (ρ.t 9))).heap.size:=by simp
 have hkeep:(w.alloc (.cells #[.string key] (ρ.t 9))).heap[w.heap.size]?=some (.cells #[.string key] (ρ.t 9) (0,0)):=heap_alloc_new _ _;have hblk:∀g,(a.eval xa).ownBlock=some g→w.heap.size≠g:=fun g hg e1=>by
  have hsl:c.sl i n=some (a.eval xa):=by
   cases hrxa with
   |data h=>cases h
   |own _ _ _ h _=>exact h
  have hb:qag c i (.uarr (ρ.t 9) 1 rows)=some g:=by simp[qag,hn,hsl,hg]
  have:=(s.hs.obj i _ hi).lt hb;omega
 have hcall:=insert_calls L hown hone hpos hlen (vb:=w.heap.size) (vc:=1) hkeep rfl hblk;have heva:(a.put o1.dst (.slice (some ⟨w.heap.size,0,none⟩) 1 1)).eval xa=a.eval xa:=by
  rw[hd1];cases xa with
  |tmp t=>have:=hne t rfl;simp[Act.put,Act.eval,Array.getElem?_setIfInBounds_ne (Ne.symm this),Array.getD_eq_getD_getElem?]
  |_=>rfl
 have hevb:(a.put o1.dst (.slice (some ⟨w.heap.size,0,none⟩) 1 1)).eval xb=.int .i64 pos:=by
  rw[←hvb,hd1];cases xb with
  |tmp t=>have:=hneb t rfl;simp[Act.put,Act.eval,Array.getElem?_setIfInBounds_ne (Ne.symm this),Array.getD_eq_getD_getElem?]
  |_=>rfl
 have hsz':d1<a.tmps.size:=by rw[s.size];exact hlt1
 have hevd:(a.put o1.dst (.slice (some ⟨w.heap.size,0,none⟩) 1 1)).eval (.tmp d1)=.slice (some ⟨w.heap.size,0,none⟩) 1 1:=by
  rw[hd1];simp[Act.put,Act.eval,hsz']
 refine qdq (G:=true) (by simp[Region.wanted,g2]) (fun _=>?_) (fun h=>by cases h);unfold Oper.wp;rw[run_enter (us:=#[]) (vs:=#[]) hop2 (by rw[hf];rfl) hE22];simp only[Array.empty_append,Array.append_empty,List.map_toArray,List.map_cons,List.map_nil,heva,hevb,hevd];refine hcall.mono ?_;rintro en w' ⟨v',rfl,hpost⟩;have hrlen:rows.length=n:=hn;have hlen':(rows.take pos++[.val (.string key)]::rows.drop pos).length=n+1:=by simp;omega
 obtain⟨c2,hle2,s3,k3,hr3⟩:=uarr_grow (E:=E) s1 k1 (rows':=rows.take pos++[.val (.string key)]::rows.drop pos) (us:=vs.take pos++.string key::vs.drop pos) hi (by rw[hn];exact hv) (by omega) (by omega) (fun r hr=>by
   rcases List.mem_append.1 hr with hr|hr
   ·exact hrl r (List.mem_of_mem_take hr)
   ·rcases List.mem_cons.1 hr with rfl|hr
    ·rfl
    ·exact hrl r (List.mem_of_mem_drop hr)) (fun i' j r x hr hx=>by
   have hvl:vs.length=n:=by have:=hown.1;omega
   have hj0:∀r':List AV,r'.length=1→r'[j]?=some x→j=0:=fun r' hr' hx'=>by have:=(List.getElem?_eq_some_iff.1 hx').1;omega
   by_cases h1:i'<pos
   ·rw[List.getElem?_append_left (by simp;omega),List.getElem?_take,if_pos h1]at hr;have hj:=hj0 r (hrl r (List.mem_of_getElem? hr)) hx;subst hj;obtain⟨u,hu,hd⟩:=hcells i' 0 r x hr hx;refine⟨u,?_,hd⟩;rw[Nat.mul_one,Nat.add_zero]at hu⊢;rw[List.getElem?_append_left (by simp;omega),List.getElem?_take,if_pos h1];exact hu
   ·rw[List.getElem?_append_right (by simp;omega)]at hr;simp only[List.length_take,hrlen,Nat.min_eq_left hpos]at hr;by_cases h2:i'=pos
    ·subst h2;rw[Nat.sub_self]at hr;simp at hr;subst hr;have hj:=hj0 [_] rfl hx;subst hj;simp at hx;subst hx;refine⟨.string key,?_,.val _ rfl (val_ok hrx)⟩;rw[Nat.mul_one,Nat.add_zero,List.getElem?_append_right (by simp;omega)];simp[hvl,Nat.min_eq_left hpos]
    ·rw[show i' - pos=(i' - (pos+1))+1 by omega]at hr;simp only[List.getElem?_cons_succ,List.getElem?_drop]at hr;rw[show pos+(i' - (pos+1))=i' - 1 by omega]at hr;have hj:=hj0 r (hrl r (List.mem_of_getElem? hr)) hx;subst hj;obtain⟨u,hu,hd⟩:=hcells (i' - 1) 0 r x hr hx;refine⟨u,?_,hd⟩;rw[Nat.mul_one,Nat.add_zero]at hu⊢;rw[List.getElem?_append_right (by simp;omega)];simp only[List.length_take,hvl,Nat.min_eq_left hpos];rw[show i' - pos=(i' - (pos+1))+1 by omega];simp only[List.getElem?_cons_succ,List.getElem?_drop];rw[show pos+(i' - (pos+1))=i' - 1 by omega];exact hu) hpost.one (by rw[hlen'];exact hpost.own) hpost.os hpost.tape hpost.output hpost.size hpost.two
 rw[hlen']at hr3;refine hnext c2 _ w' ?_ k3;have:=s2.put (x:=.own i (n+1)) (d:=o2.dst) hle2 s3 (dst_lt hd2) hr3;rw[hd1]at this⊢;exact this
end
end Go.Abs

namespace Go.Abs
section
variable {P:Program} {E:Ent}
end
end Go.Abs

namespace Go.Abs
theorem obj_repl{E:Ent}{c:Ctx}{h:qab}{w:World}(s:HSim c h w)(k:E.ok c h w){i:Nat}{o o':AObj}(hi:h[i]?=some o)(hR:ObjR c w i o')(hb:∀b,qag c i o'=some b→qag c i o=some b)(hsh:∀j,o.shares j→o'.shares j) :
  HSim c (h.set i o') w∧E.ok c (h.set i o') w:=by
 have holt:∀j ob b',(h.set i o')[j]?=some ob→qag c j ob=some b'→∃o0,h[j]?=some o0∧qag c j o0=some b'∧∀m,o0.shares m→ob.shares m:=fun j ob b' hj hb'=>by
  rcases qad hj with⟨rfl,rfl⟩|⟨hne,h1⟩
  ·exact⟨_,hi,hb _ hb',hsh⟩
  ·exact⟨ob,h1,hb',fun _ h=>h⟩
 refine⟨⟨s.data,fun j hj=>s.dom j (by simpa using hj),fun j ob hj=>?_,fun j j' ob o2 b' hj hj' hb1 hb2=>?_,fun j ob b' m v hj hb1 hD=>?_⟩,⟨k.edom,k.ext,k.blk0,by simpa using k.len,k.os,k.tape,k.output,k.size,k.frame,fun j ob b' hj hb1=>?_,k.dold⟩⟩
 ·rcases qad hj with⟨rfl,rfl⟩|⟨hne,h1⟩
  ·exact hR
  ·exact s.obj j ob h1
 ·obtain⟨o3,g1,g1',_⟩:=holt j ob b' hj hb1;obtain⟨o4,g2,g2',_⟩:=holt j' o2 b' hj' hb2;exact s.apart j j' o3 o4 b' g1 g2 g1' g2'
 ·obtain⟨o3,g1,g1',g3⟩:=holt j ob b' hj hb1;exact g3 m (s.sep j o3 b' m v g1 g1' hD)
 ·obtain⟨o3,g1,g1',_⟩:=holt j ob b' hj hb1;exact k.newobj j o3 b' g1 g1'
end Go.Abs

namespace Go.Abs
open Go.Proofs Go.Shelf
section
variable {P:Program} {E:Ent}
structure InsPostK(w w':World)(v v':Value)(e:TypeId)(sz n:Nat)(us:List Value):Prop where
 one:v'.oneCell'=true
 own:w'.ownsRow 0 e sz v' n us
 os:w'.os=w.os
 tape:w'.tape=w.tape
 output:w'.output=w.output
 size:w.heap.size≤w'.heap.size
 two:(∃g,v.ownBlock=some g∧v'.ownBlock=some g∧∀k,k≠g→w'.heap[k]?=w.heap[k]?)∨(v'.ownBlock=some w.heap.size∧∀k,k<w.heap.size→w'.heap[k]?=w.heap[k]?)
end
end Go.Abs

namespace Go.Abs
section
variable {P:Program} {E:Ent}
end
end Go.Abs
