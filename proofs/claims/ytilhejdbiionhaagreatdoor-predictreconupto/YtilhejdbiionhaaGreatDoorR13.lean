/- Part 13 of a proof: AbsZd, AbsWd, AbsXw, AbsBd, AbsWq, AbsRec -/
import Derived.Recover
import Derived.Test.YtilhejdbiionhaaGreatDoorR07
import Derived.Test.YtilhejdbiionhaaGreatDoorR08
import Derived.Test.YtilhejdbiionhaaGreatDoorR09
import Derived.Test.YtilhejdbiionhaaGreatDoorR12
set_option linter.all false

namespace Go.Abs
section
variable {P:Program} {E:Ent}
structure HeadOk(m:Nat)(l:List Oper):Prop where
 after:∀(j:Nat) (o:Oper),l[j]?=some o→∀e,e∈o.after→Region.binds .any e=true→e.on<j
 ord:∀i j,m≤i→i<l.length→j<m→ordB (Region.before l.toArray) j i=true
def headB(m:Nat)(l:List Oper):Bool :=
 let b:=Region.before l.toArray
 (l.zipIdx.all fun p=>p.1.after.all fun e=>!Region.binds .any e||e.on<p.2) &&
 ((List.range l.length).all fun i=>decide (i<m)||(List.range m).all fun j=>ordB b j i)
theorem headOk_of{m:Nat}{l:List Oper}(h:headB m l=true):HeadOk m l:=by
 simp only[headB,Bool.and_eq_true,List.all_eq_true]at h;obtain⟨h1,h2⟩:=h;refine⟨fun j o hj e he hb=>?_,fun i j hi hlt hj=>?_⟩
 ·have:=h1 (o,j) (qc8 hj);simp only[Array.all_eq_true']at this;have:=this e he;simpa[hb]using this
 ·have:=h2 i (by simpa using hlt);simp only[Bool.or_eq_true,decide_eq_true_eq,List.all_eq_true]at this;rcases this with h|h
  ·omega
  ·exact h j (by simpa using hj)
theorem any_okH{l:List Oper}{m:Nat}(hm:m≤l.length)(t:HeadOk m l){e0:Env}{R:List DR}(d:DReg P E (l.take m) e0 R)(hE0:E.h.length≤e0.h.length){Q:Exit→Act→World→Prop}
  (hQ:∀fuel L,L.size=l.length→(∀j,j<l.length→(L.getD j false=true↔j<m))→l.length - m≤fuel→∀c a w,Sim E.N c ⟨(qal e0 R).t,qce R (qal e0 R).h⟩ a w→E.ok c (qce R (qal e0 R).h) w→wpAny P .any l.toArray Q fuel L a w) :
  ∀(fuel:Nat) (L:Array Bool),L.size=l.length→(∀j,m≤j→L.getD j false=false)→L.toList.count false≤fuel→qem l (fun j=>L.getD j false)→∀(c:Ctx) (a:Act) (w:World),DInv E e0 R (fun j=>L.getD j false) c a w→wpAny P .any l.toArray Q fuel L a w:=by
 intro fuel;have hlen:(l.take m).length=m:=by simp;omega
 have hiff:∀(L:Array Bool),(∀j,m≤j→L.getD j false=false)→(∀j,j<m→L.getD j false=true)→∀j,j<l.length→(L.getD j false=true↔j<m):=fun L hge hall j _=>by
  refine⟨fun h=>?_,hall j⟩;rcases Nat.lt_or_ge j m with h1|h1
  ·exact h1
  ·rw[hge j h1]at h;cases h
 have hcount:∀(k:Nat) (L:Array Bool),L.size=l.length→(∀j,k≤j→L.getD j false=false)→k≤l.length→l.length - k≤L.toList.count false:=fun k L hL hk hkl=>by
  have h1:(L.toList.drop k).count false=l.length - k:=by
   have h2:(L.toList.drop k).count false=(L.toList.drop k).length:=List.count_eq_length.2 fun b hb=>by
    obtain⟨j,hj⟩:=List.getElem?_of_mem hb;rw[List.getElem?_drop]at hj;have:=hk (k+j) (by omega);simp only[Array.getD_eq_getD_getElem?]at this;rw[←Array.getElem?_toList,hj]at this;simpa using this.symm
   rw[h2];simp[hL]
  have h3:(L.toList.drop k).Sublist L.toList:=List.drop_sublist _ _;have:=h3.count_le false;omega
 induction fuel with
 |zero =>
  intro L hL hge hc hcl c a w inv;by_cases hall:∀j,j<m→L.getD j false=true
  ·obtain⟨s,k⟩:=dinv_end d (fun j hj=>hall j (by omega)) inv;have:=hcount m L hL hge hm;exact hQ 0 L hL (hiff L hge hall) (by omega) c a w s k
  ·obtain⟨i,h1,h2,_⟩:=least_out hall;have:=count_ne (L:=L) (i:=i) (by omega) h2;omega
 |succ fuel ih =>
  intro L hL hge hc hcl c a w inv;by_cases hall:∀j,j<m→L.getD j false=true
  ·obtain⟨s,k⟩:=dinv_end d (fun j hj=>hall j (by omega)) inv;have:=hcount m L hL hge hm;exact hQ (fuel+1) L hL (hiff L hge hall) (by omega) c a w s k
  ·obtain⟨i0,g1,g2,g3⟩:=least_out hall;refine⟨fun hr=>?_,fun i hi=>?_⟩
   ·have:=ready_min t.after hL (i:=i0) (by omega) g2 g3;rw[hr]at this;cases this
   ·obtain⟨o,h1,h2,h3⟩:=ready_mem hi;have hlt:i<L.size:=by rw[hL];exact(List.getElem?_eq_some_iff.1 h1).1
    have hLi:L.getD i false=false:=by simpa[Array.getD,hlt]using h2
    have him:i<m:=by
     rcases Nat.lt_or_ge i m with h4|h4
     ·exact h4
     ·have:=ord_in hcl i i0 o h1 h3 (t.ord i i0 h4 (by omega) (by omega));rw[show L.getD i0 false=false from g2]at this;cases this
    have h1':(l.take m)[i]?=some o:=by rw[List.getElem?_take,if_pos him];exact h1
    have hcl':qem (l.take m) fun j=>L.getD j false:=fun j o' hj ho' e he hb=>by
     have hjm:j<m:=by have:=(List.getElem?_eq_some_iff.1 ho').1;omega
     rw[List.getElem?_take,if_pos hjm]at ho';exact hcl j o' hj ho' e he hb
    refine wpOp_take him (fun o' j want ho' hg=>?_) (wpOp_mono ?_ (draw_step (Q:=Q) d.weak hE0 hcl' inv h1' hLi h3 (d.step i o h1')))
    ·rw[h1]at ho';cases ho';have:=d.ok.guard i o j want h1' hg;omega
    ·rintro a' w' ⟨c',inv'⟩;rw[set_fun hlt]at inv';refine ih _ (by simpa using hL) (fun j hj=>?_) ?_ (closed_set hlt h1 h3 hcl) c' a' w' inv'
     ·have hf:=congrFun (set_fun hlt) j;rw[←hf,if_neg (by omega)];exact hge j hj
     ·have:=count_set_lt hlt hLi;omega
def allF(P:Program)(N:Nat)(Q:AExit→Env→Prop)(l:List Oper):Nat→Array Bool→Env→Prop
 | 0,L,e=>Region.ready .any l.toArray L=[]∧Q .normal e
 |n+1,L,e=>(Region.ready .any l.toArray L=[]→Q .normal e)∧∀i,i∈Region.ready .any l.toArray L→match l[i]? with
  |some o=>stepF P N Q (l.map (·.dst)) o e fun e'=>allF P N Q l n (L.setIfInBounds i true) e'
  |none=>False
theorem allF_sound{Q:AExit→Env→Prop}{l:List Oper}:∀(n fuel:Nat) (L:Array Bool) (e:Env),n≤fuel→allF P E.N Q l n L e→∀c a w,Sim E.N c e a w→E.ok c e.h w→wpAny P .any l.toArray (conc E Q) fuel L a w
 | 0,fuel,L,e,_,h,c,a,w,s,k=>by
  obtain⟨h1,h2⟩:=h;have hq:conc E Q .normal a w:=⟨.normal,e,c,h2,trivial,s,k⟩
  cases fuel with
  |zero=>exact⟨h1,hq⟩
  |succ f=>exact⟨fun _=>hq,fun i hi=>by rw[h1]at hi;cases hi⟩
 |n+1,0,L,e,hn,_,_,_,_,_,_=>by omega
 |n+1,fuel+1,L,e,hn,h,c,a,w,s,k=>by
  obtain⟨h1,h2⟩:=h;refine⟨fun hr=>⟨.normal,e,c,h1 hr,trivial,s,k⟩,fun i hi=>?_⟩;have h3:=h2 i hi;split at h3
  ·rename_i o ho;have hget:(l.toArray)[i]?=some o:=by simpa using ho
   unfold wpOp;simp only[hget];exact stepF_sound h3 (fun G hG=>wanted_eq (done:=l) (rest:=[]) (by simp) s hG) s k fun e' c' a' w' hK s' k'=>allF_sound n fuel _ e' (by omega) hK c' a' w' s' k'
  ·exact h3.elim
def markTo(m n:Nat):Array Bool:=(List.replicate m true++List.replicate (n - m) false).toArray
theorem markTo_eq{m n:Nat}(hm:m≤n){L:Array Bool}(hL:L.size=n)(h:∀j,j<n→(L.getD j false=true↔j<m)):L=markTo m n:=by
 apply Array.ext
 ·simp[markTo,hL];omega
 ·intro i h1 h2;have:=h i (by omega);simp only[Array.getD,h1,dite_true]at this;simp only[markTo,List.getElem_toArray,List.getElem_append,List.length_replicate,List.getElem_replicate];by_cases him:i<m
  ·simp only[him,dite_true];exact this.2 him
  ·simp only[him,dite_false];cases hv:L[i]with
   |false=>rfl
   |true=>exact(him (this.1 hv)).elim
theorem awp_drawX{id:Nat}(m:Nat){l:List Oper}{Q:AExit→Env→Prop}{e:Env}(hm:P.follows .mixedOrders=true)(hB:(decide (m≤l.length)&&drawB (l.take m)&&headB m l)=true)
  (h:opsD P E.N [] (l.take m) e [] fun R e1=>sepD (Region.before (l.take m).toArray) R∧allF P E.N Q l (l.length - m) (markTo m l.length) ⟨e1.t,qce R e1.h⟩):AWp P E (.region id l.toArray true) Q e:=fun c a w s k=>by
 simp only[Bool.and_eq_true,decide_eq_true_eq]at hB;obtain⟨⟨hml,hdB⟩,hT⟩:=hB;have hd:=drawOk_of hdB;obtain⟨R,hRl,hst,hsep,hQ⟩:=opsD_wit h;simp only[List.nil_append]at hst hsep;have d:DReg P E (l.take m) e R:=by
  refine⟨hd,hRl,hst,fun k s r r' i off cs hr hk hs' hk'=>?_⟩;unfold sepD at hsep;rw[List.all_eq_true]at hsep;have h1:=hsep (r,k) (by rw[List.mem_zipIdx_iff_getElem?];simpa using hr);simp only[hk,List.all_eq_true]at h1;have h2:=h1 (r',s) (by rw[List.mem_zipIdx_iff_getElem?];simpa using hs');simp only[hk',bne_self_eq_false,Bool.false_or,Bool.and_eq_true,decide_eq_true_eq]at h2;exact h2
 refine wp_region_any hm ?_;have hs':HSim c e.h { w with drawn:=w.drawn+1 }:=s.hs.ext (fun _ _=>rfl) (.refl c) (fun _ _=>rfl) (fun _ _ _ h=>.inl h) s.hs.dom;have hk':E.ok c e.h { w with drawn:=w.drawn+1 }:=k.ext' s.hs (fun _ _=>rfl) (.refl c) (fun _=>rfl) rfl rfl rfl (Nat.le_refl _) (fun _ _ _ h=>.inl h);have hff:(fun _=>false)=fun j=>(Array.replicate l.toArray.size false).getD j false:=by
  funext j;simp[Array.getD_eq_getD_getElem?,Array.getElem?_replicate];split<;>rfl
 refine any_okH hml (headOk_of hT) d k.len (fun fuel L hL hj hf c' a' w' s' k'=>?_) _ _ (by simp) (fun j _=>(congrFun hff j).symm) ?_ ?_ c a _ ?_
 ·rw[markTo_eq hml hL hj];exact allF_sound _ fuel _ _ hf hQ c' a' w' s' k'
 ·simp
 ·intro j o hj;rw[←hff]at hj;cases hj
 ·rw[←hff];exact dinv_start ⟨s.defers,s.size,s.tmps,hs'⟩ hk'
end
end Go.Abs

namespace Go.Abs
def TDCall(P:Program)(fid:FuncId)(G:Bool)(pre:Prop)(args:List AV)(e:Env)(acc:List DR)(K:Bool→Env→List DR→AV→Prop)(_:Tag K):Prop:=∃r,(G=true→pre∧APureAt P fid args r e.h)∧K G e acc r
def stepDG(P:Program)(N:Nat)(ds:List (Option Tmp))(o:Oper)(e:Env)(acc:List DR)(K:Env→List DR→DR→Prop):Prop :=
 match gB ds e o.guard with
 |none=>False
 |some G =>
  qee N o.dst ∧
  match o.op with
  | .call { callee:=.value f,args,.. }=>match e.getS f with
   | .fn (.func fid) first caps=>TDCall P fid G (qaw e true (f::args.toList)) (qbi e.h (first++args.toList.map e.getS++caps)) e acc (fun G e acc r=>K e acc ⟨o.dst,optV o.guard G r,.quiet none⟩) ⟨⟩
   |_=>False
  | .pick x y z=>pickOk G (e.get x) (e.get y) (e.get z)∧K e acc ⟨o.dst,optV o.guard G (pickV (e.get x) (e.get y) (e.get z)),.quiet none⟩
  | .box _ x=>o.guard=none∧qaw e true [x]∧(e.getS x).cellsOk=true∧K e acc ⟨o.dst,.ptr e.h.length 0,.fresh (e.getS x).cells⟩
  | .alloc T=>o.guard=none∧qah P T≠.other∧K e acc ⟨o.dst,.ptr e.h.length 0,.fresh (qba P T)⟩
  | .store T a x=>o.guard=none∧o.dst=none∧qaw e true [a,x]∧qah P T≠.other∧(e.getS x).cellsOk=true∧(e.getS x).cells.length=qat P T ∧
   match e.getS a with
   | .ptr i off=>match e.h[i]? with
    |some (.cells xs)=>off+(e.getS x).cells.length≤xs.length∧K e acc ⟨none,.top,.store i off (e.getS x).cells⟩
    |_=>False
   |_=>False
  | .buildSlice T n parts =>
   match qah P T with
   | .slice el sz=>match litRows e.h sz 0 (parts.toList.map fun p=>(p.1,e.getS p.2))with
    |some rows=>G=true∧qaw e true (parts.toList.map (·.2))∧rows.length=n∧0<sz∧n * sz≤16777216∧qah P el≠.other∧qat P el=sz∧K e acc ⟨o.dst,optV o.guard G (.slice rows),.quiet none⟩
    |none=>match litOne sz n (parts.toList.map fun p=>(p.1,e.getS p.2))with
     |some cs=>G=true∧qaw e true (parts.toList.map (·.2))∧0<sz∧sz≤16777216∧qah P el≠.other∧qat P el=sz∧K e acc ⟨o.dst,optV o.guard G (.lit cs),.quiet none⟩
     |none=>False
   |_=>False
  |op=>(G=true→qaw e true op.operands.toList∧(qbp P e.getS e.h op).side)∧K e acc ⟨o.dst,optV o.guard G (qbp P e.getS e.h op).val,.quiet (rdOf e op)⟩
theorem stepDG_D{P:Program}{N:Nat}{ds:List (Option Tmp)}{o:Oper}{e:Env}{acc:List DR}{K:Env→List DR→DR→Prop}(h:stepDG P N ds o e acc K):stepD P N ds o e (K e acc):=by
 obtain⟨dst,op,ty,pos,after,guard⟩:=o;unfold stepDG at h;unfold stepD;split at h
 ·exact h.elim
 ·rename_i G hG;simp only[hG];obtain⟨hd,h⟩:=h;refine⟨hd,?_⟩;cases op with
  |call cl =>
   obtain⟨callee,args,ats⟩:=cl;cases callee with
   |value f=>exact h
   |_=>exact h
  |_=>exact h
def opsDG(P:Program)(N:Nat):List (Option Tmp)→List Oper→Env→List DR→(List DR→Env→Prop)→Prop
 |_,[],e,acc,K=>K acc e
 |ds,o::l,e,acc,K=>stepDG P N ds o e acc fun e acc r=>opsDG P N (ds++[o.dst]) l (r.next e) (acc++[r]) K
theorem opsDG_D{P:Program}{N:Nat}:∀{l:List Oper} {ds:List (Option Tmp)} {e:Env} {acc:List DR} {K:List DR→Env→Prop},opsDG P N ds l e acc K→opsD P N ds l e acc K
 | [],_,_,_,_,h=>h
 |_::_,_,_,_,_,h=>stepD_mono (stepDG_D h) fun _ hr=>opsDG_D hr
theorem opsD_of{P:Program}{N:Nat}:∀{l:List Oper} {ds:List (Option Tmp)} {e:Env} {acc:List DR} {K:List DR→Env→Prop} {R:List DR},R.length=l.length →
  (∀(k:Nat) (o:Oper),l[k]?=some o→stepD P N (ds++(l.take k).map (·.dst)) o (qal e (R.take k)) (fun r=>R[k]?=some r))→K (acc++R) (qal e R)→opsD P N ds l e acc K
 | [],ds,e,acc,K,R,hl,hs,hK=>by
  have:=List.length_eq_zero_iff.1 hl;subst this;simpa[opsD,qal]using hK
 |o::l,ds,e,acc,K,[],hl,hs,hK=>by simp at hl
 |o::l,ds,e,acc,K,r::R,hl,hs,hK=>by
  simp only[opsD];have h0:=hs 0 o rfl;simp only[List.take_zero,List.map_nil,List.append_nil,qal,List.getElem?_cons_zero,Option.some.injEq]at h0;refine stepD_mono h0 fun r' hr=>?_;subst hr;refine opsD_of (R:=R) (by simpa using hl) (fun k o' ho=>?_) (by simpa[qal,List.append_assoc]using hK);have:=hs (k+1) o' (by simpa using ho);simpa[qal,List.append_assoc]using this
section
variable {P:Program} {E:Ent}
theorem qa4{id:Nat}(m:Nat){l:List Oper}{Q:AExit→Env→Prop}{e:Env}(hm:P.follows .mixedOrders=true)(hB:(decide (m≤l.length)&&drawB (l.take m)&&tailB m l)=true)
  (h:opsDG P E.N [] (l.take m) e [] fun R e1=>sepD (Region.before (l.take m).toArray) R∧opsG P E.N Q ((l.take m).map (·.dst)) (l.drop m) ⟨e1.t,qce R e1.h⟩):AWp P E (.region id l.toArray true) Q e :=
 awp_drawA m hm hB (opsD_mono0 (opsDG_D h) fun _ _ hk=>⟨hk.1,qcf (l.drop m) (l.take m) _ (by simp) hk.2⟩)
theorem qai{id:Nat}(m:Nat){l:List Oper}{Q:AExit→Env→Prop}{e:Env}(hm:P.follows .mixedOrders=true)(hB:(decide (m≤l.length)&&drawB (l.take m)&&tailB m l)=true)(hq:((l.take m).all fun o=>!isStore o.op)=true)
  (h:opsDG P E.N [] (l.take m) e [] fun R e1=>opsG P E.N Q ((l.take m).map (·.dst)) (l.drop m) ⟨e1.t,qce R e1.h⟩):AWp P E (.region id l.toArray true) Q e:=by
 refine awp_drawA m hm hB ?_;obtain⟨R,hlen,hstep,hQ⟩:=opsD_wit (opsDG_D h);have hno:∀r,r∈R→∀i off cs,r.k≠.store i off cs:=fun r hr i off cs hk=>by
  obtain⟨j,hj⟩:=List.getElem?_of_mem hr;have hlt:j<(l.take m).length:=by rw[←hlen];exact(List.getElem?_eq_some_iff.1 hj).1
  obtain⟨_,r',h1,h2,h3⟩:=stepD_dst (hstep j (l.take m)[j] (List.getElem?_eq_getElem hlt));rw[hj]at h2;cases h2;have:=h3 ⟨i,off,cs,hk⟩;have k:=List.all_eq_true.1 hq (l.take m)[j] (List.getElem_mem _);rw[this]at k;cases k
 refine opsD_of (R:=R) hlen hstep ⟨?_,qcf (l.drop m) (l.take m) _ (by simp) (by simpa using hQ)⟩;unfold sepD;rw[List.all_eq_true];intro p hp;split
 ·rw[List.all_eq_true];intro q hq';split
  ·rename_i i _ _ j off cs hk;have hm':q.1∈R:=by
    obtain⟨a,b⟩:=q;rw[List.mem_zipIdx_iff_getElem?]at hq';exact List.mem_of_getElem? (by simpa using hq')
   exact(hno q.1 hm' _ _ _ hk).elim
  ·rfl
 ·rfl
theorem qax{fid:FuncId}{G:Bool}{pre:Prop}{args:List AV}{e:Env}{acc:List DR}{K:Bool→Env→List DR→AV→Prop}{t:Tag K}{r:AV}(hr:APure P fid args r)(hp:G=true→pre)(hK:K G e acc r):TDCall P fid G pre args e acc K t:=⟨r,fun hG=>⟨hp hG,hr.at _⟩,hK⟩
theorem tdcall_at{fid:FuncId}{G:Bool}{pre:Prop}{args:List AV}{e:Env}{acc:List DR}{K:Bool→Env→List DR→AV→Prop}{t:Tag K}{r:AV}(hr:G=true→APureAt P fid args r e.h)(hp:G=true→pre)(hK:K G e acc r):TDCall P fid G pre args e acc K t:=⟨r,fun hG=>⟨hp hG,hr hG⟩,hK⟩
end
attribute [go_sem] opsDG stepDG DR.next rdOf qce
end Go.Abs

namespace Go.Abs
theorem retype_ok{E:Ent}{c:Ctx}{h:qab}{w:World}(s:HSim c h w)(k:E.ok c h w){p:Nat}{xs xs':List AV}(hp:h[p]?=some (.cells xs))(hl:xs'.length=xs.length)
  (hr:∀(j:Nat) (x x':AV) (v:Value),xs[j]?=some x→xs'[j]?=some x'→Rel c x v→Rel c x' v):HSim c (h.set p (.cells xs')) w∧E.ok c (h.set p (.cells xs')) w:=by
 have holt:∀j o b',(h.set p (.cells xs'))[j]?=some o→qag c j o=some b'→∃o0,h[j]?=some o0∧qag c j o0=some b':=fun j o b' hj hb'=>by
  rcases qad hj with⟨rfl,rfl⟩|⟨hne,h1⟩
  ·exact⟨_,hp,hb'⟩
  ·exact⟨o,h1,hb'⟩
 refine⟨⟨s.data,fun j hj=>s.dom j (by simpa using hj),fun j o hj=>?_,fun j j' o o' b hj hj' hb hb'=>?_,fun j o b m v hj hb hD=>?_⟩,⟨k.edom,k.ext,k.blk0,by simpa using k.len,k.os,k.tape,k.output,k.size,k.frame,fun j o b hj hb=>?_,k.dold⟩⟩
 ·rcases qad hj with⟨rfl,rfl⟩|⟨hne,h1⟩
  ·obtain⟨b,vs,T,g1,g2,g3,g4⟩:=s.obj j _ hp;refine⟨b,vs,T,g1,g2,by rw[g3,hl],fun i x v hx hv=>?_⟩;have hlt:i<xs.length:=by rw[←hl];exact(List.getElem?_eq_some_iff.1 hx).1
   have h5:=g4 i xs[i] v (by simp[hlt]) hv;exact⟨hr i _ x v (by simp[hlt]) hx h5.1,h5.2⟩
  ·exact s.obj j o h1
 ·obtain⟨o1,g1,g2⟩:=holt j o b hj hb;obtain⟨o2,g3,g4⟩:=holt j' o' b hj' hb';exact s.apart j j' o1 o2 b g1 g3 g2 g4
 ·rcases qad hj with⟨rfl,rfl⟩|⟨hne,h1⟩
  ·have:=s.sep j (.cells xs) b m v hp hb hD;exact this
  ·exact s.sep j o b m v h1 hb hD
 ·obtain⟨o1,g1,g2⟩:=holt j o b hj hb;exact k.newobj j o1 b g1 g2
theorem nils_inv{c:Ctx}{v:Value}(h:Rel c .nils v):v=.slice none 0 0:=by
 cases h with
 |data h=>cases h
 |nils=>rfl
theorem promote_wk(E:Ent)(e:Env){p j t sz:Nat}{xs:List AV}(hp:e.h[p]?=some (.cells xs))(hj:xs[j]?=some .nils) :
  Wk E e ⟨e.t,(e.h++[AObj.uarr t sz []]).set p (.cells (xs.set j (.own e.h.length 0)))⟩:=fun c a w s k=>by
 obtain⟨hle,s1,k1⟩:=uarr_nil s.hs k t sz;have hlt:p<e.h.length:=(List.getElem?_eq_some_iff.1 hp).1;obtain⟨s2,k2⟩:=retype_ok s1 k1 (p:=p) (xs:=xs) (xs':=xs.set j (.own e.h.length 0)) (by rw[List.getElem?_append_left hlt];exact hp) (by simp) (fun i x x' v hx hx' hr=>by
  rcases qad hx' with⟨rfl,rfl⟩|⟨hne,h1⟩
  ·rw[hj]at hx;cases hx;have:=nils_inv hr;subst this;exact .own _ _ _ (by simp[Ctx.addSl]) rfl
  ·rw[h1]at hx;cases hx;exact hr)
 exact⟨_,⟨s.defers,s.size,fun i=>(s.tmps i).mono hle,s2⟩,k2⟩
end Go.Abs

namespace Go.Abs
mutual
def AV.bd:AV→Prop
 | .slice rows=>rows.length≤68719476736∧bdLL rows
 | .agg xs| .tuple xs=>bdL xs
 | .iface _ v=>v.bd
 | .val (.string s)=>s.size≤68719476736
 |_=>True
def bdL:List AV→Prop
 | []=>True
 |x::xs=>x.bd∧bdL xs
def bdLL:List (List AV)→Prop
 | []=>True
 |x::xs=>bdL x∧bdLL xs
end
theorem bdL_iff:∀{xs:List AV},bdL xs↔∀x,x∈xs→x.bd
 | []=>by simp[bdL]
 |x::xs=>by simp[bdL,bdL_iff (xs:=xs)]
theorem bdLL_iff:∀{xs:List (List AV)},bdLL xs↔∀x,x∈xs→bdL x
 | []=>by simp[bdLL]
 |x::xs=>by simp[bdLL,bdLL_iff (xs:=xs)]
theorem DRel.bd{D:Nat→Nat→Option Value}{x:AV}{v:Value}(h:DRel D x v):x.bd:=by
 induction h with
 |val v h hs =>
  cases v with
  |string s=>simpa[AV.bd,strOk]using hs
  |_=>trivial
 |nil=>exact⟨Nat.zero_le _,trivial⟩
 |empty a=>exact⟨Nat.zero_le _,trivial⟩
 |slice rows b off cap sz g hsz hB hc h1 h2 ih =>
  refine⟨hB,?_⟩;rw[bdLL_iff];intro r hr;rw[bdL_iff];intro x hx;obtain⟨i,hi⟩:=List.getElem?_of_mem hr;obtain⟨j,hj⟩:=List.getElem?_of_mem hx;exact ih i j r x hi hj
theorem Rel.bd{c:Ctx}{x:AV}{v:Value}(h:Rel c x v):x.bd:=by
 induction h with
 |data h=>exact h.bd
 |agg xs vs hl ho h ih|tuple xs vs hl h ih =>
  show bdL xs;rw[bdL_iff];intro x hx;obtain⟨j,hj⟩:=List.getElem?_of_mem hx;have hlt:j<vs.size:=by rw[hl];exact(List.getElem?_eq_some_iff.1 hj).1
  exact ih j x vs[j] hj (by simp[hlt])
 |iface t x v h ih=>exact ih
 |val v hs =>
  cases v with
  |string s=>simpa[AV.bd,strOk]using hs
  |_=>trivial
 |_=>trivial
def AObj.bd:AObj→Prop
 | .cells xs=>bdL xs
 | .map es=>∀p,p∈es→p.1.bd∧p.2.bd
 | .arr _ _ rows| .uarr _ _ rows=>rows.length≤68719476736∧bdLL rows
 |_=>True
theorem HSim.bd{c:Ctx}{h:qab}{w:World}(s:HSim c h w):∀o,o∈h→o.bd:=by
 intro o ho;obtain⟨i,hi⟩:=List.getElem?_of_mem ho;have k:=s.obj i o hi;cases o with
 |none=>trivial
 |iter=>trivial
 |raw=>trivial
 |oarr=>trivial
 |cells xs =>
  obtain⟨b,vs,T,h1,h2,h3,h4⟩:=k;show bdL xs;rw[bdL_iff];intro x hx;obtain⟨j,hj⟩:=List.getElem?_of_mem hx;have hlt:j<vs.size:=by rw[h3];exact(List.getElem?_eq_some_iff.1 hj).1
  exact(h4 j x vs[j] hj (by simp[hlt])).1.bd
 |map es =>
  obtain⟨b,ces,clock,h1,h2,h3,h4,h5⟩:=k;intro p hp;obtain⟨j,hj⟩:=List.getElem?_of_mem hp;have hlt:j<ces.size:=by rw[h3];exact(List.getElem?_eq_some_iff.1 hj).1
  have:=h4 j p.1 p.2 ces[j] hj (by simp[hlt]);exact⟨this.1.bd,this.2.bd⟩
 |arr e sz rows =>
  obtain⟨v,vs,h1,h2,h3,h4,h5,h6,h7,h8⟩:=k;refine⟨h5,?_⟩;rw[bdLL_iff];intro r hr;rw[bdL_iff];intro x hx;obtain⟨i',hi'⟩:=List.getElem?_of_mem hr;obtain⟨j,hj⟩:=List.getElem?_of_mem hx;obtain⟨u,_,hd⟩:=h7 i' j r x hi' hj;exact hd.bd
 |uarr e sz rows =>
  obtain⟨v,vs,h1,h2,h3,h4,h5,h6,h7⟩:=k;refine⟨h5,?_⟩;rw[bdLL_iff];intro r hr;rw[bdL_iff];intro x hx;obtain⟨i',hi'⟩:=List.getElem?_of_mem hr;obtain⟨j,hj⟩:=List.getElem?_of_mem hx;obtain⟨u,_,hd⟩:=h7 i' j r x hi' hj;exact hd.bd
section
variable {P:Program} {E:Ent} {Q:AExit→Env→Prop} {e:Env}
theorem awp_start{f:FuncId}{args:List AV}{h:qab}{R:AEnd→qab→Prop}(H:bdL args→(∀o,o∈h→o.bd)→qao h.length args=true→ACalls P f args h R)(hf:Enter P f):ACalls P f args h R :=
 ⟨hf,fun c w vs hs ha=>(H (by
  rw[bdL_iff];intro x hx;obtain⟨j,hj⟩:=List.getElem?_of_mem hx;have hlt:j<vs.size:=by rw[ha.1];exact(List.getElem?_eq_some_iff.1 hj).1
  exact(ha.2 j x vs[j] hj (by simp[hlt])).bd) hs.bd (by
  rw[qbk];intro x hx;obtain⟨j,hj⟩:=List.getElem?_of_mem hx;have hlt:j<vs.size:=by rw[ha.1];exact(List.getElem?_eq_some_iff.1 hj).1
  exact(ha.2 j x vs[j] hj (by simp[hlt])).under hs.dom)).2 c w vs hs ha⟩
theorem acalls_introB{f:FuncId}{fn:Func}{code:Code}{args:List AV}{h:qab}{R:AEnd→qab→Prop}(hf:P.funcs[f]?=some fn)(hb:fn.body=some code)(hnm:(fn.name == "runtime.NumGoroutine")=false)(hN:args.length≤fn.ntmps)
  (body:∀E:Ent,E.N=fn.ntmps→E.h=h→hUnder h.length h=true→bdL args→(∀o,o∈h→o.bd)→qao h.length args=true→AWp P E code (fnPost P fn.results.toList h.length R) ⟨qdz 0 args,h⟩):ACalls P f args h R :=
 awp_start (fun hb1 hb2 hb3=>acalls_intro hf hb hnm hN fun E h1 h2 h3=>body E h1 h2 h3 hb1 hb2 hb3) ⟨fn,hf,by rw[hb];rfl,hnm⟩
theorem apure_introB{f:FuncId}{fn:Func}{code:Code}{args:List AV}{r:AV}(hf:P.funcs[f]?=some fn)(hb:fn.body=some code)(hnm:(fn.name == "runtime.NumGoroutine")=false)(hN:args.length≤fn.ntmps)(hr:r.under 0=true)
  (body:∀(E:Ent) (h:qab),E.N=fn.ntmps→E.h=h→hUnder h.length h=true→bdL args→AWp P E code (purePost P fn.results.toList r h) ⟨qdz 0 args,h⟩):APure P f args r:=fun h =>
 awp_start (fun hb1 _ _=>apure_intro hf hb hnm hN hr (fun E h1 h2 h3 h4=>body E h1 h2 h3 h4 hb1) h) ⟨fn,hf,by rw[hb];rfl,hnm⟩
end
theorem qan{h:qab}(hu:hUnder h.length h=true)(l:qab)(k:Nat):hUnder (h.length+k) (h++l)=hUnder (h.length+k) l:=by
 rw[qar,qau (by omega) hu,Bool.true_and]
theorem hwk_app{a b:qab}:∀{h:qab},hwk (h++a) (h++b)↔hwk a b
 | []=>Iff.rfl
 |o::h=>by
  simp only[List.cons_append,hwk,hwk_app (h:=h)];exact⟨fun x=>x.2,fun x=>⟨.refl o,x⟩⟩
attribute [go_sem] hUnder AObj.under hwk ObjWk hwk_app
theorem nil_wk(E:Ent)(e:Env)(i t sz:Nat)(hi:qbb e.t i=.nils):Wk E e ⟨(i,.own e.h.length 0)::e.t,e.h++[.arr t sz []]⟩:=by
 have h1:Wk E e ⟨(i,.own e.h.length 0)::e.t,e.h++[.uarr t sz []]⟩:=fun c a w s k=>by
  obtain⟨hle,s1,k1⟩:=uarr_nil s.hs k t sz;refine⟨_,⟨s.defers,s.size,fun j=>?_,s1⟩,k1⟩;simp only[qbb];by_cases hj:i=j
  ·subst hj;simp only[beq_self_eq_true,cond_true];have:=s.tmps i;rw[hi]at this;rw[nils_inv this];exact .own _ _ _ (by simp[Ctx.addSl]) rfl
  ·have:(i == j)=false:=by simpa using hj
   simp only[this,cond_false];exact(s.tmps j).mono hle
 refine h1.trans ?_;have:=qef E ⟨(i,.own e.h.length 0)::e.t,e.h++[.uarr t sz []]⟩ (i:=e.h.length) (t:=t) (sz:=sz) (rows:=[]) (by simp);simpa using this
def normT(h:qab)(t:List (Nat×AV)):List (Nat×AV):=t.map fun p=>(p.1,p.2.norm h)
theorem normT_look(h:qab)(i:Nat):∀t:List (Nat×AV),qbb (normT h t) i=(qbb t i).norm h
 | []=>rfl
 |(j,x)::t=>by
  simp only[normT,List.map_cons,qbb];cases j == i with
  |true=>rfl
  |false=>exact normT_look h i t
theorem norm_wk(E:Ent)(e:Env):Wk E e ⟨normT e.h e.t,e.h⟩:=fun c a w s k =>
 ⟨c,⟨s.defers,s.size,fun i=>by
  show Rel c (qbb (normT e.h e.t) i) _;rw[normT_look];exact norm_rel s.hs (s.tmps i),s.hs⟩,k⟩
attribute [go_sem] normT
@[simp] theorem bd_slice_map{α:Type}(f:α→List AV)(l:List α):(AV.slice (l.map f)).bd↔l.length≤68719476736∧∀x,x∈l→bdL (f x):=by
 simp[AV.bd,bdLL_iff]
end Go.Abs

namespace Go.Abs
section
variable {P:Program}
theorem qak{f:FuncId}{fn:Func}{code:Code}{args:List AV}{r:AV}{N:Nat}(hf:P.funcs[f]?=some fn)(hn:fn.ntmps=N)(hb:fn.body=some code)(hnm:(fn.name == "runtime.NumGoroutine")=false)(hl:decide (args.length≤N)=true)(hr:r.under 0=true)
  (body:∀(E:Ent) (h:qab),E.N=N→E.h=h→hUnder h.length h=true→bdL args→wpC P E code (purePost P fn.results.toList r h) ⟨qdz 0 args,h⟩):APure P f args r:=by
 subst hn;exact apure_introB hf hb hnm (of_decide_eq_true hl) hr fun E h h1 h2 h3 h4=>qay _ _ _ (body E h h1 h2 h3 h4)
theorem qaz{f:FuncId}{fn:Func}{code:Code}{args:List AV}{h:qab}{R:AEnd→qab→Prop}{N:Nat}(hf:P.funcs[f]?=some fn)(hn:fn.ntmps=N)(hb:fn.body=some code)(hnm:(fn.name == "runtime.NumGoroutine")=false)(hl:decide (args.length≤N)=true)
  (body:∀E:Ent,E.N=N→E.h=h→hUnder h.length h=true→bdL args→(∀o,o∈h→o.bd)→qao h.length args=true→wpC P E code (fnPost P fn.results.toList h.length R) ⟨qdz 0 args,h⟩):ACalls P f args h R:=by
 subst hn;exact acalls_introB hf hb hnm (of_decide_eq_true hl) fun E h1 h2 h3 h4 h5 h6=>qay _ _ _ (body E h1 h2 h3 h4 h5 h6)
theorem wkA{E:Ent}{e e1:Env}(d:wkT e1.h.length e.t e1.t:=by simp[go_sem])(a:E.h.length≤e1.h.length:=by simp[hh])(b:hwk e.h e1.h:=by simp[go_sem])(c:hUnder e1.h.length e1.h=true:=by simp[hu,qan hu,go_sem]):Wk E e e1:=Wk.mk a b c d
end
end Go.Abs

namespace Go.Abs
section
variable {P:Program} {E:Ent}
theorem fnPost_end{fn:Func}{n0:Nat}{R:AEnd→qab→Prop}{x':AExit}{e':Env}{c':Ctx}{ex:Exit}{a':Act}{w':World}(hn0:E.h.length≤n0)(hq:fnPost P fn.results.toList n0 R x' e')(hx:XR c' x' ex)
  (s:Sim E.N c' e' a' w') (k:E.ok c' e'.h w') :
  (∃v r h' c2,(ex=.ret∨ex=.normal)∧(results fn a'.tmps).run P w'=.ok v w'∧R (.ret r) h'∧Rel c2 r v∧HSim c2 h' w'∧E.ok c2 h' w') ∨
  (∃u r h' c2,ex=.panic [⟨u,false,false⟩]∧R (.panic r) h'∧Rel c2 r u∧HSim c2 h' w'∧E.ok c2 h' w'):=by
 have fin:∀e'':Exit,(e''=.ret∨e''=.normal)→RetOk P fn.results.toList n0 R e'→∃v r h' c2,(e''=.ret∨e''=.normal)∧(results fn a'.tmps).run P w'=.ok v w'∧R (.ret r) h'∧Rel c2 r v∧HSim c2 h' w'∧E.ok c2 h' w':=by
  rintro e'' he ⟨hside,r',h',h1,h2,h3,h4,h5,hR⟩;obtain⟨v,hv,hr⟩:=results_ok (P:=P) s fn hside;obtain⟨c2,g1,g2,g3⟩:=finish s k hr h1 h2 h3 (by omega) h5;exact⟨v,r',h',c2,he,hv,hR,g3,g1,g2⟩
 cases x' with
 |normal=>cases ex<;>simp only[XR]at hx;exact .inl (fin _ (.inr rfl) hq)
 |exit i=>exact hq.elim
 |ret=>cases ex<;>simp only[XR]at hx;exact .inl (fin _ (.inl rfl) hq)
 |panic x =>
  cases ex with
  |panic ch =>
   cases ch with
   |nil=>simp[XR]at hx
   |cons p l =>
    cases l with
    |nil =>
     obtain⟨u,r,g⟩:=p;cases r<;>cases g<;>simp only[XR]at hx;obtain⟨v',h',h1,h2,h3,h4,h5,hR⟩:=hq;obtain⟨c2,g1,g2,g3⟩:=finish s k hx h1 h2 h3 (by omega) h5;exact .inr ⟨u,v',h',c2,rfl,hR,g3,g1,g2⟩
    |cons=>simp[XR]at hx
  |_=>simp[XR]at hx
theorem wpS_fn{fn:Func}{code:Code}{e:Env}{a:Act}{c:Ctx}{w:World}(s:Sim E.N c e a w)(k:E.ok c e.h w){H:qab}{n0:Nat}(hn0:E.h.length≤n0)
  (body:AWp P E code (fnPost P fn.results.toList n0 fun r h'=>r=.ret (.tuple [])∧h'=H) e) {c₀:Frame} {U:FrameMode} {cs:List Frame} :
  code.wpS P (bodyPostS P fn c₀ cs fun en u' w'=>(∃v,en=.returned v)∧u'=U∧∃c',HSim c' H w'∧E.ok c' H w') a ({ c₀ with mode:=U }::cs) w:=by
 refine wpS_of_wp (wp_mono (body c a w s k) ?_);rintro ex a' w' ⟨x',e',c',hq,hx,hs',ok'⟩;rcases fnPost_end hn0 hq hx hs' ok' with⟨v,r,h',c2,he,hv,⟨_,rfl⟩,_,g1,g2⟩|⟨u,r,h',c2,he,⟨h0,_⟩,_⟩
 ·rcases he with rfl|rfl
  ·exact⟨hs'.defers,U,rfl,v,hv,⟨v,rfl⟩,rfl,c2,g1,g2⟩
  ·exact⟨hs'.defers,U,rfl,v,hv,⟨v,rfl⟩,rfl,c2,g1,g2⟩
 ·cases h0
end
end Go.Abs
namespace Go.Abs
theorem qcg{n:Nat}{o:AObj}{i:Nat}{h:qab}(hu:hUnder n h=true)(ho:o.under n=true):hUnder n (h.set i o)=true:=by
 rw[hUnder_iff]at hu⊢;intro x hx;rcases List.mem_or_eq_of_mem_set hx with hx|rfl
 ·exact hu x hx
 ·exact ho
theorem hwk_take2{h:qab}{n:Nat}{o o':AObj}(hn:n≤h.length):hwk ((h.set n o).set (n+1) o') (h.take n):=by
 have e:((h.set n o).set (n+1) o')=h.take n++(((h.set n o).set (n+1) o').drop n):=by
  rw[show h.take n=((h.set n o).set (n+1) o').take n from ?_,List.take_append_drop];apply List.ext_getElem?;intro i;simp only[List.getElem?_take];split
  ·rw[List.getElem?_set_ne (by omega),List.getElem?_set_ne (by omega)]
  ·rfl
 rw[e];exact hwk.app0 _
def ddf(d:List Deferred)(a:Act):Act:={ a with defers:=a.defers++d }
theorem upon_ddf{P:Program}{o:Oper}{d:List Deferred}{a:Act}{next next':Act→World→Prop}{Q Q':Exit→Act→World→Prop}{r:Result Next}(h:o.upon P a next Q r)
  (hn:∀a w,next a w→next' (ddf d a) w) (hq:∀x a w,Q x a w→Q' x (ddf d a) w):o.upon P (ddf d a) next' Q' r:=by
 have put:∀(a:Act) (t:Option Tmp) (v:Value),(ddf d a).put t v=ddf d (a.put t v):=fun a t v=>by cases t<;>rfl
 have lets:LetsOut Q→LetsOut Q':=fun ⟨a,w,h⟩=>⟨ddf d a,w,hq _ _ _ h⟩
 unfold Oper.upon at h⊢;split at h
 ·rw[put];exact hn _ _ h
 ·rw[put];exact hn _ _ h
 ·rename_i d0 w';have e:({ ddf d a with defers:=d0::(ddf d a).defers }:Act).put o.dst undef=ddf d ({ a with defers:=d0::a.defers }.put o.dst undef):=by
   rw[←put];rfl
  simp only[e];exact hn _ _ h
 ·refine Calls.mono h fun e w' he=>?_;cases e with
  |returned v=>simp only at he⊢;rw[put];exact hn _ _ he
  |panicked c=>exact hq _ _ _ he
  |outgrown=>exact lets he
 ·rename_i row args w';intro f cs;obtain⟨v,w2,hR,hs⟩:=h f cs;exact⟨v,w2,by show next' _ _;rw[put];exact hn _ _ hR,hs⟩
 ·exact hq _ _ _ h
 ·exact h.elim
theorem wpList_ddf{P:Program}{ops:Array Oper}{d:List Deferred}{Q Q':Exit→Act→World→Prop}(hq:∀x a w,Q x a w→Q' x (ddf d a) w):∀{l:List Oper} {a:Act} {w:World},wpList P ops Q l a w→wpList P ops Q' l (ddf d a) w
 | [],a,w,h=>hq _ _ _ h
 |o::l,a,w,h=>by
  have put:∀(a:Act) (t:Option Tmp) (v:Value),(ddf d a).put t v=ddf d (a.put t v):=fun a t v=>by cases t<;>rfl
  unfold wpList at h⊢;have e1:(ddf d a).tmps=a.tmps:=rfl;rw[e1];split at h
  ·rename_i hw;rw[if_pos hw];rcases h with h|⟨h1,a',w',h2⟩
   ·exact .inl (upon_ddf h (fun a w hh=>wpList_ddf hq hh) hq)
   ·exact .inr ⟨h1,ddf d a',w',hq _ _ _ h2⟩
  ·rename_i hw;rw[if_neg hw,put];exact wpList_ddf hq h
theorem acalls_wk{P:Program}{f:FuncId}{args:List AV}{h h1:qab}{R:AEnd→qab→Prop}(hw:∀E,Wk E ⟨[],h⟩ ⟨[],h1⟩)(k:ACalls P f args h1 R):ACalls P f args h R:=by
 refine⟨k.1,fun c w vs hs ha=>?_⟩;obtain⟨c1,s1,o1⟩:=hw ⟨0,c,h,w⟩ c ⟨#[],[]⟩ w ⟨rfl,rfl,fun _=>.top _,hs⟩ (.refl 0 hs);have ha1:RelL c1 args vs:=⟨ha.1,fun j x v hx hv=>(ha.2 j x v hx hv).mono o1.ext⟩
 refine(k.2 c1 w vs s1.hs ha1).mono ?_;rintro e w' ⟨r,h',c',hR,hE,hs',ok'⟩;exact⟨r,h',c',hR,hE,hs',o1.trans ok'⟩
theorem EndR.mono{c c':Ctx}(hc:c.le c'){r:AEnd}{e:Ending}(h:EndR c r e):EndR c' r e:=by
 unfold EndR at h⊢;split at h
 ·exact h.mono hc
 ·exact h.mono hc
 ·exact h.elim
theorem acalls_wkR{P:Program}{f:FuncId}{args:List AV}{h h1 h2:qab}{r0:AEnd}(hw:∀E,Wk E ⟨[],h1⟩ ⟨[],h2⟩)(k:ACalls P f args h fun r h'=>r=r0∧h'=h1):ACalls P f args h fun r h'=>r=r0∧h'=h2:=by
 refine⟨k.1,fun c w vs hs ha=>?_⟩;refine(k.2 c w vs hs ha).mono ?_;rintro e w' ⟨r,h',c',⟨rfl,rfl⟩,hE,hs',ok'⟩;obtain⟨c1,s1,o1⟩:=hw ⟨0,c',h',w'⟩ c' ⟨#[],[]⟩ w' ⟨rfl,rfl,fun _=>.top _,hs'⟩ (.refl 0 hs');exact⟨_,_,c1,⟨rfl,rfl⟩,hE.mono o1.ext,s1.hs,ok'.trans o1⟩
theorem nilcu_wk(E:Ent)(e:Env){p j t sz:Nat}{xs:List AV}(hp:e.h[p]?=some (.cells xs))(hj:xs[j]?=some .nils) :
  Wk E e ⟨e.t,e.h.set p (.cells (xs.set j (.own e.h.length 0)))++[AObj.uarr t sz []]⟩:=by
 have h1:=promote_wk E e (t:=t) (sz:=sz) hp hj;have hlt:p<e.h.length:=(List.getElem?_eq_some_iff.1 hp).1
 rwa [List.set_append_left _ _ hlt]at h1
theorem nilc_wk(E:Ent)(e:Env){p j t sz:Nat}{xs:List AV}(hp:e.h[p]?=some (.cells xs))(hj:xs[j]?=some .nils) :
  Wk E e ⟨e.t,e.h.set p (.cells (xs.set j (.own e.h.length 0)))++[AObj.arr t sz []]⟩:=by
 have h1:=nilcu_wk E e (t:=t) (sz:=sz) hp hj;have h2:=qef E ⟨e.t,e.h.set p (.cells (xs.set j (.own e.h.length 0)))++[AObj.uarr t sz []]⟩ (i:=e.h.length) (t:=t) (sz:=sz) (rows:=[]) (by simp);refine h1.trans ?_;simpa using h2
end Go.Abs
