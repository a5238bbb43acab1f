/- Part 12 of a proof: AbsZ, AbsZc, AbsWp -/
import Derived.Test.YtilhejdbiionhaaGreatDoorR11
set_option linter.all false

namespace Go.Abs
section
variable {P:Program} {E:Ent}
theorem freshX_congr{X Y:Nat→Bool}:∀{R:List DR} {k:Nat},(∀j,j<R.length→X (k+j)=Y (k+j))→qa9 X k R=qa9 Y k R
 | [],_,_=>rfl
 |r::R,k,h=>by
  have h1:=freshX_congr (X:=X) (Y:=Y) (R:=R) (k:=k+1) fun j hj=>by
   have:=h (j+1) (by simpa using hj);rwa [show k+(j+1)=k+1+j from by omega]at this
  have h2:=h 0 (by simp);simp only[Nat.add_zero]at h2;simp only[qa9,h1,h2]
theorem selX_congr{X Y:Nat→Bool}:∀{R:List DR} {k:Nat},(∀j,j<R.length→X (k+j)=Y (k+j))→selX X k R=selX Y k R
 | [],_,_=>rfl
 |r::R,k,h=>by
  have h1:=selX_congr (X:=X) (Y:=Y) (R:=R) (k:=k+1) fun j hj=>by
   have:=h (j+1) (by simpa using hj);rwa [show k+(j+1)=k+1+j from by omega]at this
  have h2:=h 0 (by simp);simp only[Nat.add_zero]at h2;simp only[selX,h1,h2]
theorem selX_all:∀{R:List DR} {k:Nat},selX (fun _=>true) k R=R
 | [],_=>rfl
 |r::R,k=>by simp only[selX,cond_true,selX_all]
theorem selX_nil:∀{R:List DR} {k:Nat},selX (fun _=>false) k R=[]
 | [],_=>rfl
 |r::R,k=>by simp only[selX,cond_false,selX_nil]
theorem HSim.nones{c:Ctx}{h:qab}{w:World}(s:HSim c h w){l:qab}(hl:∀o,o∈l→o=.none):HSim c (h++l) w:=by
 have hsplit:∀i o,(h++l)[i]?=some o→h[i]?=some o∨o=AObj.none:=fun i o hi=>by
  by_cases hlt:i<h.length
  ·rw[List.getElem?_append_left hlt]at hi;exact .inl hi
  ·rw[List.getElem?_append_right (by omega)]at hi;exact .inr (hl o (List.mem_of_getElem? hi))
 refine⟨s.data,fun i hi=>s.dom i (by simp at hi;omega),fun i o hi=>?_,fun i j o o' b hi hj hbi hbj=>?_,fun i o b j v hi hbi hD=>?_⟩
 ·rcases hsplit i o hi with h1|rfl
  ·exact s.obj i o h1
  ·trivial
 ·rcases hsplit i o hi with h1|rfl
  ·rcases hsplit j o' hj with h2|rfl
   ·exact s.apart i j o o' b h1 h2 hbi hbj
   ·cases hbj
  ·cases hbi
 ·rcases hsplit i o hi with h1|rfl
  ·exact s.sep i o b j v h1 hbi hD
  ·cases hbi
theorem Ent.ok.nones{c:Ctx}{h:qab}{w:World}(k:E.ok c h w){l:qab}(hl:∀o,o∈l→o=.none):E.ok c (h++l) w:=by
 refine⟨k.edom,k.ext,k.blk0,by have:=k.len;simp;omega,k.os,k.tape,k.output,k.size,k.frame,fun i o b hi hb=>?_,k.dold⟩;by_cases hlt:i<h.length
 ·rw[List.getElem?_append_left hlt]at hi;exact k.newobj i o b hi hb
 ·rw[List.getElem?_append_right (by omega)]at hi;have:=hl o (List.mem_of_getElem? hi);subst this;cases hb
theorem dinv_start{e0:Env}{R:List DR}{c:Ctx}{a:Act}{w:World}(s:Sim E.N c e0 a w)(k:E.ok c e0.h w):DInv E e0 R (fun _=>false) c a w:=by
 have hn:∀o,o∈qa9 (fun _=>false) 0 R→o=.none:=fun o ho=>by
  obtain⟨j,hj⟩:=List.getElem?_of_mem ho;obtain⟨_,_,_,_,_,_,h⟩:=qda _ _ _ _ hj;simpa using h
 have hh:hX R (fun _=>false) e0.h=e0.h++qa9 (fun _=>false) 0 R:=by
  unfold hX;rw[selX_nil];rfl
 refine⟨s.defers,s.size,fun t=>?_,by rw[hh];exact s.hs.nones hn,by rw[hh];exact k.nones hn,fun i r xs _ _ _=>(s.hs.dom _ (by omega)).1,fun r hr=>?_⟩
 ·rw[slotX_none (fun j r _ h=>by cases h)];exact s.tmps t
 ·rw[selX_nil]at hr;cases hr
theorem dinv_end{l:List Oper}{e0:Env}{R:List DR}(d:DReg P E l e0 R){X:Nat→Bool}(hall:∀j,j<l.length→X j=true){c:Ctx}{a:Act}{w:World}(inv:DInv E e0 R X c a w) :
  Sim E.N c ⟨(qal e0 R).t,qce R (qal e0 R).h⟩ a w∧E.ok c (qce R (qal e0 R).h) w:=by
 have h1:∀j,j<R.length→X (0+j)=(fun _=>true) (0+j):=fun j hj=>by rw[Nat.zero_add];exact hall j (by rw[←d.len];exact hj)
 have hh:hX R X e0.h=qce R (qal e0 R).h:=by
  unfold hX;rw[selX_congr (Y:=fun _=>true) h1,selX_all,freshX_congr (Y:=fun _=>true) h1,envAt_h]
 refine⟨⟨inv.defers,inv.size,fun t=>?_,by rw[←hh];exact inv.hs⟩,by rw[←hh];exact inv.ok⟩;have:=inv.tmps t;rw[qdf (Y:=fun _=>true) fun j r hr _=>h1 j (List.getElem?_eq_some_iff.1 hr).1]at this;rw[lookT_envAt];exact this
theorem ready_mem{l:List Oper}{L:Array Bool}{i:Nat}(h:i∈Region.ready .any l.toArray L):∃o,l[i]?=some o∧L.getD i true=false∧∀e,e∈o.after→Region.binds .any e=true→L.getD e.on false=true:=by
 simp only[Region.ready,List.mem_filter,List.mem_range,Bool.and_eq_true,Bool.not_eq_true']at h;obtain⟨h1,h2,h3⟩:=h;have hlt:i<l.length:=by simpa using h1
 refine⟨l[i],by simp[hlt],h2,fun e he hb=>?_⟩;have hg:(l.toArray)[i]?=some l[i]:=by simp[hlt]
 rw[hg]at h3;simp only[Option.map_some,Option.getD_some,Array.all_eq_true']at h3;have:=h3 e he;simpa[hb]using this
theorem ready_nil{l:List Oper}(hd:DrawOk l){L:Array Bool}(hL:L.size=l.length)(h:Region.ready .any l.toArray L=[]):∀i,i<l.length→L.getD i false=true:=by
 intro i
 induction i using Nat.strongRecOn with
 |_ i ih =>
  intro hi;cases hv:L.getD i false with
  |true=>rfl
  |false =>
   have hg:l[i]?=some l[i]:=by simp[hi]
   have hm:i∈Region.ready .any l.toArray L:=by
    simp only[Region.ready,List.mem_filter,List.mem_range,Bool.and_eq_true,Bool.not_eq_true'];refine⟨by simpa using hi,?_,?_⟩
    ·have:i<L.size:=by omega
     simpa[Array.getD,this]using hv
    ·have hg':(l.toArray)[i]?=some l[i]:=by simp[hi]
     rw[hg'];simp only[Option.map_some,Option.getD_some,Array.all_eq_true'];intro e he;cases hb:Region.binds .any e with
     |false=>rfl
     |true =>
      have hlt:=hd.after i l[i] hg e he hb;simp[ih e.on hlt (by omega)]
   rw[h]at hm;cases hm
def tailB(m:Nat)(l:List Oper):Bool :=
 let b:=Region.before l.toArray
 (l.zipIdx.all fun p=>p.1.after.all fun e=>!Region.binds .any e||e.on<p.2) &&
 ((List.range l.length).all fun i=>decide (i<m)||(List.range i).all fun j=>ordB b j i)
structure TailOk(m:Nat)(l:List Oper):Prop where
 after:∀(j:Nat) (o:Oper),l[j]?=some o→∀e,e∈o.after→Region.binds .any e=true→e.on<j
 ord:∀i j,m≤i→i<l.length→j<i→ordB (Region.before l.toArray) j i=true
theorem tailOk_of{m:Nat}{l:List Oper}(h:tailB m l=true):TailOk m l:=by
 simp only[tailB,Bool.and_eq_true,List.all_eq_true]at h;obtain⟨h1,h2⟩:=h;refine⟨fun j o hj e he hb=>?_,fun i j hi hlt hj=>?_⟩
 ·have:=h1 (o,j) (qc8 hj);simp only[Array.all_eq_true']at this;have:=this e he;simpa[hb]using this
 ·have:=h2 i (by simpa using hlt);simp only[Bool.or_eq_true,decide_eq_true_eq,List.all_eq_true]at this;rcases this with h|h
  ·omega
  ·exact h j (by simpa using hj)
theorem ready_min{l:List Oper}(hd:∀(j:Nat) (o:Oper),l[j]?=some o→∀e,e∈o.after→Region.binds .any e=true→e.on<j){L:Array Bool}(hL:L.size=l.length){i:Nat}(hi:i<l.length)(hv:L.getD i false=false)
  (hmin:∀j,j<i→L.getD j false=true):i∈Region.ready .any l.toArray L:=by
 have hg:l[i]?=some l[i]:=by simp[hi]
 simp only[Region.ready,List.mem_filter,List.mem_range,Bool.and_eq_true,Bool.not_eq_true'];refine⟨by simpa using hi,?_,?_⟩
 ·have:i<L.size:=by omega
  simpa[Array.getD,this]using hv
 ·have hg':(l.toArray)[i]?=some l[i]:=by simp[hi]
  rw[hg'];simp only[Option.map_some,Option.getD_some,Array.all_eq_true'];intro e he;cases hb:Region.binds .any e with
  |false=>rfl
  |true=>simp[hmin e.on (hd i l[i] hg e he hb)]
theorem least_out{p:Nat→Bool}{n:Nat}(h:¬ ∀j,j<n→p j=true):∃i,i<n∧p i=false∧∀j,j<i→p j=true:=by
 induction n with
 |zero=>exact(h fun j hj=>by omega).elim
 |succ n ih =>
  by_cases h1:∀j,j<n→p j=true
  ·refine⟨n,by omega,?_,h1⟩;cases hp:p n with
   |false=>rfl
   |true=>exact(h fun j hj=>by rcases Nat.lt_or_ge j n with h2|h2;exact h1 j h2;rw[show j=n from by omega];exact hp).elim
  ·obtain⟨i,h2,h3⟩:=ih h1;exact⟨i,by omega,h3⟩
theorem set_fun{L:Array Bool}{i:Nat}(hlt:i<L.size):(fun j=>if j=i then true else L.getD j false)=fun j=>(L.setIfInBounds i true).getD j false:=by
 funext j;by_cases hj:j=i
 ·subst hj;simp[Array.getD_eq_getD_getElem?,hlt]
 ·rw[if_neg hj];simp[Array.getD_eq_getD_getElem?,Array.getElem?_setIfInBounds_ne (Ne.symm hj)]
theorem count_set_lt{L:Array Bool}{i:Nat}(hlt:i<L.size)(hLi:L.getD i false=false):(L.setIfInBounds i true).toList.count false+1=L.toList.count false:=by
 have hLi':L[i]=false:=by simpa[Array.getD,hlt]using hLi
 have hset:(L.setIfInBounds i true).toList=L.toList.set i true:=by simp
 have hmem:false∈L.toList:=by rw[←hLi'];simp
 have:=List.count_pos_iff.2 hmem;have h5:L.toList[i]'(by simpa using hlt)=false:=by simpa using hLi'
 rw[hset,List.count_set (by simpa using hlt),h5];simp only[beq_self_eq_true,if_true,Bool.true_eq_false,beq_iff_eq,if_false];omega
theorem count_ne{L:Array Bool}{i:Nat}(hlt:i<L.size)(hLi:L.getD i false=false):0<L.toList.count false:=by
 have:=count_set_lt hlt hLi;omega
theorem closed_set{l:List Oper}{L:Array Bool}{i:Nat}{o:Oper}(hlt:i<L.size)(ho:l[i]?=some o)(h3:∀e,e∈o.after→Region.binds .any e=true→L.getD e.on false=true)(hcl:qem l fun j=>L.getD j false):qem l fun j=>(L.setIfInBounds i true).getD j false:=fun j o' hj ho' e he hb=>by
 rw[←set_fun hlt]at hj⊢;by_cases hji:j=i
 ·subst hji;rw[ho]at ho';cases ho';show(if _ then _ else _)=true;rw[h3 e he hb];simp
 ·have hj':L.getD j false=true:=by simpa[if_neg hji]using hj
  have:L.getD e.on false=true:=hcl j o' hj' ho' e he hb;show(if _ then _ else _)=true;rw[this];simp
theorem tail_any{l:List Oper}{m:Nat}(t:TailOk m l){Q:Exit→Act→World→Prop}:∀(fuel k:Nat) (L:Array Bool),m≤k→k≤l.length→L.size=l.length→(∀j,j<l.length→(L.getD j false=true↔j<k))→l.length - k≤fuel →
  ∀(a:Act) (w:World),wpList P l.toArray Q (l.drop k) a w→wpAny P .any l.toArray Q fuel L a w:=by
 intro fuel;have hnil:∀(k:Nat) (L:Array Bool),k<l.length→L.size=l.length→(∀j,j<l.length→(L.getD j false=true↔j<k))→Region.ready .any l.toArray L≠[]:=fun k L hk hL hj he=>by
  have:=ready_min t.after hL hk (by cases hv:L.getD k false with|false=>rfl|true=>have:=(hj k hk).1 hv;omega) (fun j hjk=>(hj j (by omega)).2 hjk);rw[he]at this;cases this
 have hfull:∀(L:Array Bool),L.size=l.length→(∀j,j<l.length→(L.getD j false=true↔j<l.length))→Region.ready .any l.toArray L=[]:=fun L hL hj=>by
  cases hr:Region.ready .any l.toArray L with
  |nil=>rfl
  |cons i rest =>
   obtain⟨o,h1,h2,_⟩:=ready_mem (l:=l) (L:=L) (i:=i) (by rw[hr];simp);have hlt:i<l.length:=(List.getElem?_eq_some_iff.1 h1).1;have h3:=(hj i hlt).2 hlt;have:i<L.size:=by omega
   simp[Array.getD,this]at h2 h3;rw[h2]at h3;cases h3
 induction fuel with
 |zero =>
  intro k L hm hk hL hj hf a w h;have hkn:k=l.length:=by omega
  subst hkn;refine⟨hfull L hL hj,?_⟩;simpa[wpList]using h
 |succ fuel ih =>
  intro k L hm hk hL hj hf a w h;refine⟨fun hr=>?_,fun i hi=>?_⟩
  ·rcases Nat.lt_or_ge k l.length with h1|h1
   ·exact(hnil k L h1 hL hj hr).elim
   ·have hkn:k=l.length:=by omega
    subst hkn;simpa[wpList]using h
  ·obtain⟨o,h1,h2,h3⟩:=ready_mem hi;have hlt:i<l.length:=(List.getElem?_eq_some_iff.1 h1).1;have hLi:L.getD i false=false:=by
    have:i<L.size:=by omega
    simpa[Array.getD,this]using h2
   have hki:k≤i:=by
    rcases Nat.lt_or_ge i k with h4|h4
    ·have:=(hj i hlt).2 h4;rw[hLi]at this;cases this
    ·exact h4
   have hik:i=k:=by
    rcases Nat.lt_or_ge k i with h4|h4
    ·have hcl:qem l fun j=>L.getD j false:=fun j o' hjt ho' e he hb=>by
      have hjl:=(List.getElem?_eq_some_iff.1 ho').1;have h5:=(hj j hjl).1 hjt;have h6:=t.after j o' ho' e he hb;exact(hj e.on (by omega)).2 (by omega)
     have:=ord_in hcl i k o h1 h3 (t.ord i k (by omega) hlt h4);have:=(hj k (by omega)).1 this;omega
    ·omega
   subst hik;have hdrop:l.drop i=o::l.drop (i+1):=by
    rw[List.drop_eq_getElem_cons hlt];congr 1;have:=(List.getElem?_eq_some_iff.1 h1).2;exact this
   rw[hdrop]at h;have hget:(l.toArray)[i]?=some o:=by simpa using h1
   have hfin:wpOp P l.toArray Q i (wpList P l.toArray Q (l.drop (i+1))) a w:=by
    unfold wpOp;simp only[hget];exact h
   refine wpOp_mono (fun a' w' h'=>ih (i+1) _ (by omega) (by omega) (by simpa using hL) (fun j hjl=>?_) (by omega) a' w' h') hfin;have hf:=congrFun (set_fun (L:=L) (i:=i) (by omega)) j;rw[←hf];by_cases hji:j=i
   ·subst hji;simp
   ·rw[if_neg hji,hj j hjl];omega
theorem wpOp_take{l:List Oper}{m i:Nat}(hi:i<m)(hg:∀o j want,l[i]?=some o→o.guard=some (j,want)→j<m){Q:Exit→Act→World→Prop}{K:Act→World→Prop}{a:Act}{w:World}(h:wpOp P (l.take m).toArray Q i K a w):wpOp P l.toArray Q i K a w:=by
 unfold wpOp at *;have he:(l.take m).toArray[i]?=l.toArray[i]?:=by simp[hi]
 rw[he]at h;cases ho:l.toArray[i]? with
 |none=>rw[ho]at h;exact h
 |some o =>
  rw[ho]at h;simp only at h⊢;have hw:Region.wanted o (yielded (l.take m).toArray a.tmps)=Region.wanted o (yielded l.toArray a.tmps):=by
   unfold Region.wanted;split
   ·rfl
   ·rename_i j want hgd;have hj:=hg o j want (by simpa using ho) hgd;have:yielded (l.take m).toArray a.tmps j=yielded l.toArray a.tmps j:=by
     unfold yielded;simp[hj]
    rw[this]
  rw[←hw];exact h
theorem any_ok{l:List Oper}{m:Nat}(hm:m≤l.length)(t:TailOk m l){e0:Env}{R:List DR}(d:DReg P E (l.take m) e0 R)(hE0:E.h.length≤e0.h.length){Q:Exit→Act→World→Prop}
  (hQ:∀c a w,Sim E.N c ⟨(qal e0 R).t,qce R (qal e0 R).h⟩ a w→E.ok c (qce R (qal e0 R).h) w→wpList P l.toArray Q (l.drop m) a w) :
  ∀(fuel:Nat) (L:Array Bool),L.size=l.length→(∀j,m≤j→L.getD j false=false)→L.toList.count false≤fuel→qem l (fun j=>L.getD j false)→∀(c:Ctx) (a:Act) (w:World),DInv E e0 R (fun j=>L.getD j false) c a w→wpAny P .any l.toArray Q fuel L a w:=by
 intro fuel;have hlen:(l.take m).length=m:=by simp;omega
 have hiff:∀(L:Array Bool),(∀j,m≤j→L.getD j false=false)→(∀j,j<m→L.getD j false=true)→∀j,j<l.length→(L.getD j false=true↔j<m):=fun L hge hall j _=>by
  refine⟨fun h=>?_,hall j⟩;rcases Nat.lt_or_ge j m with h1|h1
  ·exact h1
  ·rw[hge j h1]at h;cases h
 have hcount:∀(k:Nat) (L:Array Bool),L.size=l.length→(∀j,k≤j→L.getD j false=false)→k≤l.length→l.length - k≤L.toList.count false:=fun k L hL hk hkl=>by
  have h1:(L.toList.drop k).count false=l.length - k:=by
   have h2:(L.toList.drop k).count false=(L.toList.drop k).length:=List.count_eq_length.2 fun b hb=>by
    obtain⟨j,hj⟩:=List.getElem?_of_mem hb;rw[List.getElem?_drop]at hj;have:=hk (k+j) (by omega);simp only[Array.getD_eq_getD_getElem?]at this;rw[←Array.getElem?_toList,hj]at this;simpa using this.symm
   rw[h2];simp[hL]
  have h3:(L.toList.drop k).Sublist L.toList:=List.drop_sublist _ _;have:=h3.count_le false;omega
 induction fuel with
 |zero =>
  intro L hL hge hc hcl c a w inv;by_cases hall:∀j,j<m→L.getD j false=true
  ·obtain⟨s,k⟩:=dinv_end d (fun j hj=>hall j (by omega)) inv;have:=hcount m L hL hge hm;exact tail_any t 0 m L (Nat.le_refl _) hm hL (hiff L hge hall) (by omega) a w (hQ c a w s k)
  ·obtain⟨i,h1,h2,_⟩:=least_out hall;have:=count_ne (L:=L) (i:=i) (by omega) h2;omega
 |succ fuel ih =>
  intro L hL hge hc hcl c a w inv;by_cases hall:∀j,j<m→L.getD j false=true
  ·obtain⟨s,k⟩:=dinv_end d (fun j hj=>hall j (by omega)) inv;have:=hcount m L hL hge hm;exact tail_any t (fuel+1) m L (Nat.le_refl _) hm hL (hiff L hge hall) (by omega) a w (hQ c a w s k)
  ·obtain⟨i0,g1,g2,g3⟩:=least_out hall;refine⟨fun hr=>?_,fun i hi=>?_⟩
   ·have:=ready_min t.after hL (i:=i0) (by omega) g2 g3;rw[hr]at this;cases this
   ·obtain⟨o,h1,h2,h3⟩:=ready_mem hi;have hlt:i<L.size:=by rw[hL];exact(List.getElem?_eq_some_iff.1 h1).1
    have hLi:L.getD i false=false:=by simpa[Array.getD,hlt]using h2
    have him:i<m:=by
     rcases Nat.lt_or_ge i m with h4|h4
     ·exact h4
     ·have:=ord_in hcl i i0 o h1 h3 (t.ord i i0 h4 (by omega) (by omega));rw[show L.getD i0 false=false from g2]at this;cases this
    have h1':(l.take m)[i]?=some o:=by rw[List.getElem?_take,if_pos him];exact h1
    have hcl':qem (l.take m) fun j=>L.getD j false:=fun j o' hj ho' e he hb=>by
     have hjm:j<m:=by have:=(List.getElem?_eq_some_iff.1 ho').1;omega
     rw[List.getElem?_take,if_pos hjm]at ho';exact hcl j o' hj ho' e he hb
    refine wpOp_take him (fun o' j want ho' hg=>?_) (wpOp_mono ?_ (draw_step (Q:=Q) d.weak hE0 hcl' inv h1' hLi h3 (d.step i o h1')))
    ·rw[h1]at ho';cases ho';have:=d.ok.guard i o j want h1' hg;omega
    ·rintro a' w' ⟨c',inv'⟩;rw[set_fun hlt]at inv';refine ih _ (by simpa using hL) (fun j hj=>?_) ?_ (closed_set hlt h1 h3 hcl) c' a' w' inv'
     ·have hf:=congrFun (set_fun hlt) j;rw[←hf,if_neg (by omega)];exact hge j hj
     ·have:=count_set_lt hlt hLi;omega
theorem stepD_mono{P:Program}{N:Nat}{ds:List (Option Tmp)}{o:Oper}{e:Env}{K K':DR→Prop}(h:stepD P N ds o e K)(hk:∀r,K r→K' r):stepD P N ds o e K':=by
 obtain⟨r,h1,h2⟩:=stepD_wit h;obtain⟨dst,op,ty,pos,after,guard⟩:=o;unfold stepD at h⊢;split at h
 ·exact h.elim
 ·rename_i G hG;simp only[hG];obtain⟨hd,h⟩:=h;refine⟨hd,?_⟩;cases op with
  |pick x y z=>exact⟨h.1,hk _ h.2⟩
  |box t x=>exact⟨h.1,h.2.1,h.2.2.1,hk _ h.2.2.2⟩
  |alloc T=>exact⟨h.1,h.2.1,hk _ h.2.2⟩
  |store T a x =>
   obtain⟨g1,g2,g3,g4,g5,g6,g7⟩:=h;refine⟨g1,g2,g3,g4,g5,g6,?_⟩;split at g7
   ·split at g7
    ·exact⟨g7.1,hk _ g7.2⟩
    ·exact g7.elim
   ·exact g7.elim
  |buildSlice T n parts =>
   simp only at h⊢;split at h
   ·split at h
    ·obtain⟨g1,g2,g3,g4,g5,g6,g7,g8⟩:=h;exact⟨g1,g2,g3,g4,g5,g6,g7,hk _ g8⟩
    ·split at h
     ·obtain⟨g1,g2,g4,g5,g6,g7,g8⟩:=h;exact⟨g1,g2,g4,g5,g6,g7,hk _ g8⟩
     ·exact h.elim
   ·exact h.elim
  |call cl =>
   obtain⟨callee,args,ats⟩:=cl;cases callee with
   |value f =>
    simp only at h⊢;split at h
    ·obtain⟨r,h1,h2⟩:=h;exact⟨r,h1,hk _ h2⟩
    ·exact h.elim
   |_=>exact⟨h.1,hk _ h.2⟩
  |_=>exact⟨h.1,hk _ h.2⟩
def sepD(b:Array Nat)(R:List DR):Prop :=
 (R.zipIdx.all fun p=>match p.1.k with
  | .quiet (some i)=>R.zipIdx.all fun q=>match q.1.k with
   | .store j _ _=>j != i||(decide (p.2<q.2)&&ordB b p.2 q.2)
   |_=>true
  |_=>true)=true
theorem awp_drawA{id:Nat}(m:Nat){l:List Oper}{Q:AExit→Env→Prop}{e:Env}(hm:P.follows .mixedOrders=true)(hB:(decide (m≤l.length)&&drawB (l.take m)&&tailB m l)=true)
  (h:opsD P E.N [] (l.take m) e [] fun R e1=>sepD (Region.before (l.take m).toArray) R∧AOps P E l.toArray (l.drop m) Q ⟨e1.t,qce R e1.h⟩):AWp P E (.region id l.toArray true) Q e:=fun c a w s k=>by
 obtain⟨R,hlen,hstep,hsep,hQ⟩:=opsD_wit h;simp only[List.nil_append]at hsep hQ;simp only[Bool.and_eq_true,decide_eq_true_eq]at hB;obtain⟨⟨hml,hB⟩,hT⟩:=hB;have d:DReg P E (l.take m) e R:=⟨drawOk_of hB,hlen,fun k o ho=>by simpa using hstep k o ho,fun k s r r' i off cs hr hk hs hks=>by
  simp only[sepD,List.all_eq_true]at hsep;have:=hsep (r,k) (by rw[List.mem_zipIdx_iff_getElem?];simpa using hr);simp only[hk,List.all_eq_true]at this;have:=this (r',s) (by rw[List.mem_zipIdx_iff_getElem?];simpa using hs);simpa[hks]using this⟩
 refine wp_region_any hm ?_;have hs':HSim c e.h { w with drawn:=w.drawn+1 }:=s.hs.ext (fun _ _=>rfl) (.refl c) (fun _ _=>rfl) (fun _ _ _ h=>.inl h) s.hs.dom;have hk':E.ok c e.h { w with drawn:=w.drawn+1 }:=k.ext' s.hs (fun _ _=>rfl) (.refl c) (fun _=>rfl) rfl rfl rfl (Nat.le_refl _) (fun _ _ _ h=>.inl h);have hff:(fun _=>false)=fun j=>(Array.replicate l.toArray.size false).getD j false:=by
  funext j;simp[Array.getD_eq_getD_getElem?,Array.getElem?_replicate];split<;>rfl
 refine any_ok hml (tailOk_of hT) d k.len (fun c' a' w' s' k'=>?_) _ _ (by simp) (fun j _=>(congrFun hff j).symm) ?_ ?_ c a _ ?_
 ·exact hQ c' a' w' s' k'
 ·simp
 ·intro j o hj;rw[←hff]at hj;cases hj
 ·rw[←hff];exact dinv_start ⟨s.defers,s.size,s.tmps,hs'⟩ hk'
theorem opsD_mono0{P:Program}{N:Nat}{l:List Oper}{ds:List (Option Tmp)}{e:Env}{acc:List DR}{K K':List DR→Env→Prop}(h:opsD P N ds l e acc K)(hk:∀R e,K R e→K' R e):opsD P N ds l e acc K':=by
 induction l generalizing ds e acc with
 |nil=>exact hk _ _ h
 |cons o l ih =>
  simp only[opsD]at h⊢;exact stepD_mono h fun r hr=>ih hr
end
end Go.Abs

namespace Go.Abs
section
variable {P:Program} {E:Ent}
theorem quiet_fresh{X:Nat→Bool}:∀{R:List DR} {k:Nat},(∀r,r∈R→∃rd,r.k=.quiet rd)→qa9 X k R=[]
 | [],_,_=>rfl
 |r::R,k,h=>by
  obtain⟨rd,hk⟩:=h r (by simp);simp only[qa9,hk];exact quiet_fresh fun r' hr=>h r' (by simp[hr])
theorem quiet_apply:∀{R:List DR} {h:qab},(∀r,r∈R→∃rd,r.k=.quiet rd)→qce R h=h
 | [],_,_=>rfl
 |r::R,h,hq=>by
  obtain⟨rd,hk⟩:=hq r (by simp);simp only[qce,hk];exact quiet_apply fun r' hr=>hq r' (by simp[hr])
theorem qca{R:List DR}{X:Nat→Bool}{h:qab}(hq:∀r,r∈R→∃rd,r.k=.quiet rd):hX R X h=h:=by
 unfold hX;rw[quiet_fresh hq,List.append_nil];refine quiet_apply fun r hr=>?_;obtain⟨j,hj,_⟩:=qea hr;exact hq r (List.mem_of_getElem? hj)
theorem draw_slots{l:List Oper}{R:List DR}(d:DRegW l R){X:Nat→Bool}(hcl:qem l X){c:Ctx}{a:Act}{e0:Env}(htm:∀t,Rel c (slotX X t 0 R (qbb e0.t t)) (a.tmps.getD t undef)){i:Nat}{o:Oper}(hi:l[i]?=some o)(hXi:X i=false)
  (hdep:∀e,e∈o.after→Region.binds .any e=true→X e.on=true):∀t,t∈tmpsOf o.op.operands.toList++guardSlot l o→Rel c (qbb (qal e0 (R.take i)).t t) (a.tmps.getD t undef):=by
 intro t ht;have:=htm t;rw[lookT_envAt,slotX_take];rw[qdf (Y:=X)]
 ·exact this
 ·intro j r' hr' hd;simp only[Nat.zero_add,Bool.and_true];obtain⟨o',ho',hd',_⟩:=d.dst hr';rw[hd']at hd;rcases d.ok.temps i o t j o' hi ht ho' hd with rfl|hord
  ·simp[hXi]
  ·rcases Nat.lt_trichotomy j i with h|h|h
   ·rw[Nat.min_eq_right (Nat.le_of_lt h),Nat.max_eq_left (Nat.le_of_lt h)]at hord;rw[ord_in hcl i j o hi hdep hord,decide_eq_true h]
   ·subst h;simp[hXi]
   ·rw[Nat.min_eq_left (Nat.le_of_lt h),Nat.max_eq_right (Nat.le_of_lt h)]at hord;have hXj:X j=false:=by
     cases hX:X j with
     |false=>rfl
     |true=>have:=ord_in hcl j i o' ho' (hcl j o' hX ho') hord;rw[hXi]at this;cases this
    rw[hXj,decide_eq_false (by omega)]
def qc6(e:Env)(o:Oper):Env:=⟨(tmpsOf o.op.operands.toList).map fun t=>(t,qbb e.t t),e.h⟩
theorem lookT_map(g:Nat→AV):∀(l:List Nat) (i:Nat),qbb (l.map fun t=>(t,g t)) i=if i∈l then g i else .top
 | [],i=>by simp[qbb]
 |t::l,i=>by
  simp only[List.map_cons,qbb,List.mem_cons];by_cases h:t=i
  ·subst h;simp
  ·have:(t == i)=false:=by simpa using h
   rw[this,cond_false,lookT_map g l i];by_cases hi:i∈l
   ·simp[hi]
   ·rw[if_neg hi,if_neg (by rintro(h'|h');exact h h'.symm;exact hi h')]
structure DRegC(P:Program)(E:Ent)(l:List Oper)(e0:Env)(R:List DR)(jc:Nat)(h2:qab):Prop where
 w:DRegW l R
 lt:jc<l.length
 quiet:∀r,r∈R→∃rd,r.k=.quiet rd
 before:∀(k:Nat) (o:Oper),l[k]?=some o→k≠jc→ordB (Region.before l.toArray) jc k=false→stepD P E.N ((l.take k).map (·.dst)) o (qal ⟨e0.t,e0.h⟩ (R.take k)) (fun r=>R[k]?=some r)
 after:∀(k:Nat) (o:Oper),l[k]?=some o→k≠jc→ordB (Region.before l.toArray) k jc=false→stepD P E.N ((l.take k).map (·.dst)) o (qal ⟨e0.t,h2⟩ (R.take k)) (fun r=>R[k]?=some r)
 eff:∀o,l[jc]?=some o→∃r:AV,o.guard=none∧qee E.N o.dst∧R[jc]?=some ⟨o.dst,r,.quiet none⟩∧opEff P (qc6 (qal ⟨e0.t,e0.h⟩ (R.take jc)) o) o.op (fun r1 h1=>r1=r∧h1=h2) fun _ _=>False
end
end Go.Abs

namespace Go.Abs
structure Tag{α:Type}(a:α):Type where
def TCall(P:Program)(fid:FuncId)(args:List AV)(e:Env)(R:Env→AEnd→qab→Prop)(_:Tag R):Prop:=ACalls P fid args e.h (R e)
def TGCall(P:Program)(fid:FuncId)(G:Bool)(pre:Prop)(args:List AV)(e:Env)(K:Bool→Env→AV→Prop)(KE:Env→AEnd→qab→Prop)(_:Tag K)(_:Tag KE):Prop:=GCall P fid G pre args e.h (K G e) (KE e)
def Cnd(c:Bool)(e:Env)(A B:Env→Prop)(_:Tag A)(_:Tag B):Prop:=(c=true→A e)∧(c=false→B e)
def TWp(P:Program)(E:Ent)(c:Code)(Q:AExit→Env→Prop)(e:Env)(_:Tag (c,Q)):Prop:=AWp P E c Q e
def stepG(P:Program)(N:Nat)(Q:AExit→Env→Prop)(ds:List (Option Tmp))(o:Oper)(e:Env)(K:Env→Prop):Prop :=
 match gB ds e o.guard with
 |none=>False
 |some G =>
  qee N o.dst ∧
  match o.op with
  | .pick x y z=>pickOk G (e.get x) (e.get y) (e.get z)∧K (e.put o.dst (optV o.guard G (pickV (e.get x) (e.get y) (e.get z))))
  | .call { callee:=.value f,args,.. }=>match o.guard with
   |none=>qaw e true (f::args.toList)∧match e.getS f with
    | .fn (.func fid) first caps=>TCall P fid (qbi e.h (first++args.toList.map e.getS++caps)) e (fun e r h'=>match r with
     | .ret v=>K (({ e with h:=h' }:Env).put o.dst v)
     | .panic v=>Q (.panic v) { e with h:=h' }) ⟨⟩
    |_=>False
   |some _=>match e.getS f with
    | .fn (.func fid) first caps=>TGCall P fid G (qaw e true (f::args.toList)) (qbi e.h (first++args.toList.map e.getS++caps)) e (fun G e r=>K (e.put o.dst (.opt G r))) (fun e r h'=>match r with
        | .ret v=>K (({ e with h:=h' }:Env).put o.dst (.opt true v))
        | .panic v=>Q (.panic v) { e with h:=h' }) ⟨⟩ ⟨⟩
    |_=>False
  |op =>
   match isEff op,o.guard with
   |false,g=>(G=true→qaw e true op.operands.toList∧(qbp P e.getS e.h op).side)∧K (e.put o.dst (optV g G (qbp P e.getS e.h op).val))
   |true,none=>opEff P e op (fun v h'=>K (({ e with h:=h' }:Env).put o.dst v)) (fun v h'=>Q (.panic v) { e with h:=h' })
   |true,some _=>False
theorem stepG_F{P:Program}{N:Nat}{Q:AExit→Env→Prop}{ds:List (Option Tmp)}{o:Oper}{e:Env}{K:Env→Prop}(h:stepG P N Q ds o e K):stepF P N Q ds o e K:=by
 obtain⟨dst,op,ty,pos,after,guard⟩:=o;unfold stepG at h;unfold stepF;split at h
 ·exact h.elim
 ·rename_i G hG;simp only[hG];obtain⟨hd,h⟩:=h;refine⟨hd,?_⟩;cases op with
  |pick x y z=>exact h
  |call cl =>
   obtain⟨callee,args,ats⟩:=cl;cases callee with
   |value f =>
    cases guard with
    |none=>exact h
    |some g =>
     simp only[isEff]at h⊢;cases hf:e.getS f with
     |fn fn first caps =>
      simp only[hf]at h⊢;cases fn with
      |func fid=>exact h
      |_=>exact h.elim
     |_=>simp[hf]at h
   |invoke r m=>cases guard<;>exact h
   |builtin b=>cases b<;>cases guard<;>first|exact h|exact h.elim
  |next x b=>cases b<;>cases guard<;>first|exact h|exact h.elim
  |_=>cases guard<;>first|exact h|exact h.elim
def opsG(P:Program)(N:Nat)(Q:AExit→Env→Prop):List (Option Tmp)→List Oper→Env→Prop
 |_,[],e=>Q .normal e
 |ds,o::l,e=>stepG P N Q ds o e (opsG P N Q (ds++[o.dst]) l)
section
variable {P:Program} {E:Ent}
theorem qcf{Q:AExit→Env→Prop}{ops:Array Oper}:∀(l:List Oper) (done:List Oper) (e:Env),ops.toList=done++l→opsG P E.N Q (done.map (·.dst)) l e→AOps P E ops l Q e
 | [],done,e,hops,h=>aops_nil h
 |o::l,done,e,hops,h=>by
  have ih:=fun e'=>qcf (Q:=Q) (ops:=ops) l (done++[o]) e' (by simp[hops]);simp only[List.map_append,List.map_cons,List.map_nil]at ih;intro c a w s k;simp only[opsG]at h;exact stepF_sound (stepG_F h) (fun G hG=>wanted_eq hops s hG) s k fun e' c' a' w' hK s' k'=>ih e' hK c' a' w' s' k'
theorem awp_opsG{id:Nat}{l:List Oper}{Q:AExit→Env→Prop}{e:Env}(h:opsG P E.N Q [] l e):AWp P E (.region id l.toArray false) Q e :=
 qd7 (qcf l [] e (by simp) (by simpa using h))
def wpC(P:Program)(E:Ent):Code→(AExit→Env→Prop)→Env→Prop
 | .skip,Q,e=>Q .normal e
 | .region _ ops false,Q,e=>opsG P E.N Q [] ops.toList e
 | .seq a b,Q,e=>wpC P E a (AExit.then (wpC P E b Q) Q) e
 | .cond x a b,Q,e=>match e.get x with
  | .val (.bool c)=>Cnd c e (wpC P E a Q) (wpC P E b Q) ⟨⟩ ⟨⟩
  |_=>False
 | .block id b,Q,e=>wpC P E b (AExit.inBlock id Q) e
 | .exit id,Q,e=>Q (.exit id) e
 | .ret,Q,e=>Q .ret e
 |c,Q,e=>TWp P E c Q e ⟨⟩
theorem qay:∀(c:Code) (Q:AExit→Env→Prop) (e:Env),wpC P E c Q e→AWp P E c Q e
 | .skip,Q,e,h=>awp_skip h
 | .region id ops false,Q,e,h=>by have:=awp_opsG (id:=id) (l:=ops.toList) h;simpa using this
 | .region id ops true,Q,e,h=>h
 | .seq a b,Q,e,h=>qbj ((qay a _ e h).mono fun x e' hx=>by
   cases x with
   |normal=>exact qay b Q e' hx
   |_=>exact hx)
 | .cond x a b,Q,e,h=>by
  simp only[wpC]at h;split at h
  ·rename_i c hx;exact awp_cond hx (fun hc=>qay a Q e (h.1 hc)) (fun hc=>qay b Q e (h.2 hc))
  ·exact h.elim
 | .block id b,Q,e,h=>awp_block (qay b _ e h)
 | .loop b,Q,e,h=>h
 | .rangeFunc ..,Q,e,h=>h
 | .exit id,Q,e,h=>awp_exit h
 | .scope b,Q,e,h=>h
 | .label _,Q,e,h=>h
 | .goto _,Q,e,h=>h
 | .ret,Q,e,h=>awp_ret h
 | .refuse _,Q,e,h=>h
theorem qaj{fid:FuncId}{args:List AV}{e:Env}{R:Env→AEnd→qab→Prop}{t:Tag R}{R':AEnd→qab→Prop}(h:ACalls P fid args e.h R')(k:∀r h',R' r h'→R e r h'):TCall P fid args e R t:=h.mono k
theorem qaa{fid:FuncId}{args:List AV}{e:Env}{R:Env→AEnd→qab→Prop}{t:Tag R}{r:AV}(h:APure P fid args r)(k:R e (.ret r) e.h):TCall P fid args e R t:=acalls_pure h k
theorem qae{fid:FuncId}{G:Bool}{pre:Prop}{args:List AV}{e:Env}{K:Bool→Env→AV→Prop}{KE:Env→AEnd→qab→Prop}{t1:Tag K}{t2:Tag KE}{r:AV}(hr:APure P fid args r)(hp:G=true→pre)(hK:K G e r):TGCall P fid G pre args e K KE t1 t2 :=
 .inl ⟨r,fun hG=>⟨hp hG,hr⟩,hK⟩
theorem tgcall_if{fid:FuncId}{G:Bool}{pre:Prop}{args:List AV}{e:Env}{K:Bool→Env→AV→Prop}{KE:Env→AEnd→qab→Prop}{t1:Tag K}{t2:Tag KE}(r:AV)(hr:G=true→APure P fid args r)(hp:G=true→pre)(hK:K G e r):TGCall P fid G pre args e K KE t1 t2 :=
 .inl ⟨r,fun hG=>⟨hp hG,hr hG⟩,hK⟩
theorem tgcall_same{fid:FuncId}{G:Bool}{pre:Prop}{args:List AV}{e:Env}{K:Bool→Env→AV→Prop}{KE:Env→AEnd→qab→Prop}{t1:Tag K}{t2:Tag KE}{r:AV}(hr:G=true→ACalls P fid args e.h fun x h'=>x=.ret r∧h'=e.h)(hp:G=true→pre)(hK:K G e r)(hE:K true e r→KE e (.ret r) e.h):TGCall P fid G pre args e K KE t1 t2:=by
 cases G with
 |false=>exact .inl ⟨r,fun h=>(by cases h),hK⟩
 |true=>exact .inr ⟨rfl,hp rfl,(hr rfl).mono (by rintro _ _ ⟨rfl,rfl⟩;exact hE hK)⟩
theorem tgcall_false{fid:FuncId}{pre:Prop}{args:List AV}{e:Env}{K:Bool→Env→AV→Prop}{KE:Env→AEnd→qab→Prop}{t1:Tag K}{t2:Tag KE}(hK:K false e .top):TGCall P fid false pre args e K KE t1 t2:=.inl ⟨.top,fun h=>(by cases h),hK⟩
theorem cnd{c:Bool}{e:Env}{A B:Env→Prop}{t1:Tag A}{t2:Tag B}(h1:c=true→A e)(h2:c=false→B e):Cnd c e A B t1 t2:=⟨h1,h2⟩
@[simp] theorem cnd_true{e:Env}{A B:Env→Prop}{t1:Tag A}{t2:Tag B}:Cnd true e A B t1 t2=A e:=by simp[Cnd]
@[simp] theorem cnd_false{e:Env}{A B:Env→Prop}{t1:Tag A}{t2:Tag B}:Cnd false e A B t1 t2=B e:=by simp[Cnd]
end
attribute [go_sem] wpC opsG stepG AExit.then AExit.inBlock
end Go.Abs
