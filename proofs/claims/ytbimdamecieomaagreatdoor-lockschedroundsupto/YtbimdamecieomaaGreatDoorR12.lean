/- Part 12 of a proof. -/
import Derived.Test.YtbimdamecieomaaGreatDoorR11
set_option linter.all false
namespace Go.Abs
section
variable {P:Program} {E:Ent}
theorem xwi{X Y:Nat→Bool}:∀{R:List DR} {k:Nat},(∀j,j<R.length→X (k+j)=Y (k+j))→m9 X k R=m9 Y k R
 | [],_,_=>rfl
 |r::R,k,h=>by
  have h1:=xwi (X:=X) (Y:=Y) (R:=R) (k:=k+1) fun j hj=>by
   have:=h (j+1) bf;rwa [show k+(j+1)=k+1+j from by omega]at this
  have h2:=h 0 ae;simp only[d6]at h2;simp only[m9,h1,h2]
theorem xpe{X Y:Nat→Bool}:∀{R:List DR} {k:Nat},(∀j,j<R.length→X (k+j)=Y (k+j))→td X k R=td Y k R
 | [],_,_=>rfl
 |r::R,k,h=>by
  have h1:=xpe (X:=X) (Y:=Y) (R:=R) (k:=k+1) fun j hj=>by
   have:=h (j+1) bf;rwa [show k+(j+1)=k+1+j from by omega]at this
  have h2:=h 0 ae;simp only[d6]at h2;simp only[td,h1,h2]
theorem xrm:∀{R:List DR} {k:Nat},td (fun _=>true) k R=R
 | [],_=>rfl
 |r::R,k=>by simp only[td,cond_true,xrm]
theorem xml:∀{R:List DR} {k:Nat},td (fun _=>false) k R=[]
 | [],_=>rfl
 |r::R,k=>by simp only[td,cond_false,xml]
theorem HSim.nones{c:Ctx}{h:gz}{w:World}(s:HSim c h w){l:gz}(hl:∀o,o∈l→o=.none):HSim c (h++l) w:=by
 have qx0:∀i o,(h++l)[i]?=some o→h[i]?=some o∨o=AObj.none:=fun i o hi=>by
  by_cases ib:i<h.length
  ·rw[cu ib]at hi;exact .inl hi
  ·rw[cy aa]at hi;exact .inr (hl o (c7 hi))
 refine⟨s.data,fun i hi=>s.dom i (by simp at hi;omega),fun i o hi=>?_,fun i j o o' b hi hj qi hbj=>?_,fun i o b j v hi qi hD=>?_⟩
 ·rcases qx0 i o hi with h1|rfl
  ·exact s.obj i o h1
  ·trivial
 ·rcases qx0 i o hi with h1|rfl
  ·rcases qx0 j o' hj with h2|rfl
   ·exact s.apart i j o o' b h1 h2 qi hbj
   ·cases hbj
  ·cases qi
 ·rcases qx0 i o hi with h1|rfl
  ·exact s.sep i o b j v h1 qi hD
  ·cases qi
theorem Ent.ok.nones{c:Ctx}{h:gz}{w:World}(k:E.ok c h w){l:gz}(hl:∀o,o∈l→o=.none):E.ok c (h++l) w:=by
 refine⟨k.edom,k.ext,k.blk0,qf5,k.os,k.tape,k.output,k.size,k.frame,fun i o b hi hb=>?_,k.dold⟩;by_cases ib:i<h.length
 ·rw[cu ib]at hi;exact k.newobj i o b hi hb
 ·rw[cy aa]at hi;have:=hl o (c7 hi);subst this;cases hb
theorem xe9{e0:Env}{R:List DR}{c:Ctx}{a:Act}{w:World}(s:Sim E.N c e0 a w)(k:E.ok c e0.h w):DInv E e0 R (fun _=>false) c a w:=by
 have hn:∀o,o∈m9 (fun _=>false) 0 R→o=.none:=fun o ho=>by
  obtain⟨j,hj⟩:=dv ho;obtain⟨_,_,_,_,_,_,h⟩:=qdt _ _ _ _ hj;simpa using h
 have hh:hX R (fun _=>false) e0.h=e0.h++m9 (fun _=>false) 0 R:=by
  unfold hX;rw[xml];rfl
 refine⟨s.defers,s.size,fun t=>?_,by rw[hh];exact s.hs.nones hn,by rw[hh];exact k.nones hn,fun i r xs _ _ _=>(s.hs.dom _ aa).1,fun r hr=>?_⟩
 ·rw[xgm (fun j r _ h=>by cases h)];exact s.tmps t
 ·rw[xml]at hr;cases hr
theorem xgl{l:List Oper}{e0:Env}{R:List DR}(d:DReg P E l e0 R){X:Nat→Bool}(ix:∀j,j<l.length→X j=true){c:Ctx}{a:Act}{w:World}(inv:DInv E e0 R X c a w) :
  Sim E.N c ⟨(ja e0 R).t,rp R (ja e0 R).h⟩ a w∧E.ok c (rp R (ja e0 R).h) w:=by
 have h1:∀j,j<R.length→X (0+j)=(fun _=>true) (0+j):=fun j hj=>by rw[db];exact ix j (by rw[←d.len];exact hj)
 have hh:hX R X e0.h=rp R (ja e0 R).h:=by
  unfold hX;rw[xpe (Y:=fun _=>true) h1,xrm,xwi (Y:=fun _=>true) h1,qxj]
 refine⟨⟨inv.defers,inv.size,fun t=>?_,by rw[←hh];exact inv.hs⟩,by rw[←hh];exact inv.ok⟩;have:=inv.tmps t;rw[qet (Y:=fun _=>true) fun j r hr _=>h1 j (cq.1 hr).1]at this;rw[xec];exact this
theorem xbh{l:List Oper}{L:Array Bool}{i:Nat}(h:i∈Region.ready .any l.toArray L):∃o,l[i]?=some o∧L.getD i true=false∧∀e,e∈o.after→Region.binds .any e=true→L.getD e.on false=true:=by
 simp only[Region.ready,fe,eh,c0,qls]at h;obtain⟨h1,h2,h3⟩:=h;have ib:i<l.length:=av;refine⟨l[i],bp,h2,fun e he hb=>?_⟩;have hg:(l.toArray)[i]?=some l[i]:=bp;rw[hg]at h3;simp only[fx,f9,qmb]at h3;have:=h3 e he;simpa[hb]using this
theorem jr9{l:List Oper}(hd:DrawOk l){L:Array Bool}(hL:L.size=l.length)(h:Region.ready .any l.toArray L=[]):∀i,i<l.length→L.getD i false=true:=by
 intro i
 induction i using Nat.strongRecOn with
 |_ i ih =>
  intro hi;cases hv:L.getD i false with
  |true=>rfl
  |false =>
   have hg:l[i]?=some l[i]:=qim;have hm:i∈Region.ready .any l.toArray L:=by
    simp only[Region.ready,fe,eh,c0,qls];refine⟨qf1,?_,?_⟩
    ·have:i<L.size:=aa;simpa[Array.getD,this]using hv
    ·have jf:(l.toArray)[i]?=some l[i]:=qim;rw[jf];simp only[fx,f9,qmb];intro e he;cases hb:Region.binds .any e with
     |false=>rfl
     |true =>
      have ib:=hd.after i l[i] hg e he hb;simp[ih e.on ib aa]
   rw[h]at hm;cases hm
def qus(m:Nat)(l:List Oper):Bool :=
 let b:=Region.before l.toArray
 (l.zipIdx.all fun p=>p.1.after.all fun e=>!Region.binds .any e||e.on<p.2) &&
 ((List.range l.length).all fun i=>decide (i<m)||(List.range i).all fun j=>sf b j i)
structure TailOk(m:Nat)(l:List Oper):Prop where
 after:∀(j:Nat) (o:Oper),l[j]?=some o→∀e,e∈o.after→Region.binds .any e=true→e.on<j
 ord:∀i j,m≤i→i<l.length→j<i→sf (Region.before l.toArray) j i=true
theorem xjs{m:Nat}{l:List Oper}(h:qus m l=true):TailOk m l:=by
 simp only[qus,c0,dw]at h;obtain⟨h1,h2⟩:=h;refine⟨fun j o hj e he hb=>?_,fun i j hi ib hj=>?_⟩
 ·have:=h1 (o,j) (qdr hj);simp only[qmb]at this;have:=this e he;simpa[hb]using this
 ·have:=h2 i qgy;simp only[fv,decide_eq_true_eq,dw]at this;rcases this with h|h
  ·omega
  ·exact h j bf
theorem xe5{l:List Oper}(hd:∀(j:Nat) (o:Oper),l[j]?=some o→∀e,e∈o.after→Region.binds .any e=true→e.on<j){L:Array Bool}(hL:L.size=l.length){i:Nat}(hi:i<l.length)(hv:L.getD i false=false)
  (hmin:∀j,j<i→L.getD j false=true):i∈Region.ready .any l.toArray L:=by
 have hg:l[i]?=some l[i]:=qim;simp only[Region.ready,fe,eh,c0,qls];refine⟨qf1,?_,?_⟩
 ·have:i<L.size:=aa;simpa[Array.getD,this]using hv
 ·have jf:(l.toArray)[i]?=some l[i]:=qim;rw[jf];simp only[fx,f9,qmb];intro e he;cases hb:Region.binds .any e with
  |false=>rfl
  |true=>simp[hmin e.on (hd i l[i] hg e he hb)]
theorem qzp{p:Nat→Bool}{n:Nat}(h:¬ ∀j,j<n→p j=true):∃i,i<n∧p i=false∧∀j,j<i→p j=true:=by
 induction n with
 |zero=>exact(h fun j hj=>by omega).elim
 |succ n ih =>
  by_cases h1:∀j,j<n→p j=true
  ·refine⟨n,aa,?_,h1⟩;cases hp:p n with
   |false=>rfl
   |true=>exact(h fun j hj=>by rcases d8 j n with h2|h2;exact h1 j h2;rw[show j=n from by omega];exact hp).elim
  ·obtain⟨i,h2,h3⟩:=ih h1;exact⟨i,aa,h3⟩
theorem qu8{L:Array Bool}{i:Nat}(ib:i<L.size):(fun j=>if j=i then true else L.getD j false)=fun j=>(L.setIfInBounds i true).getD j false:=by
 funext j;by_cases hj:j=i
 ·subst hj;simp[ed,ib]
 ·rw[if_neg hj];simp[ed,gt (Ne.symm hj)]
theorem xdd{L:Array Bool}{i:Nat}(ib:i<L.size)(hLi:L.getD i false=false):(L.setIfInBounds i true).toList.count false+1=L.toList.count false:=by
 have hLi':L[i]=false:=by simpa[Array.getD,ib]using hLi
 have ss:(L.setIfInBounds i true).toList=L.toList.set i true:=ae;have qvu:false∈L.toList:=by rw[←hLi'];simp
 have:=List.count_pos_iff.2 qvu;have h5:L.toList[i]'qgy=false:=by simpa using hLi'
 rw[ss,List.count_set qgy,h5];simp only[beq_self_eq_true,if_true,Bool.true_eq_false,beq_iff_eq,if_false];omega
theorem xmd{L:Array Bool}{i:Nat}(ib:i<L.size)(hLi:L.getD i false=false):0<L.toList.count false:=by
 have:=xdd ib hLi;omega
theorem xme{l:List Oper}{L:Array Bool}{i:Nat}{o:Oper}(ib:i<L.size)(ho:l[i]?=some o)(h3:∀e,e∈o.after→Region.binds .any e=true→L.getD e.on false=true)(l9:qqg l fun j=>L.getD j false):qqg l fun j=>(L.setIfInBounds i true).getD j false:=fun j o' hj ky e he hb=>by
 rw[←qu8 ib]at hj⊢;by_cases mo:j=i
 ·subst mo;rw[ho]at ky;cases ky;show(if _ then _ else _)=true;rw[h3 e he hb];simp
 ·have oq:L.getD j false=true:=by simpa[if_neg mo]using hj
  have:L.getD e.on false=true:=l9 j o' oq ky e he hb;show(if _ then _ else _)=true;rw[this];simp
theorem xeg{l:List Oper}{m:Nat}(t:TailOk m l){Q:Exit→Act→World→Prop}:∀(lf k:Nat) (L:Array Bool),m≤k→k≤l.length→L.size=l.length→(∀j,j<l.length→(L.getD j false=true↔j<k))→l.length - k≤lf →
  ∀(a:Act) (w:World),wpList P l.toArray Q (l.drop k) a w→wpAny P .any l.toArray Q lf L a w:=by
 intro lf;have hnil:∀(k:Nat) (L:Array Bool),k<l.length→L.size=l.length→(∀j,j<l.length→(L.getD j false=true↔j<k))→Region.ready .any l.toArray L≠[]:=fun k L hk hL hj he=>by
  have:=xe5 t.after hL hk (by cases hv:L.getD k false with|false=>rfl|true=>have:=(hj k hk).1 hv;omega) (fun j s9=>(hj j aa).2 s9);rw[he]at this;cases this
 have hfull:∀(L:Array Bool),L.size=l.length→(∀j,j<l.length→(L.getD j false=true↔j<l.length))→Region.ready .any l.toArray L=[]:=fun L hL hj=>by
  cases hr:Region.ready .any l.toArray L with
  |nil=>rfl
  |cons i rest =>
   obtain⟨o,h1,h2,_⟩:=xbh (l:=l) (L:=L) (i:=i) (by rw[hr];simp);have ib:i<l.length:=(cq.1 h1).1;have h3:=(hj i ib).2 ib;have:i<L.size:=aa;simp[Array.getD,this]at h2 h3;rw[h2]at h3;cases h3
 induction lf with
 |zero =>
  intro k L hm hk hL hj hf a w h;have hkn:k=l.length:=aa;subst hkn;refine⟨hfull L hL hj,?_⟩;simpa[wpList]using h
 |succ lf ih =>
  intro k L hm hk hL hj hf a w h;refine⟨fun hr=>?_,fun i hi=>?_⟩
  ·rcases d8 k l.length with h1|h1
   ·exact(hnil k L h1 hL hj hr).elim
   ·have hkn:k=l.length:=aa;subst hkn;simpa[wpList]using h
  ·obtain⟨o,h1,h2,h3⟩:=xbh hi;have ib:i<l.length:=(cq.1 h1).1;have hLi:L.getD i false=false:=by
    have:i<L.size:=aa;simpa[Array.getD,this]using h2
   have hki:k≤i:=by
    rcases d8 i k with h4|h4
    ·have:=(hj i ib).2 h4;rw[hLi]at this;cases this
    ·exact h4
   have hik:i=k:=by
    rcases d8 k i with h4|h4
    ·have l9:qqg l fun j=>L.getD j false:=fun j o' hjt ky e he hb=>by
      have se:=(cq.1 ky).1;have h5:=(hj j se).1 hjt;have h6:=t.after j o' ky e he hb;exact(hj e.on aa).2 aa
     have:=qrc l9 i k o h1 h3 (t.ord i k aa ib h4);have:=(hj k aa).1 this;omega
    ·omega
   subst hik;have qxs:l.drop i=o::l.drop (i+1):=by
    rw[ql1 ib];congr 1;have:=(cq.1 h1).2;exact this
   rw[qxs]at h;have qg:(l.toArray)[i]?=some o:=av;have qvr:wpOp P l.toArray Q i (wpList P l.toArray Q (l.drop (i+1))) a w:=by
    unfold wpOp;simp only[qg];exact h
   refine wpOp_mono (fun a' w' h'=>ih (i+1) _ aa aa qj8 (fun j se=>?_) aa a' w' h') qvr;have hf:=congrFun (qu8 (L:=L) (i:=i) aa) j;rw[←hf];by_cases mo:j=i
   ·subst mo;simp
   ·rw[if_neg mo,hj j se];omega
theorem xjq{l:List Oper}{m i:Nat}(hi:i<m)(hg:∀o j want,l[i]?=some o→o.guard=some (j,want)→j<m){Q:Exit→Act→World→Prop}{K:Act→World→Prop}{a:Act}{w:World}(h:wpOp P (l.take m).toArray Q i K a w):wpOp P l.toArray Q i K a w:=by
 unfold wpOp at *;have he:(l.take m).toArray[i]?=l.toArray[i]?:=qim;rw[he]at h;cases ho:l.toArray[i]? with
 |none=>rw[ho]at h;exact h
 |some o =>
  rw[ho]at h;simp only at h⊢;have hw:Region.wanted o (yielded (l.take m).toArray a.tmps)=Region.wanted o (yielded l.toArray a.tmps):=by
   unfold Region.wanted;split
   ·rfl
   ·rename_i j want hgd;have hj:=hg o j want qgp hgd;have:yielded (l.take m).toArray a.tmps j=yielded l.toArray a.tmps j:=by
     unfold yielded;simp[hj]
    rw[this]
  rw[←hw];exact h
theorem xo7{l:List Oper}{m:Nat}(hm:m≤l.length)(t:TailOk m l){e0:Env}{R:List DR}(d:DReg P E (l.take m) e0 R)(hE0:E.h.length≤e0.h.length){Q:Exit→Act→World→Prop}
  (hQ:∀c a w,Sim E.N c ⟨(ja e0 R).t,rp R (ja e0 R).h⟩ a w→E.ok c (rp R (ja e0 R).h) w→wpList P l.toArray Q (l.drop m) a w) :
  ∀(lf:Nat) (L:Array Bool),L.size=l.length→(∀j,m≤j→L.getD j false=false)→L.toList.count false≤lf→qqg l (fun j=>L.getD j false)→∀(c:Ctx) (a:Act) (w:World),DInv E e0 R (fun j=>L.getD j false) c a w→wpAny P .any l.toArray Q lf L a w:=by
 intro lf;have jr:(l.take m).length=m:=am;have qw2:∀(L:Array Bool),(∀j,m≤j→L.getD j false=false)→(∀j,j<m→L.getD j false=true)→∀j,j<l.length→(L.getD j false=true↔j<m):=fun L oo ix j _=>by
  refine⟨fun h=>?_,ix j⟩;rcases d8 j m with h1|h1
  ·exact h1
  ·rw[oo j h1]at h;cases h
 have qv5:∀(k:Nat) (L:Array Bool),L.size=l.length→(∀j,k≤j→L.getD j false=false)→k≤l.length→l.length - k≤L.toList.count false:=fun k L hL hk hkl=>by
  have h1:(L.toList.drop k).count false=l.length - k:=by
   have h2:(L.toList.drop k).count false=(L.toList.drop k).length:=List.count_eq_length.2 fun b hb=>by
    obtain⟨j,hj⟩:=dv hb;rw[ez]at hj;have:=hk (k+j) aa;simp only[ed]at this;rw[←fc,hj]at this;simpa using this.symm
   rw[h2];simp[hL]
  have h3:(L.toList.drop k).Sublist L.toList:=List.drop_sublist _ _;have:=h3.count_le false;omega
 induction lf with
 |zero =>
  intro L hL oo hc l9 c a w inv;by_cases ix:∀j,j<m→L.getD j false=true
  ·obtain⟨s,k⟩:=xgl d (fun j hj=>ix j aa) inv;have:=qv5 m L hL oo hm;exact xeg t 0 m L (ct _) hm hL (qw2 L oo ix) aa a w (hQ c a w s k)
  ·obtain⟨i,h1,h2,_⟩:=qzp ix;have:=xmd (L:=L) (i:=i) aa h2;omega
 |succ lf ih =>
  intro L hL oo hc l9 c a w inv;by_cases ix:∀j,j<m→L.getD j false=true
  ·obtain⟨s,k⟩:=xgl d (fun j hj=>ix j aa) inv;have:=qv5 m L hL oo hm;exact xeg t (lf+1) m L (ct _) hm hL (qw2 L oo ix) aa a w (hQ c a w s k)
  ·obtain⟨i0,g1,g2,g3⟩:=qzp ix;refine⟨fun hr=>?_,fun i hi=>?_⟩
   ·have:=xe5 t.after hL (i:=i0) aa g2 g3;rw[hr]at this;cases this
   ·obtain⟨o,h1,h2,h3⟩:=xbh hi;have ib:i<L.size:=by rw[hL];exact(cq.1 h1).1
    have hLi:L.getD i false=false:=qiy;have zb:i<m:=by
     rcases d8 i m with h4|h4
     ·exact h4
     ·have:=qrc l9 i i0 o h1 h3 (t.ord i i0 h4 aa aa);rw[show L.getD i0 false=false from g2]at this;cases this
    have ll:(l.take m)[i]?=some o:=by rw[dx,if_pos zb];exact h1
    have hcl':qqg (l.take m) fun j=>L.getD j false:=fun j o' hj ky e he hb=>by
     have hjm:j<m:=by have:=(cq.1 ky).1;omega
     rw[dx,if_pos hjm]at ky;exact l9 j o' hj ky e he hb
    refine xjq zb (fun o' j want ky hg=>?_) (wpOp_mono ?_ (xc6 (Q:=Q) d.weak hE0 hcl' inv ll hLi h3 (d.step i o ll)))
    ·rw[h1]at ky;cases ky;have:=d.ok.guard i o j want ll hg;omega
    ·rintro a' w' ⟨c',inv'⟩;rw[qu8 ib]at inv';refine ih _ qj8 (fun j hj=>?_) ?_ (xme ib h1 h3 l9) c' a' w' inv'
     ·have hf:=congrFun (qu8 ib) j;rw[←hf,if_neg aa];exact oo j hj
     ·have:=xdd ib hLi;omega
theorem xkn{P:Program}{N:Nat}{ds:List (Option Tmp)}{o:Oper}{e:Env}{K K':DR→Prop}(h:uy P N ds o e K)(hk:∀r,K r→K' r):uy P N ds o e K':=by
 obtain⟨r,h1,h2⟩:=xlj h;obtain⟨dst,op,ty,pos,after,guard⟩:=o;unfold uy at h⊢;split at h
 ·exact h.elim
 ·rename_i G hG;simp only[hG];obtain⟨hd,h⟩:=h;refine⟨hd,?_⟩;cases op with
  |pick x y z=>exact⟨h.1,hk _ h.2⟩
  |box t x=>exact⟨h.1,h.2.1,h.2.2.1,hk _ h.2.2.2⟩
  |alloc T=>exact⟨h.1,h.2.1,hk _ h.2.2⟩
  |store T a x =>
   obtain⟨g1,g2,g3,g4,g5,g6,g7⟩:=h;refine⟨g1,g2,g3,g4,g5,g6,?_⟩;split at g7
   ·split at g7
    ·exact⟨g7.1,hk _ g7.2⟩
    ·exact g7.elim
   ·exact g7.elim
  |buildSlice T n parts =>
   simp only at h⊢;split at h
   ·split at h
    ·obtain⟨g1,g2,g3,g4,g5,g6,g7,g8⟩:=h;exact⟨g1,g2,g3,g4,g5,g6,g7,hk _ g8⟩
    ·split at h
     ·obtain⟨g1,g2,g4,g5,g6,g7,g8⟩:=h;exact⟨g1,g2,g4,g5,g6,g7,hk _ g8⟩
     ·exact h.elim
   ·exact h.elim
  |call cl =>
   obtain⟨callee,args,ats⟩:=cl;cases callee with
   |value f =>
    simp only at h⊢;split at h
    ·obtain⟨r,h1,h2⟩:=h;exact⟨r,h1,hk _ h2⟩
    ·exact h.elim
   |_=>exact⟨h.1,hk _ h.2⟩
  |_=>exact⟨h.1,hk _ h.2⟩
def pm(b:Array Nat)(R:List DR):Prop :=
 (R.zipIdx.all fun p=>match p.1.k with
  | .quiet (some i)=>R.zipIdx.all fun q=>match q.1.k with
   | .store j _ _=>j != i||(decide (p.2<q.2)&&sf b p.2 q.2)
   |_=>true
  |_=>true)=true
theorem xvu{id:Nat}(m:Nat){l:List Oper}{Q:AExit→Env→Prop}{e:Env}(hm:P.follows .mixedOrders=true)(hB:(decide (m≤l.length)&&quy (l.take m)&&qus m l)=true)
  (h:qou P E.N [] (l.take m) e [] fun R e1=>pm (Region.before (l.take m).toArray) R∧qrb P E l.toArray (l.drop m) Q ⟨e1.t,rp R e1.h⟩):AWp P E (.region id l.toArray true) Q e:=fun c a w s k=>by
 obtain⟨R,jr,quz,qr4,hQ⟩:=qxf h;simp only[ej]at qr4 hQ;simp only[c0,decide_eq_true_eq]at hB;obtain⟨⟨sp,hB⟩,hT⟩:=hB;have d:DReg P E (l.take m) e R:=⟨xbi hB,jr,fun k o ho=>by simpa using quz k o ho,fun k s r r' i off cs hr hk hs hks=>by
  simp only[pm,dw]at qr4;have:=qr4 (r,k) qhd;simp only[hk,dw]at this;have:=this (r',s) qkb;simpa[hks]using this⟩
 refine wp_region_any hm ?_;have jd:HSim c e.h { w with drawn:=w.drawn+1 }:=s.hs.ext (fun _ _=>rfl) (.refl c) (fun _ _=>rfl) (fun _ _ _ h=>.inl h) s.hs.dom;have kb:E.ok c e.h { w with drawn:=w.drawn+1 }:=k.ext' s.hs (fun _ _=>rfl) (.refl c) (fun _=>rfl) rfl rfl rfl (ct _) (fun _ _ _ h=>.inl h);have hff:(fun _=>false)=fun j=>(Array.replicate l.toArray.size false).getD j false:=by
  funext j;simp[ed,Array.getElem?_replicate];split<;>rfl
 refine xo7 sp (xjs hT) d k.len (fun c' a' w' s' k'=>?_) _ _ ae (fun j _=>(congrFun hff j).symm) ?_ ?_ c a _ ?_
 ·exact hQ c' a' w' s' k'
 ·simp
 ·intro j o hj;rw[←hff]at hj;cases hj
 ·rw[←hff];exact xe9 ⟨s.defers,s.size,s.tmps,jd⟩ kb
theorem xv1{P:Program}{N:Nat}{l:List Oper}{ds:List (Option Tmp)}{e:Env}{iu:List DR}{K K':List DR→Env→Prop}(h:qou P N ds l e iu K)(hk:∀R e,K R e→K' R e):qou P N ds l e iu K':=by
 induction l generalizing ds e iu with
 |nil=>exact hk _ _ h
 |cons o l ih =>
  simp only[qou]at h⊢;exact xkn h fun r hr=>ih hr
end
section
variable {P:Program} {E:Ent}
theorem xma{X:Nat→Bool}:∀{R:List DR} {k:Nat},(∀r,r∈R→∃rd,r.k=.quiet rd)→m9 X k R=[]
 | [],_,_=>rfl
 |r::R,k,h=>by
  obtain⟨rd,hk⟩:=h r ae;simp only[m9,hk];exact xma fun r' hr=>h r' qg0
theorem xtl:∀{R:List DR} {h:gz},(∀r,r∈R→∃rd,r.k=.quiet rd)→rp R h=h
 | [],_,_=>rfl
 |r::R,h,hq=>by
  obtain⟨rd,hk⟩:=hq r ae;simp only[rp,hk];exact xtl fun r' hr=>hq r' qg0
theorem xbj{R:List DR}{X:Nat→Bool}{h:gz}(hq:∀r,r∈R→∃rd,r.k=.quiet rd):hX R X h=h:=by
 unfold hX;rw[xma hq,e8];refine xtl fun r hr=>?_;obtain⟨j,hj,_⟩:=qvq hr;exact hq r (c7 hj)
theorem xxl{l:List Oper}{R:List DR}(d:DRegW l R){X:Nat→Bool}(l9:qqg l X){c:Ctx}{a:Act}{e0:Env}(htm:∀t,Rel c (wa X t 0 R (kj e0.t t)) (a.tmps.getD t undef)){i:Nat}{o:Oper}(hi:l[i]?=some o)(wh:X i=false)
  (qtn:∀e,e∈o.after→Region.binds .any e=true→X e.on=true):∀t,t∈tmpsOf o.op.operands.toList++qz8 l o→Rel c (kj (ja e0 (R.take i)).t t) (a.tmps.getD t undef):=by
 intro t ht;have:=htm t;rw[xec,xi2];rw[qet (Y:=X)]
 ·exact this
 ·intro j r' je hd;simp only[db,fl];obtain⟨o',ky,ws,_⟩:=d.dst je;rw[ws]at hd;rcases d.ok.temps i o t j o' hi ht ky hd with rfl|qon
  ·simp[wh]
  ·rcases qmc j i with h|h|h
   ·rw[Nat.min_eq_right (fp h),Nat.max_eq_left (fp h)]at qon;rw[qrc l9 i j o hi qtn qon,decide_eq_true h]
   ·subst h;simp[wh]
   ·rw[gj (fp h),Nat.max_eq_right (fp h)]at qon;have hXj:X j=false:=by
     cases hX:X j with
     |false=>rfl
     |true=>have:=qrc l9 j i o' ky (l9 j o' hX ky) qon;rw[wh]at this;cases this
    rw[hXj,decide_eq_false aa]
def qo3(e:Env)(o:Oper):Env:=⟨(tmpsOf o.op.operands.toList).map fun t=>(t,kj e.t t),e.h⟩
theorem xk7(g:Nat→AV):∀(l:List Nat) (i:Nat),kj (l.map fun t=>(t,g t)) i=if i∈l then g i else .top
 | [],i=>by simp[kj]
 |t::l,i=>by
  simp only[c8,kj,cw];by_cases h:t=i
  ·subst h;simp
  ·have:(t == i)=false:=bh;rw[this,cond_false,xk7 g l i];by_cases hi:i∈l
   ·simp[hi]
   ·rw[if_neg hi,if_neg (by rintro(h'|h');exact h h'.symm;exact hi h')]
structure DRegC(P:Program)(E:Ent)(l:List Oper)(e0:Env)(R:List DR)(jc:Nat)(h2:gz):Prop where
 w:DRegW l R
 lt:jc<l.length
 quiet:∀r,r∈R→∃rd,r.k=.quiet rd
 before:∀(k:Nat) (o:Oper),l[k]?=some o→k≠jc→sf (Region.before l.toArray) jc k=false→uy P E.N ((l.take k).map (·.dst)) o (ja ⟨e0.t,e0.h⟩ (R.take k)) (fun r=>R[k]?=some r)
 after:∀(k:Nat) (o:Oper),l[k]?=some o→k≠jc→sf (Region.before l.toArray) k jc=false→uy P E.N ((l.take k).map (·.dst)) o (ja ⟨e0.t,h2⟩ (R.take k)) (fun r=>R[k]?=some r)
 eff:∀o,l[jc]?=some o→∃r:AV,o.guard=none∧yw E.N o.dst∧R[jc]?=some ⟨o.dst,r,.quiet none⟩∧qpf P (qo3 (ja ⟨e0.t,e0.h⟩ (R.take jc)) o) o.op (fun r1 h1=>r1=r∧h1=h2) fun _ _=>False
end
structure Tag{α:Type}(a:α):Type where
def xk1(P:Program)(fid:FuncId)(args:List AV)(e:Env)(R:Env→AEnd→gz→Prop)(_:Tag R):Prop:=ACalls P fid args e.h (R e)
def xbk(P:Program)(fid:FuncId)(G:Bool)(pre:Prop)(args:List AV)(e:Env)(K:Bool→Env→AV→Prop)(KE:Env→AEnd→gz→Prop)(_:Tag K)(_:Tag KE):Prop:=xrn P fid G pre args e.h (K G e) (KE e)
def Cnd(c:Bool)(e:Env)(A B:Env→Prop)(_:Tag A)(_:Tag B):Prop:=(c=true→A e)∧(c=false→B e)
def TWp(P:Program)(E:Ent)(c:Code)(Q:AExit→Env→Prop)(e:Env)(_:Tag (c,Q)):Prop:=AWp P E c Q e
def stepG(P:Program)(N:Nat)(Q:AExit→Env→Prop)(ds:List (Option Tmp))(o:Oper)(e:Env)(K:Env→Prop):Prop :=
 match gB ds e o.guard with
 |none=>False
 |some G =>
  yw N o.dst ∧
  match o.op with
  | .pick x y z=>qzv G (e.get x) (e.get y) (e.get z)∧K (e.put o.dst (q8 o.guard G (qne (e.get x) (e.get y) (e.get z))))
  | .call { callee:=.value f,args,.. }=>match o.guard with
   |none=>l6 e true (f::args.toList)∧match e.getS f with
    | .fn (.func fid) first caps=>xk1 P fid (kc e.h (first++args.toList.map e.getS++caps)) e (fun e r h'=>match r with
     | .ret v=>K (({ e with h:=h' }:Env).put o.dst v)
     | .panic v=>Q (.panic v) { e with h:=h' }) ⟨⟩
    |_=>False
   |some _=>match e.getS f with
    | .fn (.func fid) first caps=>xbk P fid G (l6 e true (f::args.toList)) (kc e.h (first++args.toList.map e.getS++caps)) e (fun G e r=>K (e.put o.dst (.opt G r))) (fun e r h'=>match r with
        | .ret v=>K (({ e with h:=h' }:Env).put o.dst (.opt true v))
        | .panic v=>Q (.panic v) { e with h:=h' }) ⟨⟩ ⟨⟩
    |_=>False
  |op =>
   match xcd op,o.guard with
   |false,g=>(G=true→l6 e true op.operands.toList∧(qb P e.getS e.h op).side)∧K (e.put o.dst (q8 g G (qb P e.getS e.h op).val))
   |true,none=>qpf P e op (fun v h'=>K (({ e with h:=h' }:Env).put o.dst v)) (fun v h'=>Q (.panic v) { e with h:=h' })
   |true,some _=>False
theorem xw2{P:Program}{N:Nat}{Q:AExit→Env→Prop}{ds:List (Option Tmp)}{o:Oper}{e:Env}{K:Env→Prop}(h:stepG P N Q ds o e K):qux P N Q ds o e K:=by
 obtain⟨dst,op,ty,pos,after,guard⟩:=o;unfold stepG at h;unfold qux;split at h
 ·exact h.elim
 ·rename_i G hG;simp only[hG];obtain⟨hd,h⟩:=h;refine⟨hd,?_⟩;cases op with
  |pick x y z=>exact h
  |call cl =>
   obtain⟨callee,args,ats⟩:=cl;cases callee with
   |value f =>
    cases guard with
    |none=>exact h
    |some g =>
     simp only[xcd]at h⊢;cases hf:e.getS f with
     |fn fn first caps =>
      simp only[hf]at h⊢;cases fn with
      |func fid=>exact h
      |_=>exact h.elim
     |_=>simp[hf]at h
   |invoke r m=>cases guard<;>exact h
   |builtin b=>cases b<;>cases guard<;>first|exact h|exact h.elim
  |next x b=>cases b<;>cases guard<;>first|exact h|exact h.elim
  |_=>cases guard<;>first|exact h|exact h.elim
def qnz(P:Program)(N:Nat)(Q:AExit→Env→Prop):List (Option Tmp)→List Oper→Env→Prop
 |_,[],e=>Q .normal e
 |ds,o::l,e=>stepG P N Q ds o e (qnz P N Q (ds++[o.dst]) l)
section
variable {P:Program} {E:Ent}
theorem qds{Q:AExit→Env→Prop}{ops:Array Oper}:∀(l:List Oper) (done:List Oper) (e:Env),ops.toList=done++l→qnz P E.N Q (done.map (·.dst)) l e→qrb P E ops l Q e
 | [],done,e,te,h=>xsw h
 |o::l,done,e,te,h=>by
  have ih:=fun e'=>qds (Q:=Q) (ops:=ops) l (done++[o]) e' qjr;simp only[dz,c8,e6]at ih;intro c a w s k;simp only[qnz]at h;exact xgc (xw2 h) (fun G hG=>qx8 te s hG) s k fun e' c' a' w' hK s' k'=>ih e' hK c' a' w' s' k'
theorem xm9{id:Nat}{l:List Oper}{Q:AExit→Env→Prop}{e:Env}(h:qnz P E.N Q [] l e):AWp P E (.region id l.toArray false) Q e :=
 xfx (qds l [] e ae bh)
def wpC(P:Program)(E:Ent):Code→(AExit→Env→Prop)→Env→Prop
 | .skip,Q,e=>Q .normal e
 | .region _ ops false,Q,e=>qnz P E.N Q [] ops.toList e
 | .seq a b,Q,e=>wpC P E a (AExit.then (wpC P E b Q) Q) e
 | .cond x a b,Q,e=>match e.get x with
  | .val (.bool c)=>Cnd c e (wpC P E a Q) (wpC P E b Q) ⟨⟩ ⟨⟩
  |_=>False
 | .block id b,Q,e=>wpC P E b (AExit.inBlock id Q) e
 | .exit id,Q,e=>Q (.exit id) e
 | .ret,Q,e=>Q .ret e
 |c,Q,e=>TWp P E c Q e ⟨⟩
theorem na:∀(c:Code) (Q:AExit→Env→Prop) (e:Env),wpC P E c Q e→AWp P E c Q e
 | .skip,Q,e,h=>xd8 h
 | .region id ops false,Q,e,h=>by have:=xm9 (id:=id) (l:=ops.toList) h;simpa using this
 | .region id ops true,Q,e,h=>h
 | .seq a b,Q,e,h=>ln ((na a _ e h).mono fun x e' hx=>by
   cases x with
   |normal=>exact na b Q e' hx
   |_=>exact hx)
 | .cond x a b,Q,e,h=>by
  simp only[wpC]at h;split at h
  ·rename_i c hx;exact xah hx (fun hc=>na a Q e (h.1 hc)) (fun hc=>na b Q e (h.2 hc))
  ·exact h.elim
 | .block id b,Q,e,h=>jef (na b _ e h)
 | .loop b,Q,e,h=>h
 | .rangeFunc ..,Q,e,h=>h
 | .exit id,Q,e,h=>je8 h
 | .scope b,Q,e,h=>h
 | .label _,Q,e,h=>h
 | .goto _,Q,e,h=>h
 | .ret,Q,e,h=>xk8 h
 | .refuse _,Q,e,h=>h
theorem it{fid:FuncId}{args:List AV}{e:Env}{R:Env→AEnd→gz→Prop}{t:Tag R}{R':AEnd→gz→Prop}(h:ACalls P fid args e.h R')(k:∀r h',R' r h'→R e r h'):xk1 P fid args e R t:=h.mono k
theorem ia{fid:FuncId}{args:List AV}{e:Env}{R:Env→AEnd→gz→Prop}{t:Tag R}{r:AV}(h:APure P fid args r)(k:R e (.ret r) e.h):xk1 P fid args e R t:=xnt h k
theorem ka{fid:FuncId}{G:Bool}{pre:Prop}{args:List AV}{e:Env}{K:Bool→Env→AV→Prop}{KE:Env→AEnd→gz→Prop}{t1:Tag K}{t2:Tag KE}{r:AV}(hr:APure P fid args r)(hp:G=true→pre)(hK:K G e r):xbk P fid G pre args e K KE t1 t2 :=
 .inl ⟨r,fun hG=>⟨hp hG,hr⟩,hK⟩
theorem qy5{fid:FuncId}{G:Bool}{pre:Prop}{args:List AV}{e:Env}{K:Bool→Env→AV→Prop}{KE:Env→AEnd→gz→Prop}{t1:Tag K}{t2:Tag KE}(r:AV)(hr:G=true→APure P fid args r)(hp:G=true→pre)(hK:K G e r):xbk P fid G pre args e K KE t1 t2 :=
 .inl ⟨r,fun hG=>⟨hp hG,hr hG⟩,hK⟩
theorem xop{fid:FuncId}{pre:Prop}{args:List AV}{e:Env}{K:Bool→Env→AV→Prop}{KE:Env→AEnd→gz→Prop}{t1:Tag K}{t2:Tag KE}(hp:pre)(hr:ACalls P fid args e.h (KE e)):xbk P fid true pre args e K KE t1 t2:=.inr ⟨rfl,hp,hr⟩
theorem qdx{fid:FuncId}{pre:Prop}{args:List AV}{e:Env}{K:Bool→Env→AV→Prop}{KE:Env→AEnd→gz→Prop}{t1:Tag K}{t2:Tag KE}(hK:K false e .top):xbk P fid false pre args e K KE t1 t2:=.inl ⟨.top,fun h=>(by cases h),hK⟩
theorem gy{c:Bool}{e:Env}{A B:Env→Prop}{t1:Tag A}{t2:Tag B}(h1:c=true→A e)(h2:c=false→B e):Cnd c e A B t1 t2:=⟨h1,h2⟩
@[simp] theorem jr4{e:Env}{A B:Env→Prop}{t1:Tag A}{t2:Tag B}:Cnd true e A B t1 t2=A e:=by simp[Cnd]
@[simp] theorem jry{e:Env}{A B:Env→Prop}{t1:Tag A}{t2:Tag B}:Cnd false e A B t1 t2=B e:=by simp[Cnd]
end
attribute [go_sem] wpC qnz stepG AExit.then AExit.inBlock
section
variable {P:Program} {E:Ent}
structure HeadOk(m:Nat)(l:List Oper):Prop where
 after:∀(j:Nat) (o:Oper),l[j]?=some o→∀e,e∈o.after→Region.binds .any e=true→e.on<j
 ord:∀i j,m≤i→i<l.length→j<m→sf (Region.before l.toArray) j i=true
def xiw(m:Nat)(l:List Oper):Bool :=
 let b:=Region.before l.toArray
 (l.zipIdx.all fun p=>p.1.after.all fun e=>!Region.binds .any e||e.on<p.2) &&
 ((List.range l.length).all fun i=>decide (i<m)||(List.range m).all fun j=>sf b j i)
theorem jeu{m:Nat}{l:List Oper}(h:xiw m l=true):HeadOk m l:=by
 simp only[xiw,c0,dw]at h;obtain⟨h1,h2⟩:=h;refine⟨fun j o hj e he hb=>?_,fun i j hi ib hj=>?_⟩
 ·have:=h1 (o,j) (qdr hj);simp only[qmb]at this;have:=this e he;simpa[hb]using this
 ·have:=h2 i qgy;simp only[fv,decide_eq_true_eq,dw]at this;rcases this with h|h
  ·omega
  ·exact h j bf
theorem jgg{l:List Oper}{m:Nat}(hm:m≤l.length)(t:HeadOk m l){e0:Env}{R:List DR}(d:DReg P E (l.take m) e0 R)(hE0:E.h.length≤e0.h.length){Q:Exit→Act→World→Prop}
  (hQ:∀lf L,L.size=l.length→(∀j,j<l.length→(L.getD j false=true↔j<m))→l.length - m≤lf→∀c a w,Sim E.N c ⟨(ja e0 R).t,rp R (ja e0 R).h⟩ a w→E.ok c (rp R (ja e0 R).h) w→wpAny P .any l.toArray Q lf L a w) :
  ∀(lf:Nat) (L:Array Bool),L.size=l.length→(∀j,m≤j→L.getD j false=false)→L.toList.count false≤lf→qqg l (fun j=>L.getD j false)→∀(c:Ctx) (a:Act) (w:World),DInv E e0 R (fun j=>L.getD j false) c a w→wpAny P .any l.toArray Q lf L a w:=by
 intro lf;have jr:(l.take m).length=m:=am;have qw2:∀(L:Array Bool),(∀j,m≤j→L.getD j false=false)→(∀j,j<m→L.getD j false=true)→∀j,j<l.length→(L.getD j false=true↔j<m):=fun L oo ix j _=>by
  refine⟨fun h=>?_,ix j⟩;rcases d8 j m with h1|h1
  ·exact h1
  ·rw[oo j h1]at h;cases h
 have qv5:∀(k:Nat) (L:Array Bool),L.size=l.length→(∀j,k≤j→L.getD j false=false)→k≤l.length→l.length - k≤L.toList.count false:=fun k L hL hk hkl=>by
  have h1:(L.toList.drop k).count false=l.length - k:=by
   have h2:(L.toList.drop k).count false=(L.toList.drop k).length:=List.count_eq_length.2 fun b hb=>by
    obtain⟨j,hj⟩:=dv hb;rw[ez]at hj;have:=hk (k+j) aa;simp only[ed]at this;rw[←fc,hj]at this;simpa using this.symm
   rw[h2];simp[hL]
  have h3:(L.toList.drop k).Sublist L.toList:=List.drop_sublist _ _;have:=h3.count_le false;omega
 induction lf with
 |zero =>
  intro L hL oo hc l9 c a w inv;by_cases ix:∀j,j<m→L.getD j false=true
  ·obtain⟨s,k⟩:=xgl d (fun j hj=>ix j aa) inv;have:=qv5 m L hL oo hm;exact hQ 0 L hL (qw2 L oo ix) aa c a w s k
  ·obtain⟨i,h1,h2,_⟩:=qzp ix;have:=xmd (L:=L) (i:=i) aa h2;omega
 |succ lf ih =>
  intro L hL oo hc l9 c a w inv;by_cases ix:∀j,j<m→L.getD j false=true
  ·obtain⟨s,k⟩:=xgl d (fun j hj=>ix j aa) inv;have:=qv5 m L hL oo hm;exact hQ (lf+1) L hL (qw2 L oo ix) aa c a w s k
  ·obtain⟨i0,g1,g2,g3⟩:=qzp ix;refine⟨fun hr=>?_,fun i hi=>?_⟩
   ·have:=xe5 t.after hL (i:=i0) aa g2 g3;rw[hr]at this;cases this
   ·obtain⟨o,h1,h2,h3⟩:=xbh hi;have ib:i<L.size:=by rw[hL];exact(cq.1 h1).1
    have hLi:L.getD i false=false:=qiy;have zb:i<m:=by
     rcases d8 i m with h4|h4
     ·exact h4
     ·have:=qrc l9 i i0 o h1 h3 (t.ord i i0 h4 aa aa);rw[show L.getD i0 false=false from g2]at this;cases this
    have ll:(l.take m)[i]?=some o:=by rw[dx,if_pos zb];exact h1
    have hcl':qqg (l.take m) fun j=>L.getD j false:=fun j o' hj ky e he hb=>by
     have hjm:j<m:=by have:=(cq.1 ky).1;omega
     rw[dx,if_pos hjm]at ky;exact l9 j o' hj ky e he hb
    refine xjq zb (fun o' j want ky hg=>?_) (wpOp_mono ?_ (xc6 (Q:=Q) d.weak hE0 hcl' inv ll hLi h3 (d.step i o ll)))
    ·rw[h1]at ky;cases ky;have:=d.ok.guard i o j want ll hg;omega
    ·rintro a' w' ⟨c',inv'⟩;rw[qu8 ib]at inv';refine ih _ qj8 (fun j hj=>?_) ?_ (xme ib h1 h3 l9) c' a' w' inv'
     ·have hf:=congrFun (qu8 ib) j;rw[←hf,if_neg aa];exact oo j hj
     ·have:=xdd ib hLi;omega
def xa8(P:Program)(N:Nat)(Q:AExit→Env→Prop)(l:List Oper):Nat→Array Bool→Env→Prop
 | 0,L,e=>Region.ready .any l.toArray L=[]∧Q .normal e
 |n+1,L,e=>(Region.ready .any l.toArray L=[]→Q .normal e)∧∀i,i∈Region.ready .any l.toArray L→match l[i]? with
  |some o=>qux P N Q (l.map (·.dst)) o e fun e'=>xa8 P N Q l n (L.setIfInBounds i true) e'
  |none=>False
theorem xwr{Q:AExit→Env→Prop}{l:List Oper}:∀(n lf:Nat) (L:Array Bool) (e:Env),n≤lf→xa8 P E.N Q l n L e→∀c a w,Sim E.N c e a w→E.ok c e.h w→wpAny P .any l.toArray (qna E Q) lf L a w
 | 0,lf,L,e,_,h,c,a,w,s,k=>by
  obtain⟨h1,h2⟩:=h;have hq:qna E Q .normal a w:=⟨.normal,e,c,h2,trivial,s,k⟩
  cases lf with
  |zero=>exact⟨h1,hq⟩
  |succ f=>exact⟨fun _=>hq,fun i hi=>by rw[h1]at hi;cases hi⟩
 |n+1,0,L,e,hn,_,_,_,_,_,_=>by omega
 |n+1,lf+1,L,e,hn,h,c,a,w,s,k=>by
  obtain⟨h1,h2⟩:=h;refine⟨fun hr=>⟨.normal,e,c,h1 hr,trivial,s,k⟩,fun i hi=>?_⟩;have h3:=h2 i hi;split at h3
  ·rename_i o ho;have qg:(l.toArray)[i]?=some o:=qgp;unfold wpOp;simp only[qg];exact xgc h3 (fun G hG=>qx8 (done:=l) (rest:=[]) ae s hG) s k fun e' c' a' w' hK s' k'=>xwr n lf _ e' aa hK c' a' w' s' k'
  ·exact h3.elim
def xdt(m n:Nat):Array Bool:=(List.replicate m true++List.replicate (n - m) false).toArray
theorem jad{m n:Nat}(hm:m≤n){L:Array Bool}(hL:L.size=n)(h:∀j,j<n→(L.getD j false=true↔j<m)):L=xdt m n:=by
 apply Array.ext
 ·simp[xdt,hL];omega
 ·intro i h1 h2;have:=h i aa;simp only[Array.getD,h1,dite_true]at this;simp only[xdt,List.getElem_toArray,List.getElem_append,List.length_replicate,List.getElem_replicate];by_cases zb:i<m
  ·simp only[zb,dite_true];exact this.2 zb
  ·simp only[zb,dite_false];cases hv:L[i]with
   |false=>rfl
   |true=>exact(zb (this.1 hv)).elim
theorem ji5{id:Nat}(m:Nat){l:List Oper}{Q:AExit→Env→Prop}{e:Env}(hm:P.follows .mixedOrders=true)(hB:(decide (m≤l.length)&&quy (l.take m)&&xiw m l)=true)
  (h:qou P E.N [] (l.take m) e [] fun R e1=>pm (Region.before (l.take m).toArray) R∧xa8 P E.N Q l (l.length - m) (xdt m l.length) ⟨e1.t,rp R e1.h⟩):AWp P E (.region id l.toArray true) Q e:=fun c a w s k=>by
 simp only[c0,decide_eq_true_eq]at hB;obtain⟨⟨sp,hdB⟩,hT⟩:=hB;have hd:=xbi hdB;obtain⟨R,hRl,mj,qr4,hQ⟩:=qxf h;simp only[ej]at mj qr4;have d:DReg P E (l.take m) e R:=by
  refine⟨hd,hRl,mj,fun k s r r' i off cs hr hk jd kb=>?_⟩;unfold pm at qr4;rw[dw]at qr4;have h1:=qr4 (r,k) qhd;simp only[hk,dw]at h1;have h2:=h1 (r',s) (by rw[List.mem_zipIdx_iff_getElem?];simpa using jd);simp only[kb,bne_self_eq_false,qlw,c0,decide_eq_true_eq]at h2;exact h2
 refine wp_region_any hm ?_;have jd:HSim c e.h { w with drawn:=w.drawn+1 }:=s.hs.ext (fun _ _=>rfl) (.refl c) (fun _ _=>rfl) (fun _ _ _ h=>.inl h) s.hs.dom;have kb:E.ok c e.h { w with drawn:=w.drawn+1 }:=k.ext' s.hs (fun _ _=>rfl) (.refl c) (fun _=>rfl) rfl rfl rfl (ct _) (fun _ _ _ h=>.inl h);have hff:(fun _=>false)=fun j=>(Array.replicate l.toArray.size false).getD j false:=by
  funext j;simp[ed,Array.getElem?_replicate];split<;>rfl
 refine jgg sp (jeu hT) d k.len (fun lf L hL hj hf c' a' w' s' k'=>?_) _ _ ae (fun j _=>(congrFun hff j).symm) ?_ ?_ c a _ ?_
 ·rw[jad sp hL hj];exact xwr _ lf _ _ hf hQ c' a' w' s' k'
 ·simp
 ·intro j o hj;rw[←hff]at hj;cases hj
 ·rw[←hff];exact xe9 ⟨s.defers,s.size,s.tmps,jd⟩ kb
end
end Go.Abs
