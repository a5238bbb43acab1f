/- Part 11 of a proof. -/
import Derived.Test.YtolejdhnnchfpaaGreatDoorQ10
set_option linter.all false
namespace Go.Abs
section
variable {P:Program} {E:Ent}
theorem xrk{X Y:Nat->Bool}:∀{R:List DR} {k:Nat},(∀j,j<R.length->X (k+j)=Y (k+j))->ni X k R=ni Y k R
 | [],_,_=>rfl
 |r::R,k,h=>by
  have h1:=xrk (X:=X) (Y:=Y) (R:=R) (k:=k+1) λj hj=>by
   have:=h (j+1) af;rwa [show k+(j+1)=k+1+j from by omega]at this
  have h2:=h 0 ac;simp only[ea]at h2;simp only[ni,h1,h2]
theorem xnc{X Y:Nat->Bool}:∀{R:List DR} {k:Nat},(∀j,j<R.length->X (k+j)=Y (k+j))->ss X k R=ss Y k R
 | [],_,_=>rfl
 |r::R,k,h=>by
  have h1:=xnc (X:=X) (Y:=Y) (R:=R) (k:=k+1) λj hj=>by
   have:=h (j+1) af;rwa [show k+(j+1)=k+1+j from by omega]at this
  have h2:=h 0 ac;simp only[ea]at h2;simp only[ss,h1,h2]
theorem xmm:∀{R:List DR} {k:Nat},ss (λ_=>true) k R=R
 | [],_=>rfl
 |r::R,k=>by simp only[ss,cond_true,xmm]
theorem xi8:∀{R:List DR} {k:Nat},ss (λ_=>false) k R=[]
 | [],_=>rfl
 |r::R,k=>by simp only[ss,cond_false,xi8]
theorem HSim.nones{c:Ctx}{h:g9}{w:World}(s:HSim c h w){l:g9}(hl:∀o,o∈l->o=.none):HSim c (h++l) w:=by
 have qw3:∀i o,(h++l)[i]?=some o->h[i]?=some o\/o=AObj.none:=λi o hi=>by
  by_cases il:i<h.length
  .rw[co il]at hi;exact .inl hi
  .rw[cx aa]at hi;exact .inr (hl o (cv hi))
 refine⟨s.data,λi hi=>s.dom i af,λi o hi=>?_,λi j o o' b hi hj p9 hbj=>?_,λi o b j v hi p9 hD=>?_⟩
 .rcases qw3 i o hi with h1|rfl
  .exact s.obj i o h1
  .trivial
 .rcases qw3 i o hi with h1|rfl
  .rcases qw3 j o' hj with h2|rfl
   .exact s.apart i j o o' b h1 h2 p9 hbj
   .cases hbj
  .cases p9
 .rcases qw3 i o hi with h1|rfl
  .exact s.sep i o b j v h1 p9 hD
  .cases p9
theorem Ent.ok.nones{c:Ctx}{h:g9}{w:World}(k:E.ok c h w){l:g9}(hl:∀o,o∈l->o=.none):E.ok c (h++l) w:=by
 refine⟨k.edom,k.ext,k.blk0,qe1,k.os,k.tape,k.output,k.size,k.frame,λi o b hi hb=>?_,k.dold⟩;by_cases il:i<h.length
 .rw[co il]at hi;exact k.newobj i o b hi hb
 .rw[cx aa]at hi;have:=hl o (cv hi);subst this;cases hb
theorem xd8{e0:Env}{R:List DR}{c:Ctx}{a:Act}{w:World}(s:Sim E.N c e0 a w)(k:E.ok c e0.h w):DInv E e0 R (λ_=>false) c a w:=by
 have hn:∀o,o∈ni (λ_=>false) 0 R->o=.none:=λo ho=>by grind[da,qc6]
 have hh:hX R (λ_=>false) e0.h=e0.h++ni (λ_=>false) 0 R:=by
  unfold hX;rw[xi8];rfl
 refine⟨s.defers,s.size,λt=>?_,by rw[hh];exact s.hs.nones hn,by rw[hh];exact k.nones hn,λi r xs _ _ _=>(s.hs.dom _ aa).1,λr hr=>?_⟩
 .rw[qzp (λj r _ h=>by cases h)];exact s.tmps t
 .grind[xi8]
theorem xec{l:List Oper}{e0:Env}{R:List DR}(d:DReg P E l e0 R){X:Nat->Bool}(iz:∀j,j<l.length->X j=true){c:Ctx}{a:Act}{w:World}(inv:DInv E e0 R X c a w) :
  Sim E.N c ⟨(jb e0 R).t,rr R (jb e0 R).h⟩ a w/\E.ok c (rr R (jb e0 R).h) w:=by
 have h1:∀j,j<R.length->X (0+j)=(λ_=>true) (0+j):=λj hj=>by rw[cz];exact iz j (by rw[<-d.len];exact hj)
 have hh:hX R X e0.h=rr R (jb e0 R).h:=by
  unfold hX;rw[xnc (Y:=λ_=>true) h1,xmm,xrk (Y:=λ_=>true) h1,qxl]
 refine⟨⟨inv.defers,inv.size,λt=>?_,by rw[<-hh];exact inv.hs⟩,by rw[<-hh];exact inv.ok⟩;have:=inv.tmps t;rw[qcu (Y:=λ_=>true) λj r hr _=>h1 j (cm.1 hr).1]at this;rw[qx2];exact this
theorem qy4{l:List Oper}{L:Array Bool}{i:Nat}(h:i∈Region.ready .any l.toArray L):∃o,l[i]?=some o/\L.getD i true=false/\∀e,e∈o.after->Region.binds .any e=true->L.getD e.on false=true:=by
 simp only[Region.ready,e9,ga,cw,gv]at h;obtain⟨h1,h2,h3⟩:=h;have il:i<l.length:=aa;refine⟨l[i],bc,h2,λe he hb=>?_⟩;have hg:(l.toArray)[i]?=some l[i]:=bc;rw[hg]at h3;simp only[e8,gq,qj9]at h3;have:=h3 e he;simpa[hb]using this
theorem jmt{l:List Oper}(hd:DrawOk l){L:Array Bool}(hL:L.size=l.length)(h:Region.ready .any l.toArray L=[]):∀i,i<l.length->L.getD i false=true:=by
 intro i
 induction i using Nat.strongRecOn with
 |_ i ih =>
  intro hi;cases hv:L.getD i false with
  |true=>rfl
  |false =>
   have hg:l[i]?=some l[i]:=qhi;have hm:i∈Region.ready .any l.toArray L:=by
    simp only[Region.ready,e9,ga,cw,gv];refine⟨qg7,?_,?_⟩
    .grind
    .have jp:(l.toArray)[i]?=some l[i]:=qhi;rw[jp];simp only[e8,gq,qj9];intro e he;cases hb:Region.binds .any e with
     |false=>rfl
     |true =>
      have il:=hd.after i l[i] hg e he hb;simp[ih e.on il aa]
   rw[h]at hm;cases hm
def qro(m:Nat)(l:List Oper):Bool :=
 let b:=Region.before l.toArray
 (l.zipIdx.all λp=>p.1.after.all λe=>!Region.binds .any e||e.on<p.2) &&
 ((List.range l.length).all λi=>decide (i<m)||(List.range i).all λj=>sh b j i)
structure TailOk(m:Nat)(l:List Oper):Prop where
 after:∀(j:Nat) (o:Oper),l[j]?=some o->∀e,e∈o.after->Region.binds .any e=true->e.on<j
 ord:∀i j,m<=i->i<l.length->j<i->sh (Region.before l.toArray) j i=true
theorem xbx{m:Nat}{l:List Oper}(h:qro m l=true):TailOk m l:=by
 simp only[qro,cw,dr]at h;obtain⟨h1,h2⟩:=h;refine⟨λj o hj e he hb=>?_,λi j hi il hj=>?_⟩
 .have:=h1 (o,j) (qc3 hj);simp only[qj9]at this;have:=this e he;simpa[hb]using this
 .have:=h2 i af;simp only[gu,decide_eq_true_eq,dr]at this;rcases this with h|h
  .omega
  .grind
theorem xbt{l:List Oper}(hd:∀(j:Nat) (o:Oper),l[j]?=some o->∀e,e∈o.after->Region.binds .any e=true->e.on<j){L:Array Bool}(hL:L.size=l.length){i:Nat}(hi:i<l.length)(hv:L.getD i false=false)
  (hmin:∀j,j<i->L.getD j false=true):i∈Region.ready .any l.toArray L:=by
 have hg:l[i]?=some l[i]:=qhi;simp only[Region.ready,e9,ga,cw,gv];refine⟨qg7,?_,?_⟩
 .grind
 .grind
theorem quv{p:Nat->Bool}{n:Nat}(h:¬ ∀j,j<n->p j=true):∃i,i<n/\p i=false/\∀j,j<i->p j=true:=by
 induction n with
 |zero=>exact(h λj hj=>by omega).elim
 |succ n ih =>
  by_cases h1:∀j,j<n->p j=true
  .grind
  .grind
theorem qrf{L:Array Bool}{i:Nat}(il:i<L.size):(λj=>if j=i then true else L.getD j false)=λj=>(L.setIfInBounds i true).getD j false:=by
 funext j;by_cases hj:j=i
 .simp_all
 .rw[if_neg hj];simp[dz,gg (Ne.symm hj)]
theorem xb6{L:Array Bool}{i:Nat}(il:i<L.size)(hLi:L.getD i false=false):(L.setIfInBounds i true).toList.count false+1=L.toList.count false:=by
 have hLi':L[i]=false:=ca;have qlg:(L.setIfInBounds i true).toList=L.toList.set i true:=ac;have tz:false∈L.toList:=af;have:=List.count_pos_iff.2 tz;have h5:L.toList[i]'aa=false:=af;rw[qlg,List.count_set aa,h5];simp only[beq_self_eq_true,if_true,Bool.true_eq_false,beq_iff_eq,if_false];omega
theorem xei{L:Array Bool}{i:Nat}(il:i<L.size)(hLi:L.getD i false=false):0<L.toList.count false:=by grind[xb6]
theorem xff{l:List Oper}{L:Array Bool}{i:Nat}{o:Oper}(il:i<L.size)(ho:l[i]?=some o)(h3:∀e,e∈o.after->Region.binds .any e=true->L.getD e.on false=true)(ki:qku l λj=>L.getD j false):qku l λj=>(L.setIfInBounds i true).getD j false:=λj o' hj kc e he hb=>by
 rw[<-qrf il]at hj|-;by_cases su:j=i
 .grind
 .have ny:L.getD j false=true:=by simpa[if_neg su]using hj
  have:L.getD e.on false=true:=ki j o' ny kc e he hb;show(if _ then _ else _)=true;rw[this];simp
theorem qyb{l:List Oper}{m:Nat}(t:TailOk m l){Q:Exit->Act->World->Prop}:∀(kh k:Nat) (L:Array Bool),m<=k->k<=l.length->L.size=l.length->(∀j,j<l.length->(L.getD j false=true↔j<k))->l.length - k<=kh ->
  ∀(a:Act) (w:World),wpList P l.toArray Q (l.drop k) a w->wpAny P .any l.toArray Q kh L a w:=by
 intro kh;have hnil:∀(k:Nat) (L:Array Bool),k<l.length->L.size=l.length->(∀j,j<l.length->(L.getD j false=true↔j<k))->Region.ready .any l.toArray L≠[]:=λk L hk hL hj he=>by
  have:=xbt t.after hL hk af (λj ya=>(hj j aa).2 ya);rw[he]at this;cases this
 have hfull:∀(L:Array Bool),L.size=l.length->(∀j,j<l.length->(L.getD j false=true↔j<l.length))->Region.ready .any l.toArray L=[]:=λL hL hj=>by
  cases hr:Region.ready .any l.toArray L with
  |nil=>rfl
  |cons i rest =>
   obtain⟨o,h1,h2,_⟩:=qy4 (l:=l) (L:=L) (i:=i) af;have il:i<l.length:=(cm.1 h1).1;have h3:=(hj i il).2 il;have:i<L.size:=aa;simp[Array.getD,this]at h2 h3;rw[h2]at h3;cases h3
 induction kh with
 |zero =>
  intro k L hm hk hL hj hf a w h;have hkn:k=l.length:=aa;subst hkn;refine⟨hfull L hL hj,?_⟩;simpa[wpList]using h
 |succ kh ih =>
  intro k L hm hk hL hj hf a w h;refine⟨λhr=>?_,λi hi=>?_⟩
  .rcases ei k l.length with h1|h1
   .grind
   .have hkn:k=l.length:=aa;subst hkn;simpa[wpList]using h
  .obtain⟨o,h1,h2,h3⟩:=qy4 hi;have il:i<l.length:=(cm.1 h1).1;have hLi:L.getD i false=false:=af;have hki:k<=i:=af;have hik:i=k:=by
    rcases ei k i with h4|h4
    .have ki:qku l λj=>L.getD j false:=λj o' hjt kc e he hb=>by
      have hjl:=(cm.1 kc).1;have h5:=(hj j hjl).1 hjt;have h6:=t.after j o' kc e he hb;exact(hj e.on aa).2 aa
     have:=qly ki i k o h1 h3 (t.ord i k aa il h4);have:=(hj k aa).1 this;omega
    .omega
   subst hik;have xbi:l.drop i=o::l.drop (i+1):=by grind[qi5]
   rw[xbi]at h;have px:(l.toArray)[i]?=some o:=af;have qqj:wpOp P l.toArray Q i (wpList P l.toArray Q (l.drop (i+1))) a w:=by
    unfold wpOp;simp only[px];exact h
   refine wpOp_mono (λa' w' h'=>ih (i+1) _ aa aa af (λj hjl=>?_) aa a' w' h') qqj;have hf:=congrFun (qrf (L:=L) (i:=i) aa) j;rw[<-hf];by_cases su:j=i
   .grind
   .grind
theorem xc9{l:List Oper}{m i:Nat}(hi:i<m)(hg:∀o j want,l[i]?=some o->o.guard=some (j,want)->j<m){Q:Exit->Act->World->Prop}{K:Act->World->Prop}{a:Act}{w:World}(h:wpOp P (l.take m).toArray Q i K a w):wpOp P l.toArray Q i K a w:=by
 unfold wpOp at *;have he:(l.take m).toArray[i]?=l.toArray[i]?:=qhi;rw[he]at h;cases ho:l.toArray[i]? with
 |none=>rw[ho]at h;exact h
 |some o =>
  rw[ho]at h;simp only at h|-;have hw:Region.wanted o (yielded (l.take m).toArray a.tmps)=Region.wanted o (yielded l.toArray a.tmps):=by
   unfold Region.wanted;split
   .rfl
   .rename_i j want hgd;have hj:=hg o j want af hgd;have:yielded (l.take m).toArray a.tmps j=yielded l.toArray a.tmps j:=by
     unfold yielded;simp[hj]
    rw[this]
  rw[<-hw];exact h
theorem xse{l:List Oper}{m:Nat}(hm:m<=l.length)(t:TailOk m l){e0:Env}{R:List DR}(d:DReg P E (l.take m) e0 R)(hE0:E.h.length<=e0.h.length){Q:Exit->Act->World->Prop}
  (hQ:∀c a w,Sim E.N c ⟨(jb e0 R).t,rr R (jb e0 R).h⟩ a w->E.ok c (rr R (jb e0 R).h) w->wpList P l.toArray Q (l.drop m) a w) :
  ∀(kh:Nat) (L:Array Bool),L.size=l.length->(∀j,m<=j->L.getD j false=false)->L.toList.count false<=kh->qku l (λj=>L.getD j false)->∀(c:Ctx) (a:Act) (w:World),DInv E e0 R (λj=>L.getD j false) c a w->wpAny P .any l.toArray Q kh L a w:=by
 intro kh;have jm:(l.take m).length=m:=az;have qq3:∀(L:Array Bool),(∀j,m<=j->L.getD j false=false)->(∀j,j<m->L.getD j false=true)->∀j,j<l.length->(L.getD j false=true↔j<m):=λL nl iz j _=>by grind
 have qr8:∀(k:Nat) (L:Array Bool),L.size=l.length->(∀j,k<=j->L.getD j false=false)->k<=l.length->l.length - k<=L.toList.count false:=λk L hL hk hkl=>by
  have h1:(L.toList.drop k).count false=l.length - k:=by
   have h2:(L.toList.drop k).count false=(L.toList.drop k).length:=List.count_eq_length.2 λb hb=>by
    obtain⟨j,hj⟩:=da hb;rw[ew]at hj;have:=hk (k+j) aa;simp only[dz]at this;rw[<-fb,hj]at this;simpa using this.symm
   rw[h2];simp[hL]
  have h3:(L.toList.drop k).Sublist L.toList:=qka _ _;have:=h3.count_le false;omega
 induction kh with
 |zero =>
  intro L hL nl hc ki c a w inv;by_cases iz:∀j,j<m->L.getD j false=true
  .obtain⟨s,k⟩:=xec d (λj hj=>iz j aa) inv;have:=qr8 m L hL nl hm;exact qyb t 0 m L (cn _) hm hL (qq3 L nl iz) aa a w (hQ c a w s k)
  .obtain⟨i,h1,h2,_⟩:=quv iz;have:=xei (L:=L) (i:=i) aa h2;omega
 |succ kh ih =>
  intro L hL nl hc ki c a w inv;by_cases iz:∀j,j<m->L.getD j false=true
  .obtain⟨s,k⟩:=xec d (λj hj=>iz j aa) inv;have:=qr8 m L hL nl hm;exact qyb t (kh+1) m L (cn _) hm hL (qq3 L nl iz) aa a w (hQ c a w s k)
  .obtain⟨i0,g1,g2,g3⟩:=quv iz;refine⟨λhr=>?_,λi hi=>?_⟩
   .have:=xbt t.after hL (i:=i0) aa g2 g3;rw[hr]at this;cases this
   .obtain⟨o,h1,h2,h3⟩:=qy4 hi;have il:i<L.size:=af;have hLi:L.getD i false=false:=af;have him:i<m:=by
     rcases ei i m with h4|h4
     .exact h4
     .have:=qly ki i i0 o h1 h3 (t.ord i i0 h4 aa aa);rw[show L.getD i0 false=false from g2]at this;cases this
    have mz:(l.take m)[i]?=some o:=af;have qvv:qku (l.take m) λj=>L.getD j false:=λj o' hj kc e he hb=>by
     have hjm:j<m:=af;rw[dt,if_pos hjm]at kc;exact ki j o' hj kc e he hb
    refine xc9 him (λo' j want kc hg=>?_) (wpOp_mono ?_ (xde (Q:=Q) d.weak hE0 qvv inv mz hLi h3 (d.step i o mz)))
    .rw[h1]at kc;cases kc;have:=d.ok.guard i o j want mz hg;omega
    .rintro a' w' ⟨c',inv'⟩;rw[qrf il]at inv';refine ih _ af (λj hj=>?_) ?_ (xff il h1 h3 ki) c' a' w' inv'
     .have hf:=congrFun (qrf il) j;rw[<-hf,if_neg aa];exact nl j hj
     .grind[xb6]
theorem xks{P:Program}{N:Nat}{ds:List (Option Tmp)}{o:Oper}{e:Env}{K K':DR->Prop}(h:ux P N ds o e K)(hk:∀r,K r->K' r):ux P N ds o e K':=by
 obtain⟨r,h1,h2⟩:=xj1 h;obtain⟨dst,op,ty,pos,after,guard⟩:=o;unfold ux at h|-;split at h
 .omega
 .rename_i G hG;simp only[hG];obtain⟨hd,h⟩:=h;refine⟨hd,?_⟩;cases op with
  |pick x y z=>exact⟨h.1,hk _ h.2⟩
  |box t x=>exact⟨h.1,h.2.1,h.2.2.1,hk _ h.2.2.2⟩
  |alloc T=>exact⟨h.1,h.2.1,hk _ h.2.2⟩
  |store T a x =>
   obtain⟨g1,g2,g3,g4,g5,g6,g7⟩:=h;refine⟨g1,g2,g3,g4,g5,g6,?_⟩;split at g7
   .grind
   .omega
  |buildSlice T n parts =>
   simp only at h|-;split at h
   .grind
   .omega
  |call cl =>
   obtain⟨callee,args,ats⟩:=cl;cases callee with
   |value f =>
    simp only at h|-;split at h
    .grind
    .omega
   |_=>exact⟨h.1,hk _ h.2⟩
  |_=>exact⟨h.1,hk _ h.2⟩
def qq6(b:Array Nat)(R:List DR):Prop :=
 (R.zipIdx.all λp=>match p.1.k with
  | .quiet (some i)=>R.zipIdx.all λq=>match q.1.k with
   | .store j _ _=>j != i||(decide (p.2<q.2)&&sh b p.2 q.2)
   |_=>true
  |_=>true)=true
theorem xuf{id:Nat}(m:Nat){l:List Oper}{Q:AExit->Env->Prop}{e:Env}(hm:P.follows .mixedOrders=true)(hB:(decide (m<=l.length)&&qs4 (l.take m)&&qro m l)=true)
  (h:qml P E.N [] (l.take m) e [] λR e1=>qq6 (Region.before (l.take m).toArray) R/\qsb P E l.toArray (l.drop m) Q ⟨e1.t,rr R e1.h⟩):AWp P E (.region id l.toArray true) Q e:=λc a w s k=>by
 obtain⟨R,jm,qmz,qpt,hQ⟩:=qvt h;simp only[ff]at qpt hQ;simp only[cw,decide_eq_true_eq]at hB;obtain⟨⟨se,hB⟩,hT⟩:=hB;have d:DReg P E (l.take m) e R:=⟨qx3 hB,jm,λk o ho=>by simpa using qmz k o ho,λk s r r' i off cs hr hk hs hks=>by
  simp only[qq6,dr]at qpt;have:=qpt (r,k) af;simp only[hk,dr]at this;have:=this (r',s) af;simpa[hks]using this⟩
 refine wp_region_any hm ?_;have jg:HSim c e.h { w with drawn:=w.drawn+1 }:=s.hs.ext (λ_ _=>rfl) (.refl c) (λ_ _=>rfl) (λ_ _ _ h=>.inl h) s.hs.dom;have kb:E.ok c e.h { w with drawn:=w.drawn+1 }:=k.ext' s.hs (λ_ _=>rfl) (.refl c) (λ_=>rfl) rfl rfl rfl (cn _) (λ_ _ _ h=>.inl h);have u4:(λ_=>false)=λj=>(Array.replicate l.toArray.size false).getD j false:=by
  funext j;simp[dz,qj1];split<;>rfl
 refine xse se (xbx hT) d k.len (λc' a' w' s' k'=>?_) _ _ ac (λj _=>(congrFun u4 j).symm) ?_ ?_ c a _ ?_
 .exact hQ c' a' w' s' k'
 .simp
 .intro j o hj;rw[<-u4]at hj;cases hj
 .rw[<-u4];exact xd8 ⟨s.defers,s.size,s.tmps,jg⟩ kb
theorem xmp{P:Program}{N:Nat}{l:List Oper}{ds:List (Option Tmp)}{e:Env}{iw:List DR}{K K':List DR->Env->Prop}(h:qml P N ds l e iw K)(hk:∀R e,K R e->K' R e):qml P N ds l e iw K':=by
 induction l generalizing ds e iw with
 |nil=>exact hk _ _ h
 |cons o l ih =>
  simp only[qml]at h|-;exact xks h λr hr=>ih hr
end
section
variable {P:Program} {E:Ent}
theorem xiq{X:Nat->Bool}:∀{R:List DR} {k:Nat},(∀r,r∈R->∃rd,r.k=.quiet rd)->ni X k R=[]
 | [],_,_=>rfl
 |r::R,k,h=>by
  obtain⟨rd,hk⟩:=h r ac;simp only[ni,hk];exact xiq λr' hr=>h r' qfo
theorem xl9:∀{R:List DR} {h:g9},(∀r,r∈R->∃rd,r.k=.quiet rd)->rr R h=h
 | [],_,_=>rfl
 |r::R,h,hq=>by
  obtain⟨rd,hk⟩:=hq r ac;simp only[rr,hk];exact xl9 λr' hr=>hq r' qfo
theorem qzw{R:List DR}{X:Nat->Bool}{h:g9}(hq:∀r,r∈R->∃rd,r.k=.quiet rd):hX R X h=h:=by
 unfold hX;rw[xiq hq,ej];refine xl9 λr hr=>?_;obtain⟨j,hj,_⟩:=qt3 hr;exact hq r (cv hj)
theorem jiv{l:List Oper}{R:List DR}(d:DRegW l R){X:Nat->Bool}(ki:qku l X){c:Ctx}{a:Act}{e0:Env}(htm:∀t,Rel c (ur X t 0 R (ji e0.t t)) (a.tmps.getD t undef)){i:Nat}{o:Oper}(hi:l[i]?=some o)(pn:X i=false)
  (rk:∀e,e∈o.after->Region.binds .any e=true->X e.on=true):∀t,t∈tmpsOf o.op.operands.toList++quz l o->Rel c (ji (jb e0 (R.take i)).t t) (a.tmps.getD t undef):=by
 intro t ht;have:=htm t;rw[qx2,xdd];rw[qcu (Y:=X)]
 .exact this
 .intro j r' jf hd;simp only[cz,fa];obtain⟨o',kc,sn,_⟩:=d.dst jf;rw[sn]at hd;rcases d.ok.temps i o t j o' hi ht kc hd with rfl|y8
  .simp[pn]
  .rcases qjq j i with h|h|h
   .grind[Nat.min_eq_right,Nat.max_eq_left,qly]
   .grind
   .rw[fm (ez h),Nat.max_eq_right (ez h)]at y8;have hXj:X j=false:=by
     cases hX:X j with
     |false=>rfl
     |true=>have:=qly ki j i o' kc (ki j o' hX kc) y8;rw[pn]at this;cases this
    rw[hXj,decide_eq_false aa]
def qmg(e:Env)(o:Oper):Env:=⟨(tmpsOf o.op.operands.toList).map λt=>(t,ji e.t t),e.h⟩
theorem xjl(g:Nat->AV):∀(l:List Nat) (i:Nat),ji (l.map λt=>(t,g t)) i=if i∈l then g i else .top
 | [],i=>by simp[ji]
 |t::l,i=>by
  simp only[dj,ji,c0];by_cases h:t=i
  .grind
  .have:(t == i)=false:=qf7;rw[this,cond_false,xjl g l i];by_cases hi:i∈l
   .simp[hi]
   .grind
structure DRegC(P:Program)(E:Ent)(l:List Oper)(e0:Env)(R:List DR)(jc:Nat)(h2:g9):Prop where
 w:DRegW l R
 lt:jc<l.length
 quiet:∀r,r∈R->∃rd,r.k=.quiet rd
 before:∀(k:Nat) (o:Oper),l[k]?=some o->k≠jc->sh (Region.before l.toArray) jc k=false->ux P E.N ((l.take k).map (·.dst)) o (jb ⟨e0.t,e0.h⟩ (R.take k)) (λr=>R[k]?=some r)
 after:∀(k:Nat) (o:Oper),l[k]?=some o->k≠jc->sh (Region.before l.toArray) k jc=false->ux P E.N ((l.take k).map (·.dst)) o (jb ⟨e0.t,h2⟩ (R.take k)) (λr=>R[k]?=some r)
 eff:∀o,l[jc]?=some o->∃r:AV,o.guard=none/\zj E.N o.dst/\R[jc]?=some ⟨o.dst,r,.quiet none⟩/\qy P (qmg (jb ⟨e0.t,e0.h⟩ (R.take jc)) o) o.op (λr1 h1=>r1=r/\h1=h2) λ_ _=>False
end
structure Tag{α:Type}(a:α):Type where
def xhm(P:Program)(fid:FuncId)(args:List AV)(e:Env)(R:Env->AEnd->g9->Prop)(_:Tag R):Prop:=ACalls P fid args e.h (R e)
def xbm(P:Program)(fid:FuncId)(G:Bool)(pre:Prop)(args:List AV)(e:Env)(K:Bool->Env->AV->Prop)(KE:Env->AEnd->g9->Prop)(_:Tag K)(_:Tag KE):Prop:=xmf P fid G pre args e.h (K G e) (KE e)
def Cnd(c:Bool)(e:Env)(A B:Env->Prop)(_:Tag A)(_:Tag B):Prop:=(c=true->A e)/\(c=false->B e)
def TWp(P:Program)(E:Ent)(c:Code)(Q:AExit->Env->Prop)(e:Env)(_:Tag (c,Q)):Prop:=AWp P E c Q e
def stepG(P:Program)(N:Nat)(Q:AExit->Env->Prop)(ds:List (Option Tmp))(o:Oper)(e:Env)(K:Env->Prop):Prop :=
 match gB ds e o.guard with
 |none=>False
 |some G =>
  zj N o.dst /\
  match o.op with
  | .pick x y z=>qyn G (e.get x) (e.get y) (e.get z)/\K (e.put o.dst (qb o.guard G (qli (e.get x) (e.get y) (e.get z))))
  | .call { callee:=.value f,args,.. }=>match o.guard with
   |none=>me e true (f::args.toList)/\match e.getS f with
    | .fn (.func fid) first caps=>xhm P fid (ko e.h (first++args.toList.map e.getS++caps)) e (λe r h'=>match r with
     | .ret v=>K (({ e with h:=h' }:Env).put o.dst v)
     | .panic v=>Q (.panic v) { e with h:=h' }) ⟨⟩
    |_=>False
   |some _=>match e.getS f with
    | .fn (.func fid) first caps=>xbm P fid G (me e true (f::args.toList)) (ko e.h (first++args.toList.map e.getS++caps)) e (λG e r=>K (e.put o.dst (.opt G r))) (λe r h'=>match r with
        | .ret v=>K (({ e with h:=h' }:Env).put o.dst (.opt true v))
        | .panic v=>Q (.panic v) { e with h:=h' }) ⟨⟩ ⟨⟩
    |_=>False
  |op =>
   match u9 op,o.guard with
   |false,g=>(G=true->me e true op.operands.toList/\(qg P e.getS e.h op).side)/\K (e.put o.dst (qb g G (qg P e.getS e.h op).val))
   |true,none=>qy P e op (λv h'=>K (({ e with h:=h' }:Env).put o.dst v)) (λv h'=>Q (.panic v) { e with h:=h' })
   |true,some _=>False
theorem xsh{P:Program}{N:Nat}{Q:AExit->Env->Prop}{ds:List (Option Tmp)}{o:Oper}{e:Env}{K:Env->Prop}(h:stepG P N Q ds o e K):s7 P N Q ds o e K:=by
 obtain⟨dst,op,ty,pos,after,guard⟩:=o;unfold stepG at h;unfold s7;split at h
 .grind
 .rename_i G hG;simp only[hG];obtain⟨hd,h⟩:=h;refine⟨hd,?_⟩;cases op with
  |pick x y z=>exact h
  |call cl =>
   obtain⟨callee,args,ats⟩:=cl;cases callee with
   |value f =>
    cases guard with
    |none=>exact h
    |some g =>
     simp only[u9]at h|-;cases hf:e.getS f with
     |fn fn first caps =>
      simp only[hf]at h|-;cases fn with
      |func fid=>exact h
      |_=>exact h.elim
     |_=>simp[hf]at h
   |invoke r m=>cases guard<;>exact h
   |builtin b=>cases b<;>cases guard<;>first|exact h|exact h.elim
  |next x b=>cases b<;>cases guard<;>first|exact h|exact h.elim
  |_=>cases guard<;>first|exact h|exact h.elim
def qks(P:Program)(N:Nat)(Q:AExit->Env->Prop):List (Option Tmp)->List Oper->Env->Prop
 |_,[],e=>Q .normal e
 |ds,o::l,e=>stepG P N Q ds o e (qks P N Q (ds++[o.dst]) l)
section
variable {P:Program} {E:Ent}
theorem qcq{Q:AExit->Env->Prop}{ops:Array Oper}:∀(l:List Oper) (done:List Oper) (e:Env),ops.toList=done++l->qks P E.N Q (done.map (·.dst)) l e->qsb P E ops l Q e
 | [],done,e,vn,h=>xtq h
 |o::l,done,e,vn,h=>by
  have ih:=λe'=>qcq (Q:=Q) (ops:=ops) l (done++[o]) e' af;simp only[eg,dj,fc]at ih;intro c a w s k;simp only[qks]at h;exact qzs (xsh h) (λG hG=>qx1 vn s hG) s k λe' c' a' w' hK s' k'=>ih e' hK c' a' w' s' k'
theorem xr3{id:Nat}{l:List Oper}{Q:AExit->Env->Prop}{e:Env}(h:qks P E.N Q [] l e):AWp P E (.region id l.toArray false) Q e :=
 xc1 (qcq l [] e ac af)
def wpC(P:Program)(E:Ent):Code->(AExit->Env->Prop)->Env->Prop
 | .skip,Q,e=>Q .normal e
 | .region _ ops false,Q,e=>qks P E.N Q [] ops.toList e
 | .seq a b,Q,e=>wpC P E a (AExit.then (wpC P E b Q) Q) e
 | .cond x a b,Q,e=>match e.get x with
  | .val (.bool c)=>Cnd c e (wpC P E a Q) (wpC P E b Q) ⟨⟩ ⟨⟩
  |_=>False
 | .block id b,Q,e=>wpC P E b (AExit.inBlock id Q) e
 | .exit id,Q,e=>Q (.exit id) e
 | .ret,Q,e=>Q .ret e
 |c,Q,e=>TWp P E c Q e ⟨⟩
theorem jo:∀(c:Code) (Q:AExit->Env->Prop) (e:Env),wpC P E c Q e->AWp P E c Q e
 | .skip,Q,e,h=>xcp h
 | .region id ops false,Q,e,h=>by have:=xr3 (id:=id) (l:=ops.toList) h;simpa using this
 | .region id ops true,Q,e,h=>h
 | .seq a b,Q,e,h=>tg ((jo a _ e h).mono λx e' hx=>by
   cases x with
   |normal=>exact jo b Q e' hx
   |_=>exact hx)
 | .cond x a b,Q,e,h=>by
  simp only[wpC]at h;split at h
  .rename_i c hx;exact qy1 hx (λhc=>jo a Q e (h.1 hc)) (λhc=>jo b Q e (h.2 hc))
  .grind
 | .block id b,Q,e,h=>jbe (jo b _ e h)
 | .loop b,Q,e,h=>h
 | .rangeFunc ..,Q,e,h=>h
 | .exit id,Q,e,h=>jjn h
 | .scope b,Q,e,h=>h
 | .label _,Q,e,h=>h
 | .goto _,Q,e,h=>h
 | .ret,Q,e,h=>xir h
 | .refuse _,Q,e,h=>h
theorem iy{fid:FuncId}{args:List AV}{e:Env}{R:Env->AEnd->g9->Prop}{t:Tag R}{R':AEnd->g9->Prop}(h:ACalls P fid args e.h R')(k:∀r h',R' r h'->R e r h'):xhm P fid args e R t:=h.mono k
theorem iv{fid:FuncId}{args:List AV}{e:Env}{R:Env->AEnd->g9->Prop}{t:Tag R}{r:AV}(h:APure P fid args r)(k:R e (.ret r) e.h):xhm P fid args e R t:=xv5 h k
theorem kq{fid:FuncId}{G:Bool}{pre:Prop}{args:List AV}{e:Env}{K:Bool->Env->AV->Prop}{KE:Env->AEnd->g9->Prop}{t1:Tag K}{t2:Tag KE}{r:AV}(hr:APure P fid args r)(hp:G=true->pre)(hK:K G e r):xbm P fid G pre args e K KE t1 t2 :=
 .inl ⟨r,λhG=>⟨hp hG,hr⟩,hK⟩
theorem xgb{fid:FuncId}{G:Bool}{pre:Prop}{args:List AV}{e:Env}{K:Bool->Env->AV->Prop}{KE:Env->AEnd->g9->Prop}{t1:Tag K}{t2:Tag KE}(r:AV)(hr:G=true->APure P fid args r)(hp:G=true->pre)(hK:K G e r):xbm P fid G pre args e K KE t1 t2 :=
 .inl ⟨r,λhG=>⟨hp hG,hr hG⟩,hK⟩
theorem qdz{fid:FuncId}{G:Bool}{pre:Prop}{args:List AV}{e:Env}{K:Bool->Env->AV->Prop}{KE:Env->AEnd->g9->Prop}{t1:Tag K}{t2:Tag KE}{r:AV}(hr:G=true->ACalls P fid args e.h λx h'=>x=.ret r/\h'=e.h)(hp:G=true->pre)(hK:K G e r)(hE:K true e r->KE e (.ret r) e.h):xbm P fid G pre args e K KE t1 t2:=by
 cases G with
 |false=>exact .inl ⟨r,λh=>cg,hK⟩
 |true=>exact .inr ⟨rfl,hp rfl,(hr rfl).mono af⟩
theorem qd3{fid:FuncId}{pre:Prop}{args:List AV}{e:Env}{K:Bool->Env->AV->Prop}{KE:Env->AEnd->g9->Prop}{t1:Tag K}{t2:Tag KE}(hK:K false e .top):xbm P fid false pre args e K KE t1 t2:=.inl ⟨.top,λh=>cg,hK⟩
theorem ii{c:Bool}{e:Env}{A B:Env->Prop}{t1:Tag A}{t2:Tag B}(h1:c=true->A e)(h2:c=false->B e):Cnd c e A B t1 t2:=⟨h1,h2⟩
@[simp] theorem jli{e:Env}{A B:Env->Prop}{t1:Tag A}{t2:Tag B}:Cnd true e A B t1 t2=A e:=by simp[Cnd]
@[simp] theorem jm3{e:Env}{A B:Env->Prop}{t1:Tag A}{t2:Tag B}:Cnd false e A B t1 t2=B e:=by simp[Cnd]
end
attribute [go_sem] wpC qks stepG AExit.then AExit.inBlock
section
variable {P:Program} {E:Ent}
structure HeadOk(m:Nat)(l:List Oper):Prop where
 after:∀(j:Nat) (o:Oper),l[j]?=some o->∀e,e∈o.after->Region.binds .any e=true->e.on<j
 ord:∀i j,m<=i->i<l.length->j<m->sh (Region.before l.toArray) j i=true
def xgg(m:Nat)(l:List Oper):Bool :=
 let b:=Region.before l.toArray
 (l.zipIdx.all λp=>p.1.after.all λe=>!Region.binds .any e||e.on<p.2) &&
 ((List.range l.length).all λi=>decide (i<m)||(List.range m).all λj=>sh b j i)
theorem jhl{m:Nat}{l:List Oper}(h:xgg m l=true):HeadOk m l:=by
 simp only[xgg,cw,dr]at h;obtain⟨h1,h2⟩:=h;refine⟨λj o hj e he hb=>?_,λi j hi il hj=>?_⟩
 .have:=h1 (o,j) (qc3 hj);simp only[qj9]at this;have:=this e he;simpa[hb]using this
 .have:=h2 i af;simp only[gu,decide_eq_true_eq,dr]at this;rcases this with h|h
  .omega
  .grind
theorem jah{l:List Oper}{m:Nat}(hm:m<=l.length)(t:HeadOk m l){e0:Env}{R:List DR}(d:DReg P E (l.take m) e0 R)(hE0:E.h.length<=e0.h.length){Q:Exit->Act->World->Prop}
  (hQ:∀kh L,L.size=l.length->(∀j,j<l.length->(L.getD j false=true↔j<m))->l.length - m<=kh->∀c a w,Sim E.N c ⟨(jb e0 R).t,rr R (jb e0 R).h⟩ a w->E.ok c (rr R (jb e0 R).h) w->wpAny P .any l.toArray Q kh L a w) :
  ∀(kh:Nat) (L:Array Bool),L.size=l.length->(∀j,m<=j->L.getD j false=false)->L.toList.count false<=kh->qku l (λj=>L.getD j false)->∀(c:Ctx) (a:Act) (w:World),DInv E e0 R (λj=>L.getD j false) c a w->wpAny P .any l.toArray Q kh L a w:=by
 intro kh;have jm:(l.take m).length=m:=az;have qq3:∀(L:Array Bool),(∀j,m<=j->L.getD j false=false)->(∀j,j<m->L.getD j false=true)->∀j,j<l.length->(L.getD j false=true↔j<m):=λL nl iz j _=>by grind
 have qr8:∀(k:Nat) (L:Array Bool),L.size=l.length->(∀j,k<=j->L.getD j false=false)->k<=l.length->l.length - k<=L.toList.count false:=λk L hL hk hkl=>by
  have h1:(L.toList.drop k).count false=l.length - k:=by
   have h2:(L.toList.drop k).count false=(L.toList.drop k).length:=List.count_eq_length.2 λb hb=>by
    obtain⟨j,hj⟩:=da hb;rw[ew]at hj;have:=hk (k+j) aa;simp only[dz]at this;rw[<-fb,hj]at this;simpa using this.symm
   rw[h2];simp[hL]
  have h3:(L.toList.drop k).Sublist L.toList:=qka _ _;have:=h3.count_le false;omega
 induction kh with
 |zero =>
  intro L hL nl hc ki c a w inv;by_cases iz:∀j,j<m->L.getD j false=true
  .obtain⟨s,k⟩:=xec d (λj hj=>iz j aa) inv;have:=qr8 m L hL nl hm;exact hQ 0 L hL (qq3 L nl iz) aa c a w s k
  .obtain⟨i,h1,h2,_⟩:=quv iz;have:=xei (L:=L) (i:=i) aa h2;omega
 |succ kh ih =>
  intro L hL nl hc ki c a w inv;by_cases iz:∀j,j<m->L.getD j false=true
  .obtain⟨s,k⟩:=xec d (λj hj=>iz j aa) inv;have:=qr8 m L hL nl hm;exact hQ (kh+1) L hL (qq3 L nl iz) aa c a w s k
  .obtain⟨i0,g1,g2,g3⟩:=quv iz;refine⟨λhr=>?_,λi hi=>?_⟩
   .have:=xbt t.after hL (i:=i0) aa g2 g3;rw[hr]at this;cases this
   .obtain⟨o,h1,h2,h3⟩:=qy4 hi;have il:i<L.size:=af;have hLi:L.getD i false=false:=af;have him:i<m:=by
     rcases ei i m with h4|h4
     .exact h4
     .have:=qly ki i i0 o h1 h3 (t.ord i i0 h4 aa aa);rw[show L.getD i0 false=false from g2]at this;cases this
    have mz:(l.take m)[i]?=some o:=af;have qvv:qku (l.take m) λj=>L.getD j false:=λj o' hj kc e he hb=>by
     have hjm:j<m:=af;rw[dt,if_pos hjm]at kc;exact ki j o' hj kc e he hb
    refine xc9 him (λo' j want kc hg=>?_) (wpOp_mono ?_ (xde (Q:=Q) d.weak hE0 qvv inv mz hLi h3 (d.step i o mz)))
    .rw[h1]at kc;cases kc;have:=d.ok.guard i o j want mz hg;omega
    .rintro a' w' ⟨c',inv'⟩;rw[qrf il]at inv';refine ih _ af (λj hj=>?_) ?_ (xff il h1 h3 ki) c' a' w' inv'
     .have hf:=congrFun (qrf il) j;rw[<-hf,if_neg aa];exact nl j hj
     .grind[xb6]
def qz3(P:Program)(N:Nat)(Q:AExit->Env->Prop)(l:List Oper):Nat->Array Bool->Env->Prop
 | 0,L,e=>Region.ready .any l.toArray L=[]/\Q .normal e
 |n+1,L,e=>(Region.ready .any l.toArray L=[]->Q .normal e)/\∀i,i∈Region.ready .any l.toArray L->match l[i]? with
  |some o=>s7 P N Q (l.map (·.dst)) o e λe'=>qz3 P N Q l n (L.setIfInBounds i true) e'
  |none=>False
theorem xpm{Q:AExit->Env->Prop}{l:List Oper}:∀(n kh:Nat) (L:Array Bool) (e:Env),n<=kh->qz3 P E.N Q l n L e->∀c a w,Sim E.N c e a w->E.ok c e.h w->wpAny P .any l.toArray (qle E Q) kh L a w
 | 0,kh,L,e,_,h,c,a,w,s,k=>by
  obtain⟨h1,h2⟩:=h;have hq:qle E Q .normal a w:=⟨.normal,e,c,h2,trivial,s,k⟩
  cases kh with
  |zero=>exact⟨h1,hq⟩
  |succ f=>exact⟨λ_=>hq,λi hi=>by rw[h1]at hi;cases hi⟩
 |n+1,0,L,e,hn,_,_,_,_,_,_=>by omega
 |n+1,kh+1,L,e,hn,h,c,a,w,s,k=>by
  obtain⟨h1,h2⟩:=h;refine⟨λhr=>⟨.normal,e,c,h1 hr,trivial,s,k⟩,λi hi=>?_⟩;have h3:=h2 i hi;split at h3
  .rename_i o ho;have px:(l.toArray)[i]?=some o:=af;unfold wpOp;simp only[px];exact qzs h3 (λG hG=>qx1 (done:=l) (rest:=[]) ac s hG) s k λe' c' a' w' hK s' k'=>xpm n kh _ e' aa hK c' a' w' s' k'
  .grind
def xeu(m n:Nat):Array Bool:=(List.replicate m true++List.replicate (n - m) false).toArray
theorem xu2{m n:Nat}(hm:m<=n){L:Array Bool}(hL:L.size=n)(h:∀j,j<n->(L.getD j false=true↔j<m)):L=xeu m n:=by
 apply Array.ext
 .grind[xeu]
 .intro i h1 h2;have:=h i aa;simp only[Array.getD,h1,dite_true]at this;simp only[xeu,List.getElem_toArray,List.getElem_append,List.length_replicate,List.getElem_replicate];by_cases him:i<m
  .simp_all
  .simp_all
theorem jkg{id:Nat}(m:Nat){l:List Oper}{Q:AExit->Env->Prop}{e:Env}(hm:P.follows .mixedOrders=true)(hB:(decide (m<=l.length)&&qs4 (l.take m)&&xgg m l)=true)
  (h:qml P E.N [] (l.take m) e [] λR e1=>qq6 (Region.before (l.take m).toArray) R/\qz3 P E.N Q l (l.length - m) (xeu m l.length) ⟨e1.t,rr R e1.h⟩):AWp P E (.region id l.toArray true) Q e:=λc a w s k=>by
 simp only[cw,decide_eq_true_eq]at hB;obtain⟨⟨se,hdB⟩,hT⟩:=hB;have hd:=qx3 hdB;obtain⟨R,hRl,kn,qpt,hQ⟩:=qvt h;simp only[ff]at kn qpt;have d:DReg P E (l.take m) e R:=by
  refine⟨hd,hRl,kn,λk s r r' i off cs hr hk jg kb=>?_⟩;unfold qq6 at qpt;rw[dr]at qpt;have h1:=qpt (r,k) af;simp only[hk,dr]at h1;have h2:=h1 (r',s) af;simp only[kb,bne_self_eq_false,qi0,cw,decide_eq_true_eq]at h2;exact h2
 refine wp_region_any hm ?_;have jg:HSim c e.h { w with drawn:=w.drawn+1 }:=s.hs.ext (λ_ _=>rfl) (.refl c) (λ_ _=>rfl) (λ_ _ _ h=>.inl h) s.hs.dom;have kb:E.ok c e.h { w with drawn:=w.drawn+1 }:=k.ext' s.hs (λ_ _=>rfl) (.refl c) (λ_=>rfl) rfl rfl rfl (cn _) (λ_ _ _ h=>.inl h);have u4:(λ_=>false)=λj=>(Array.replicate l.toArray.size false).getD j false:=by
  funext j;simp[dz,qj1];split<;>rfl
 refine jah se (jhl hT) d k.len (λkh L hL hj hf c' a' w' s' k'=>?_) _ _ ac (λj _=>(congrFun u4 j).symm) ?_ ?_ c a _ ?_
 .grind[xu2,xpm]
 .simp
 .intro j o hj;rw[<-u4]at hj;cases hj
 .rw[<-u4];exact xd8 ⟨s.defers,s.size,s.tmps,jg⟩ kb
end
def xf4(P:Program)(fid:FuncId)(G:Bool)(pre:Prop)(args:List AV)(e:Env)(iw:List DR)(K:Bool->Env->List DR->AV->Prop)(_:Tag K):Prop:=∃r,(G=true->pre/\qxr P fid args r e.h)/\K G e iw r
def qv5(P:Program)(N:Nat)(ds:List (Option Tmp))(o:Oper)(e:Env)(iw:List DR)(K:Env->List DR->DR->Prop):Prop :=
 match gB ds e o.guard with
 |none=>False
 |some G =>
  zj N o.dst /\
  match o.op with
  | .call { callee:=.value f,args,.. }=>match e.getS f with
   | .fn (.func fid) first caps=>xf4 P fid G (me e true (f::args.toList)) (ko e.h (first++args.toList.map e.getS++caps)) e iw (λG e iw r=>K e iw ⟨o.dst,qb o.guard G r,.quiet none⟩) ⟨⟩
   |_=>False
  | .pick x y z=>qyn G (e.get x) (e.get y) (e.get z)/\K e iw ⟨o.dst,qb o.guard G (qli (e.get x) (e.get y) (e.get z)),.quiet none⟩
  | .box _ x=>o.guard=none/\me e true [x]/\(e.getS x).cellsOk=true/\K e iw ⟨o.dst,.ptr e.h.length 0,.fresh (e.getS x).cells⟩
  | .alloc T=>o.guard=none/\im P T≠.other/\K e iw ⟨o.dst,.ptr e.h.length 0,.fresh (jh P T)⟩
  | .store T a x=>o.guard=none/\o.dst=none/\me e true [a,x]/\im P T≠.other/\(e.getS x).cellsOk=true/\(e.getS x).cells.length=jd P T /\
   match e.getS a with
   | .ptr i off=>match e.h[i]? with
    |some (.cells xs)=>off+(e.getS x).cells.length<=xs.length/\K e iw ⟨none,.top,.store i off (e.getS x).cells⟩
    |_=>False
   |_=>False
  | .buildSlice T n parts =>
   match im P T with
   | .slice el sz=>match qpj e.h sz 0 (parts.toList.map λp=>(p.1,e.getS p.2))with
    |some rows=>G=true/\me e true (parts.toList.map (·.2))/\rows.length=n/\0<sz/\n * sz<=16777216/\im P el≠.other/\jd P el=sz/\K e iw ⟨o.dst,qb o.guard G (.slice rows),.quiet none⟩
    |none=>match qxw sz n (parts.toList.map λp=>(p.1,e.getS p.2))with
     |some cs=>G=true/\me e true (parts.toList.map (·.2))/\0<sz/\sz<=16777216/\im P el≠.other/\jd P el=sz/\K e iw ⟨o.dst,qb o.guard G (.lit cs),.quiet none⟩
     |none=>False
   |_=>False
  |op=>(G=true->me e true op.operands.toList/\(qg P e.getS e.h op).side)/\K e iw ⟨o.dst,qb o.guard G (qg P e.getS e.h op).val,.quiet (qxe e op)⟩
theorem xf9{P:Program}{N:Nat}{ds:List (Option Tmp)}{o:Oper}{e:Env}{iw:List DR}{K:Env->List DR->DR->Prop}(h:qv5 P N ds o e iw K):ux P N ds o e (K e iw):=by
 obtain⟨dst,op,ty,pos,after,guard⟩:=o;unfold qv5 at h;unfold ux;split at h
 .grind
 .rename_i G hG;simp only[hG];obtain⟨hd,h⟩:=h;refine⟨hd,?_⟩;cases op with
  |call cl =>
   obtain⟨callee,args,ats⟩:=cl;cases callee with
   |value f=>exact h
   |_=>exact h
  |_=>exact h
def qu9(P:Program)(N:Nat):List (Option Tmp)->List Oper->Env->List DR->(List DR->Env->Prop)->Prop
 |_,[],e,iw,K=>K iw e
 |ds,o::l,e,iw,K=>qv5 P N ds o e iw λe iw r=>qu9 P N (ds++[o.dst]) l (r.next e) (iw++[r]) K
theorem qyk{P:Program}{N:Nat}:∀{l:List Oper} {ds:List (Option Tmp)} {e:Env} {iw:List DR} {K:List DR->Env->Prop},qu9 P N ds l e iw K->qml P N ds l e iw K
 | [],_,_,_,_,h=>h
 |_::_,_,_,_,_,h=>xks (xf9 h) λ_ hr=>qyk hr
theorem xud{P:Program}{N:Nat}:∀{l:List Oper} {ds:List (Option Tmp)} {e:Env} {iw:List DR} {K:List DR->Env->Prop} {R:List DR},R.length=l.length ->
  (∀(k:Nat) (o:Oper),l[k]?=some o->ux P N (ds++(l.take k).map (·.dst)) o (jb e (R.take k)) (λr=>R[k]?=some r))->K (iw++R) (jb e R)->qml P N ds l e iw K
 | [],ds,e,iw,K,R,hl,hs,hK=>by grind[qml,jb,qjp]
 |o::l,ds,e,iw,K,[],hl,hs,hK=>by simp at hl
 |o::l,ds,e,iw,K,r::R,hl,hs,hK=>by
  simp only[qml];have h0:=hs 0 o rfl;simp only[qjj,fc,ej,jb,List.getElem?_cons_zero,eb]at h0;refine xks h0 λr' hr=>?_;subst hr;refine xud (R:=R) af (λk o' ho=>?_) (by grind[jb,dn]);have:=hs (k+1) o' af;simpa[jb,dn]using this
section
variable {P:Program} {E:Ent}
theorem xeb{id:Nat}(m:Nat){l:List Oper}{Q:AExit->Env->Prop}{e:Env}(hm:P.follows .mixedOrders=true)(hB:(decide (m<=l.length)&&qs4 (l.take m)&&qro m l)=true)
  (h:qu9 P E.N [] (l.take m) e [] λR e1=>qq6 (Region.before (l.take m).toArray) R/\qks P E.N Q ((l.take m).map (·.dst)) (l.drop m) ⟨e1.t,rr R e1.h⟩):AWp P E (.region id l.toArray true) Q e :=
 xuf m hm hB (xmp (qyk h) λ_ _ hk=>⟨hk.1,qcq (l.drop m) (l.take m) _ ac hk.2⟩)
theorem jt{id:Nat}(m:Nat){l:List Oper}{Q:AExit->Env->Prop}{e:Env}(hm:P.follows .mixedOrders=true)(hB:(decide (m<=l.length)&&qs4 (l.take m)&&qro m l)=true)(hq:((l.take m).all λo=>!qrp o.op)=true)
  (h:qu9 P E.N [] (l.take m) e [] λR e1=>qks P E.N Q ((l.take m).map (·.dst)) (l.drop m) ⟨e1.t,rr R e1.h⟩):AWp P E (.region id l.toArray true) Q e:=by
 refine xuf m hm hB ?_;obtain⟨R,jm,qmz,hQ⟩:=qvt (qyk h);have kf:∀r,r∈R->∀i off cs,r.k≠.store i off cs:=λr hr i off cs hk=>by
  obtain⟨j,hj⟩:=da hr;have il:j<(l.take m).length:=af;obtain⟨_,r',h1,h2,h3⟩:=qwl (qmz j (l.take m)[j] (cu il));rw[hj]at h2;cases h2;have:=h3 ⟨i,off,cs,hk⟩;have k:=dr.1 hq (l.take m)[j] (dk _);rw[this]at k;cases k
 refine xud (R:=R) jm qmz ⟨?_,qcq (l.drop m) (l.take m) _ ac aa⟩;unfold qq6;rw[dr];intro p hp;split
 .grind
 .rfl
theorem m6{fid:FuncId}{G:Bool}{pre:Prop}{args:List AV}{e:Env}{iw:List DR}{K:Bool->Env->List DR->AV->Prop}{t:Tag K}{r:AV}(hr:APure P fid args r)(hp:G=true->pre)(hK:K G e iw r):xf4 P fid G pre args e iw K t:=⟨r,λhG=>⟨hp hG,hr.at _⟩,hK⟩
theorem xjo{fid:FuncId}{G:Bool}{pre:Prop}{args:List AV}{e:Env}{iw:List DR}{K:Bool->Env->List DR->AV->Prop}{t:Tag K}{r:AV}(hr:G=true->qxr P fid args r e.h)(hp:G=true->pre)(hK:K G e iw r):xf4 P fid G pre args e iw K t:=⟨r,λhG=>⟨hp hG,hr hG⟩,hK⟩
end
attribute [go_sem] qu9 qv5 DR.next qxe rr
end Go.Abs
