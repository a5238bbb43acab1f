/- Part 10 of a proof. -/
import Derived.Test.YtbimdamecieomaaGreatDoorR09
set_option linter.all false
namespace Go.Abs
def wa(X:Nat→Bool)(t:Tmp):Nat→List DR→AV→AV
 |_,[],x=>x
 |k,r::l,x=>wa X t (k+1) l (bif X k&&decide (r.dst=some t)then r.res else x)
def m9(X:Nat→Bool):Nat→List DR→gz
 |_,[]=>[]
 |k,r::l=>match r.k with
  | .fresh xs=>(bif X k then AObj.cells xs else .none)::m9 X (k+1) l
  |_=>m9 X (k+1) l
def td(X:Nat→Bool):Nat→List DR→List DR
 |_,[]=>[]
 |k,r::l=>bif X k then r::td X (k+1) l else td X (k+1) l
theorem qet{X Y:Nat→Bool}{t:Tmp}:∀{l:List DR} {k:Nat} {x:AV},(∀j r,l[j]?=some r→r.dst=some t→X (k+j)=Y (k+j))→wa X t k l x=wa Y t k l x
 | [],_,_,_=>rfl
 |r::l,k,x,h=>by
  simp only[wa];have h0:(X k&&decide (r.dst=some t))=(Y k&&decide (r.dst=some t)):=by
   by_cases hd:r.dst=some t
   ·have:=h 0 r rfl hd;simp only[d6]at this;rw[this]
   ·simp[hd]
  rw[h0];exact qet fun j r' hr hd=>by
   have:=h (j+1) r' qf0 hd
   rwa [show k+(j+1)=k+1+j from by omega]at this
theorem xgm{X:Nat→Bool}{t:Tmp}:∀{l:List DR} {k:Nat} {x:AV},(∀j r,l[j]?=some r→X (k+j)=true→r.dst≠some t)→wa X t k l x=x
 | [],_,_,_=>rfl
 |r::l,k,x,h=>by
  have h0:(X k&&decide (r.dst=some t))=false:=by
   by_cases hX:X k=true
   ·simp[h 0 r rfl (by simpa using hX)]
   ·simp[hX]
  simp only[wa,h0,cond_false];exact xgm fun j r' hr hX=>h (j+1) r' qf0 qfv
theorem xbo{X:Nat→Bool}{t:Tmp}:∀{l:List DR} {k i:Nat} {r:DR} {x:AV},l[i]?=some r→(∀j r',l[j]?=some r'→r'.dst=r.dst→r.dst≠none→j=i) →
  wa (fun j=>if j=k+i then true else X j) t k l x=if r.dst=some t then r.res else wa X t k l x
 | [],_,_,_,_,h,_=>by simp at h
 |a::l,k,0,r,x,h,hu=>by
  simp at h;subst h;simp only[wa,d6,if_true,fh];have zo:∀y,wa (fun j=>if j=k then true else X j) t (k+1) l y=wa X t (k+1) l y:=fun y=>qet fun j r' _ _=>by
   rw[if_neg aa]
  rw[zo];by_cases hd:a.dst=some t
  ·rw[if_pos hd,decide_eq_true hd,cond_true];exact xgm fun j r' je _ ws=>by
    have:=hu (j+1) r' qge (by rw[ws,hd]) (by rw[hd];simp);omega
  ·rw[if_neg hd,decide_eq_false hd,cond_false,Bool.and_false,cond_false]
 |a::l,k,i+1,r,x,h,hu=>by
  have ii:(if k=k+(i+1)then true else X k)=X k:=if_neg aa;simp only[wa];rw[ii];have hf:(fun j=>if j=k+(i+1)then true else X j)=(fun j=>if j=k+1+i then true else X j):=by
   funext j;rw[show k+(i+1)=k+1+i from by omega]
  rw[hf];exact xbo (X:=X) (t:=t) (k:=k+1) (l:=l) (i:=i) (r:=r) bh fun j r' je hd hn=>by
   have:=hu (j+1) r' qge hd hn;omega
theorem xi2{X:Nat→Bool}{t:Tmp}:∀(R:List DR) (n k:Nat) (x:AV),wa X t k (R.take n) x=wa (fun j=>decide (j<k+n)&&X j) t k R x
 | [],n,k,x=>by simp[wa]
 |r::R,0,k,x=>by
  rw[ql3,xgm (l:=r::R)]
  ·rfl
  ·intro j r' _ hX;simp at hX;omega
 |r::R,n+1,k,x=>by
  simp only[qlc,wa];rw[xi2 R n (k+1)];have h1:(decide (k<k+(n+1))&&X k)=X k:=ae;rw[h1];exact qet fun j _ _ _=>by rw[show k+1+n=k+(n+1)from by omega]
theorem xec{e:Env}{t:Tmp}:∀(R:List DR),kj (ja e R).t t=wa (fun _=>true) t 0 R (kj e.t t):=by
 intro R;have gen:∀(R:List DR) (k:Nat) (e:Env),kj (ja e R).t t=wa (fun _=>true) t k R (kj e.t t):=by
  intro R
  induction R with
  |nil=>intro k e;rfl
  |cons r R ih =>
   intro k e;simp only[ja,wa,fh];rw[ih (k+1)];congr 1;have qs2:∀e':Env,kj (e'.put r.dst r.res).t t=bif decide (r.dst=some t)then r.res else kj e'.t t:=fun e'=>by
    cases hd:r.dst with
    |none=>simp[Env.put]
    |some d =>
     simp only[Env.put,kj,d7];by_cases h:d=t
     ·subst h;simp
     ·have:(d == t)=false:=bh;rw[this,decide_eq_false h]
   unfold DR.next
   split<;>exact qs2 _
 exact gen R 0 e
theorem qxj{e:Env}(R:List DR):(ja e R).h=e.h++m9 (fun _=>true) 0 R:=by
 have gen:∀(R:List DR) (k:Nat) (e:Env),(ja e R).h=e.h++m9 (fun _=>true) k R:=by
  intro R
  induction R with
  |nil=>intro k e;simp[ja,m9]
  |cons r R ih =>
   intro k e;simp only[ja];rw[ih (k+1)];have qs2:∀(e':Env) d v,(e'.put d v).h=e'.h:=fun e' d v=>by cases d<;>rfl
   unfold DR.next
   simp only[m9];cases r.k<;>simp[qs2]
 exact gen R 0 e
def qo0(R:List DR)(k:Nat):Nat:=(m9 (fun _=>true) 0 (R.take k)).length
theorem qzf{X:Nat→Bool}:∀(R:List DR) (k i:Nat) (r:DR) (xs:List AV),R[i]?=some r→r.k=.fresh xs →
  (m9 X k R)[(m9 (fun _=>true) k (R.take i)).length]?=some (bif X (k+i)then .cells xs else .none)
 | [],_,_,_,_,h,_=>by simp at h
 |a::R,k,0,r,xs,h,hk=>by
  simp at h;subst h;simp[m9,hk]
 |a::R,k,i+1,r,xs,h,hk=>by
  have:=qzf (X:=X) R (k+1) i r xs bh hk;rw[show k+1+i=k+(i+1)from by omega]at this;simp only[qlc,m9];cases a.k with
  |fresh ys=>simpa using this
  |_=>exact this
theorem qdt{X:Nat→Bool}:∀(R:List DR) (k j:Nat) (o:AObj),(m9 X k R)[j]?=some o→∃i r xs,R[i]?=some r∧r.k=.fresh xs∧(m9 (fun _=>true) k (R.take i)).length=j∧o=bif X (k+i)then .cells xs else .none
 | [],_,_,_,h=>by simp[m9]at h
 |a::R,k,j,o,h=>by
  simp only[m9]at h;cases hk:a.k with
  |fresh ys =>
   rw[hk]at h;cases j with
   |zero =>
    simp at h;exact⟨0,a,ys,rfl,hk,by simp[m9],by rw[←h];simp⟩
   |succ j =>
    obtain⟨i,r,xs,h1,h2,h3,h4⟩:=qdt R (k+1) j o bh;exact⟨i+1,r,xs,av,h2,by simp only[qlc,m9,hk,d5,h3],qhv⟩
  |quiet rd =>
   rw[hk]at h;obtain⟨i,r,xs,h1,h2,h3,h4⟩:=qdt R (k+1) j o h;exact⟨i+1,r,xs,av,h2,qkc,qhv⟩
  |store a1 a2 a3 =>
   rw[hk]at h;obtain⟨i,r,xs,h1,h2,h3,h4⟩:=qdt R (k+1) j o h;exact⟨i+1,r,xs,av,h2,qkc,qhv⟩
theorem xog{X:Nat→Bool}:∀(R:List DR) (k i:Nat) (r:DR) (xs:List AV),R[i]?=some r→r.k=.fresh xs →
  m9 (fun j=>if j=k+i then true else X j) k R=(m9 X k R).set (m9 (fun _=>true) k (R.take i)).length (.cells xs)
 | [],_,_,_,_,h,_=>by simp at h
 |a::R,k,0,r,xs,h,hk=>by
  simp at h;subst h;simp only[m9,hk,d6,if_true,ql3,ee,List.set_cons_zero,List.cons.injEq,cond_true,true_and];have:∀(R:List DR) (m:Nat),k<m→m9 (fun j=>if j=k then true else X j) m R=m9 X m R:=by
   intro R
   induction R with
   |nil=>intro m _;rfl
   |cons b R ih =>
    intro m hm;have ii:(if m=k then true else X m)=X m:=if_neg aa;simp only[m9];rw[ii,ih (m+1) aa]
  exact this R (k+1) aa
 |a::R,k,i+1,r,xs,h,hk=>by
  have:=xog (X:=X) R (k+1) i r xs bh hk;rw[show k+1+i=k+(i+1)from by omega]at this;have ii:(if k=k+(i+1)then true else X k)=X k:=if_neg aa;simp only[qlc,m9];cases a.k with
  |fresh ys =>
   simp only[d5,List.set_cons_succ];rw[this,ii]
  |_=>exact this
theorem xc4{X:Nat→Bool}:∀(R:List DR) (k i:Nat) (r:DR),R[i]?=some r→(∀xs,r.k≠.fresh xs)→m9 (fun j=>if j=k+i then true else X j) k R=m9 X k R
 | [],_,_,_,_,_=>rfl
 |a::R,k,0,r,h,hk=>by
  simp at h;subst h;have:∀(R:List DR) (m:Nat),k<m→m9 (fun j=>if j=k then true else X j) m R=m9 X m R:=by
   intro R
   induction R with
   |nil=>intro m _;rfl
   |cons b R ih =>
    intro m hm;have ii:(if m=k then true else X m)=X m:=if_neg aa;simp only[m9];rw[ii,ih (m+1) aa]
  simp only[m9,d6];cases hak:a.k with
  |fresh xs=>exact(hk xs hak).elim
  |_=>exact this R (k+1) aa
 |a::R,k,i+1,r,h,hk=>by
  have:=xc4 (X:=X) R (k+1) i r bh hk;rw[show k+1+i=k+(i+1)from by omega]at this;have ii:(if k=k+(i+1)then true else X k)=X k:=if_neg aa;simp only[m9];rw[this,ii]
def qxh(xs:List AV)(off:Nat)(cs:List AV):List AV:=xs.take off++cs++xs.drop (off+cs.length)
def vn(r:DR)(h:gz):gz :=
 match r.k with
 | .store i off cs=>match h[i]? with
  |some (.cells xs)=>h.set i (.cells (qxh xs off cs))
  |_=>h
 |_=>h
theorem za:∀(l:List DR) (h:gz),rp l h=l.foldl (fun h r=>vn r h) h
 | [],_=>rfl
 |r::l,h=>by
  simp only[rp,fu,vn];cases r.k with
  |store i off cs=>exact za l _
  |_=>exact za l _
theorem xu0(r:DR)(h:gz):(vn r h).length=h.length:=by
 unfold vn;split
 ·split<;>simp
 ·rfl
theorem jjs(l:List DR)(h:gz):(rp l h).length=h.length:=by
 rw[za]
 induction l generalizing h with
 |nil=>rfl
 |cons r l ih=>rw[fu,ih,xu0]
theorem jbg{r:DR}{h:gz}{i:Nat}(iz:∀off cs,r.k≠.store i off cs):(vn r h)[i]?=h[i]?:=by
 unfold vn;split
 ·rename_i i' off cs hk;split
  ·have:i'≠i:=fun e=>iz off cs (by rw[hk,e]);rw[dm this]
  ·rfl
 ·rfl
theorem jnm{l:List DR}{h:gz}{i:Nat}(iz:∀r,r∈l→∀off cs,r.k≠.store i off cs):(rp l h)[i]?=h[i]?:=by
 rw[za]
 induction l generalizing h with
 |nil=>rfl
 |cons r l ih =>
  rw[fu,ih (fun r' hr=>iz r' qg0),jbg (iz r ae)]
theorem qex(r:DR)(h:gz)(i:Nat):(∀o,(∀xs,o≠AObj.cells xs)→((vn r h)[i]?=some o↔h[i]?=some o)):=by
 intro o ho;unfold vn;split
 ·rename_i i' off cs hk;split
  ·rename_i xs hx;by_cases he:i'=i
   ·subst he;have ib:=(cq.1 hx).1;rw[ep ib,hx];constructor
    ·intro h1;exact(ho _ (by simpa using h1.symm)).elim
    ·intro h1;exact(ho _ (by simpa using h1.symm)).elim
   ·rw[dm he]
  ·exact Iff.rfl
 ·exact Iff.rfl
theorem xfy(l:List DR)(h:gz)(i:Nat):(∀o,(∀xs,o≠AObj.cells xs)→((rp l h)[i]?=some o↔h[i]?=some o)):=by
 intro o ho;rw[za]
 induction l generalizing h with
 |nil=>exact Iff.rfl
 |cons r l ih=>rw[fu,ih,qex r h i o ho]
theorem xse{r:DR}{h:gz}(qui:∀i off cs xs,r.k=.store i off cs→h[i]?=some (.cells xs)→off+cs.length≤xs.length){i:Nat}{xs:List AV}(hi:h[i]?=some (.cells xs)) :
  ∃ys,(vn r h)[i]?=some (.cells ys)∧ys.length=xs.length:=by
 unfold vn;split
 ·rename_i i' off cs hk;split
  ·rename_i zs hz;by_cases he:i'=i
   ·subst he;have ib:=(cq.1 hz).1;have hf:=qui i' off cs zs hk hz;rw[ep ib];rw[hi]at hz;cases hz;exact⟨_,rfl,by simp[qxh];omega⟩
   ·rw[dm he];exact⟨xs,hi,rfl⟩
  ·exact⟨xs,hi,rfl⟩
 ·exact⟨xs,hi,rfl⟩
theorem jek{l:List DR}:∀{h:gz},(∀r,r∈l→∀i off cs,r.k=.store i off cs→∀ys,h[i]?=some (.cells ys)→off+cs.length≤ys.length)→∀{i:Nat} {xs:List AV},h[i]?=some (.cells xs) →
  ∃ys,(rp l h)[i]?=some (.cells ys)∧ys.length=xs.length:=by
 induction l with
 |nil=>intro h _ i xs hi;exact⟨xs,hi,rfl⟩
 |cons r l ih =>
  intro h qui i xs hi;rw[za,fu,←za];obtain⟨ys,h1,h2⟩:=xse (r:=r) (h:=h) (fun i off cs xs hk hx=>qui r ae i off cs hk xs hx) hi;obtain⟨zs,h3,h4⟩:=ih (h:=vn r h) (fun r' hr i off cs hk ys hy=>by
   -- the object was cells before too
   cases hh:h[i]? with
   |none =>
    have:(vn r h)[i]?=none:=by rw[List.getElem?_eq_none_iff,xu0];exact List.getElem?_eq_none_iff.1 hh
    rw[this]at hy;cases hy
   |some o =>
    cases o with
    |cells zs =>
     obtain⟨us,g1,g2⟩:=xse (r:=r) (h:=h) (fun i off cs xs hk hx=>qui r ae i off cs hk xs hx) hh;rw[hy]at g1;cases g1;rw[g2];exact qui r' qg0 i off cs hk zs hh
    |none=>have:=(qex r h i .none ae).2 hh;rw[this]at hy;cases hy
    |map es=>have:=(qex r h i (.map es) ae).2 hh;rw[this]at hy;cases hy
    |iter a b=>have:=(qex r h i (.iter a b) ae).2 hh;rw[this]at hy;cases hy
    |raw a b d=>have:=(qex r h i (.raw a b d) ae).2 hh;rw[this]at hy;cases hy
    |uarr a b d=>have:=(qex r h i (.uarr a b d) ae).2 hh;rw[this]at hy;cases hy
    |oarr a b d=>have:=(qex r h i (.oarr a b d) ae).2 hh;rw[this]at hy;cases hy
    |arr a b d=>have:=(qex r h i (.arr a b d) ae).2 hh;rw[this]at hy;cases hy) h1
  exact⟨zs,h3,by rw[h4,h2]⟩
theorem qvq{X:Nat→Bool}:∀{R:List DR} {k:Nat} {r:DR},r∈td X k R→∃j,R[j]?=some r∧X (k+j)=true
 | [],_,_,h=>by simp[td]at h
 |a::R,k,r,h=>by
  simp only[td]at h;cases hX:X k with
  |true =>
   rw[hX,cond_true]at h;cases h with
   |head=>exact⟨0,rfl,by simpa using hX⟩
   |tail _ h =>
    obtain⟨j,h1,h2⟩:=qvq h;exact⟨j+1,av,qfv⟩
  |false =>
   rw[hX,cond_false]at h;obtain⟨j,h1,h2⟩:=qvq h;exact⟨j+1,av,qfv⟩
theorem xlq{X:Nat→Bool}:∀{R:List DR} {k i:Nat} {r:DR},R[i]?=some r→X (k+i)=false→((∀a b cs,r.k≠.store a b cs)∨∀j r',R[j]?=some r'→i<j→X (k+j)=true→∀a b cs,r'.k≠.store a b cs)→∀h,
  rp (td (fun j=>if j=k+i then true else X j) k R) h=vn r (rp (td X k R) h):=by
 have quiet:∀{l:List DR} {h:gz},(∀r,r∈l→∀a b cs,r.k≠.store a b cs)→rp l h=h:=by
  intro l
  induction l with
  |nil=>intro h _;rfl
  |cons r l ih =>
   intro h hq;rw[za,fu,←za,ih (fun r' hr=>hq r' qg0)];unfold vn;split
   ·rename_i a b cs hk;exact(hq r ae a b cs hk).elim
   ·rfl
 have same:∀(k:Nat) (R:List DR) (m:Nat),k<m→td (fun j=>if j=k then true else X j) m R=td X m R:=by
  intro k R
  induction R with
  |nil=>intro m _;rfl
  |cons b R ih =>
   intro m hm;have ii:(if m=k then true else X m)=X m:=if_neg aa;simp only[td];rw[ii,ih (m+1) aa]
 have idle:∀{r:DR} {h:gz},(∀a b cs,r.k≠.store a b cs)→vn r h=h:=by
  intro r h hq;unfold vn;split
  ·rename_i a b cs hk;exact(hq a b cs hk).elim
  ·rfl
 intro R
 induction R with
 |nil=>intro k i r h;simp at h
 |cons a R ih =>
  intro k i r hr hX yj h;cases i with
  |zero =>
   simp at hr;subst hr;simp only[d6]at hX⊢;simp only[td,if_true,hX,cond_true,cond_false];rw[same k R (k+1) aa,za,fu,←za];rcases yj with hq|hq
   ·rw[idle hq,idle hq]
   ·have ix:∀r',r'∈td X (k+1) R→∀a b cs,r'.k≠.store a b cs:=fun r' je=>by
     obtain⟨j,h1,h2⟩:=qvq je;exact hq (j+1) r' av aa qfv
    rw[quiet ix,quiet ix]
  |succ i =>
   have hlast':(∀a b cs,r.k≠.store a b cs)∨∀j r',R[j]?=some r'→i<j→X (k+1+j)=true→∀a b cs,r'.k≠.store a b cs:=by
    rcases yj with hq|hq
    ·exact .inl hq
    ·exact .inr fun j r' je hj hX'=>hq (j+1) r' qge aa qfv
   have:=fun h=>ih (k:=k+1) (i:=i) (r:=r) qf0 (by rwa [show k+1+i=k+(i+1)from by omega]) hlast' h;have hf:(fun j=>if j=k+1+i then true else X j)=(fun j=>if j=k+(i+1)then true else X j):=by
    funext j;rw[show k+(i+1)=k+1+i from by omega]
   rw[hf]at this;have ii:(if k=k+(i+1)then true else X k)=X k:=if_neg aa;simp only[td];rw[ii];cases X k with
   |true =>
    simp only[cond_true];rw[za,fu,←za,this,za (a::_),fu,←za]
   |false=>exact this h
def tmpsOf(l:List Operand):List Tmp:=l.filterMap fun| .tmp t=>some t|_=>none
def qz8(l:List Oper)(o:Oper):List Tmp :=
 match o.guard with
 |some (j,_)=>((l[j]?).bind (·.dst)).toList
 |none=>[]
def sf(b:Array Nat)(i j:Nat):Bool:=(b.getD j 0).testBit i
def quy(l:List Oper):Bool :=
 let b:=Region.before l.toArray
 let z:=l.zipIdx
 (z.all fun p=>p.1.after.all fun e=>!Region.binds .any e||e.on<p.2) &&
 (z.all fun p=>(tmpsOf p.1.op.operands.toList++qz8 l p.1).all fun t=>z.all fun q=>q.1.dst != some t||q.2 == p.2||sf b (min p.2 q.2) (max p.2 q.2)) &&
 (z.all fun p=>z.all fun q=>q.2 == p.2||p.1.dst == none||p.1.dst != q.1.dst) &&
 (z.all fun p=>z.all fun q=>!(p.2<q.2)||!(qtm p.1.op&&qtm q.1.op)||sf b p.2 q.2) &&
 (z.all fun p=>match p.1.guard with|some (j,_)=>j<p.2|none=>true)
structure DrawOk(l:List Oper):Prop where
 after:∀(j:Nat) (o:Oper),l[j]?=some o→∀e,e∈o.after→Region.binds .any e=true→e.on<j
 temps:∀(j:Nat) (o:Oper) (t:Tmp) (i:Nat) (o':Oper),l[j]?=some o→t∈tmpsOf o.op.operands.toList++qz8 l o→l[i]?=some o'→o'.dst=some t→i=j∨sf (Region.before l.toArray) (min j i) (max j i)=true
 uniq:∀(j:Nat) (o:Oper) (i:Nat) (o':Oper),l[j]?=some o→l[i]?=some o'→o.dst≠none→o.dst=o'.dst→i=j
 stores:∀(j:Nat) (o:Oper) (i:Nat) (o':Oper),l[j]?=some o→l[i]?=some o'→j<i→qtm o.op=true→qtm o'.op=true→sf (Region.before l.toArray) j i=true
 guard:∀(j:Nat) (o:Oper) (k:Nat) (want:Bool),l[j]?=some o→o.guard=some (k,want)→k<j
theorem qdr{l:List Oper}{j:Nat}{o:Oper}(h:l[j]?=some o):(o,j)∈l.zipIdx:=by
 rw[List.mem_zipIdx_iff_getElem?];simpa using h
theorem xbi{l:List Oper}(h:quy l=true):DrawOk l:=by
 simp only[quy,c0,dw]at h;obtain⟨⟨⟨⟨h1,h2⟩,h3⟩,h4⟩,h5⟩:=h;refine⟨fun j o hj e he hb=>?_,fun j o t i o' hj ht hi hd=>?_,fun j o i o' hj hi hn hd=>?_,fun j o i o' hj hi ib hs jd=>?_,fun j o k want hj hg=>?_⟩
 ·have:=h1 (o,j) (qdr hj);simp only[qmb]at this;have:=this e he;simpa[hb]using this
 ·have:=h2 (o,j) (qdr hj) t ht (o',i) (qdr hi);simp only[hd,bne_self_eq_false,qlw,fv,beq_iff_eq]at this;exact this
 ·have:=h3 (o,j) (qdr hj) (o',i) (qdr hi);simp only[fv,beq_iff_eq,bne_iff_ne,ne_eq]at this;rcases this with(h|h)|h
  ·exact h
  ·exact(hn h).elim
  ·exact(h hd).elim
 ·have:=h4 (o,j) (qdr hj) (o',i) (qdr hi);simpa[ib,hs,jd]using this
 ·have:=h5 (o,j) (qdr hj);simp only[hg]at this;simpa using this
theorem xnz(l:List Oper):∀j i,sf (Region.before l.toArray) i j=true→∃o,l[j]?=some o∧∃e,e∈o.after∧Region.binds .any e=true∧(e.on=i∨(e.on<j∧sf (Region.before l.toArray) i e.on=true)):=by
 have inner:∀(es:List Edge) (iu:Array Nat) (s i:Nat),(es.foldl (fun s e=>if Region.binds .any e then s ||| 2 ^ e.on ||| iu.getD e.on 0 else s) s).testBit i=true→s.testBit i=true∨∃e,e∈es∧Region.binds .any e=true∧(e.on=i∨(iu.getD e.on 0).testBit i=true):=by
  intro es
  induction es with
  |nil=>intro iu s i h;exact .inl h
  |cons e es ih =>
   intro iu s i h;rw[fu]at h;rcases ih iu _ i h with h1|⟨e',he',h2⟩
   ·by_cases hb:Region.binds .any e=true
    ·rw[if_pos hb,Nat.testBit_or,Nat.testBit_or,fv,fv,Nat.testBit_two_pow]at h1;rcases h1 with(h1|h1)|h1
     ·exact .inl h1
     ·exact .inr ⟨e,ae,hb,.inl av⟩
     ·exact .inr ⟨e,ae,hb,.inr h1⟩
    ·rw[if_neg hb]at h1;exact .inl h1
   ·exact .inr ⟨e',by simp[he'],h2⟩
 have outer:∀(rest done:List Oper) (iu:Array Nat),iu.size=done.length→(∀j i,(iu.getD j 0).testBit i=true→∃o,done[j]?=some o∧∃e,e∈o.after∧Region.binds .any e=true∧(e.on=i∨(e.on<j∧(iu.getD e.on 0).testBit i=true))) →
   ∀j i,((rest.foldl (fun iu o=>iu.push (o.after.foldl (fun s e=>if Region.binds .any e then s ||| 2 ^ e.on ||| iu.getD e.on 0 else s) 0)) iu).getD j 0).testBit i=true →
    ∃o,(done++rest)[j]?=some o∧∃e,e∈o.after∧Region.binds .any e=true∧(e.on=i∨(e.on<j∧((rest.foldl (fun iu o=>iu.push (o.after.foldl (fun s e=>if Region.binds .any e then s ||| 2 ^ e.on ||| iu.getD e.on 0 else s) 0)) iu).getD e.on 0).testBit i=true)):=by
  intro rest
  induction rest with
  |nil=>intro done iu _ h;simpa using h
  |cons o rest ih =>
   intro done iu jq h;rw[fu];have:=ih (done++[o]) (iu.push (o.after.foldl (fun s e=>if Region.binds .any e then s ||| 2 ^ e.on ||| iu.getD e.on 0 else s) 0)) (by simp[jq]) (fun j i mo=>by
    have qg:∀m,m<iu.size→(iu.push (o.after.foldl (fun s e=>if Region.binds .any e then s ||| 2 ^ e.on ||| iu.getD e.on 0 else s) 0)).getD m 0=iu.getD m 0:=fun m hm=>by
     simp only[ed,Array.getElem?_push];rw[if_neg aa]
    have hbig:∀m i,(iu.getD m 0).testBit i=true→m<iu.size:=fun m i hm=>by
     rcases d8 m iu.size with h'|h'
     ·exact h'
     ·rw[ed,Array.getElem?_eq_none h']at hm;simp at hm
    by_cases hj:j<iu.size
    ·rw[qg j hj]at mo;obtain⟨o',h1,e,h2,h3,h4⟩:=h j i mo;refine⟨o',by rw[cu aa];exact h1,e,h2,h3,?_⟩;rcases h4 with h4|⟨h4,h5⟩
     ·exact .inl h4
     ·exact .inr ⟨h4,by rw[qg _ aa];exact h5⟩
    ·have oq:j=iu.size:=by
      rcases d8 iu.size j with h'|h'
      ·rw[ed,Array.getElem?_eq_none am]at mo;simp at mo
      ·omega
     subst oq;rw[ed,Array.getElem?_push,if_pos rfl]at mo;simp only[f9]at mo;rw[←ql9]at mo;rcases inner _ iu 0 i mo with h1|⟨e,h1,h2,h3⟩
     ·simp at h1
     ·refine⟨o,by rw[jq];simp,e,av,h2,?_⟩;rcases h3 with h3|h3
      ·exact .inl h3
      ·exact .inr ⟨hbig _ _ h3,by rw[qg _ (hbig _ _ h3)];exact h3⟩)
   simpa using this
 intro j i h;have:=outer l [] #[] rfl (fun j i h=>by simp at h) j i (by
  unfold sf Region.before at h;rw[←ql9]at h;exact h)
 unfold sf Region.before;rw[←ql9];simpa using this
def qqg(l:List Oper)(X:Nat→Bool):Prop:=∀j o,X j=true→l[j]?=some o→∀e,e∈o.after→Region.binds .any e=true→X e.on=true
theorem qrc{l:List Oper}{X:Nat→Bool}(hX:qqg l X):∀j i o,l[j]?=some o→(∀e,e∈o.after→Region.binds .any e=true→X e.on=true)→sf (Region.before l.toArray) i j=true→X i=true:=by
 intro j
 induction j using Nat.strongRecOn with
 |_ j ih =>
  intro i o hj ix h;obtain⟨o',h1,e,h2,h3,h4⟩:=xnz l j i h;rw[hj]at h1;cases h1;have hXe:=ix e h2 h3;rcases h4 with rfl|⟨h4,h5⟩
  ·exact hXe
  ·obtain⟨o2,g1,_⟩:=xnz l e.on i h5;exact ih e.on h4 i o2 g1 (hX e.on o2 hXe g1) h5
def AObj.isArr:AObj→Bool
 | .arr .. | .uarr .. | .oarr ..=>true
 |_=>false
def qum(h h':gz):Prop:=∀(i:Nat) (o:AObj),o.isArr=true→(h[i]?=some o↔h'[i]?=some o)
mutual
theorem xce{h h':gz}(hh:qum h h'):∀x:AV,x.norm h=x.norm h'
 | .nils| .top| .val _| .slice _| .ptr _ _| .eptr _| .lit _| .mapr _| .fn _ _ _| .opt _ _| .optr ..=>rfl
 | .agg xs| .tuple xs=>by simp only[AV.norm,xfo hh xs]
 | .iface t v=>by simp only[AV.norm,xce hh v]
 | .own i n=>by
  simp only[AV.norm];split
  ·rename_i e sz rows hi;rw[(hh i _ rfl).1 hi]
  ·rename_i iz;split
   ·rename_i e sz rows hi;exact(iz e sz rows ((hh i _ rfl).2 hi)).elim
   ·rfl
theorem xfo{h h':gz}(hh:qum h h'):∀xs:List AV,kc h xs=kc h' xs
 | []=>rfl
 |x::xs=>by simp only[kc,xce hh x,xfo hh xs]
end
theorem xt4{h h':gz}(hh:qum h h')(sz:Nat):∀(k:Nat) (l:List (Nat×AV)),qrd h sz k l=qrd h' sz k l
 |_,[]=>rfl
 |k,(i,x)::l=>by simp only[qrd,xfo hh,xt4 hh sz (k+1) l]
theorem jf1{P:Program}{T:TypeId}{x i:AV}{ok:Bool}{h h':gz}(hm:∀(i:Nat) (es:List (AV×AV)),h[i]?=some (.map es)↔h'[i]?=some (.map es)):qwa P T x i ok h=qwa P T x i ok h':=by
 unfold qwa;split
 ·rename_i k e o s _;cases ho:h[o]? with
  |none =>
   cases ky:h'[o]? with
   |none=>rfl
   |some u=>cases u with
    |map es=>have:=(hm o es).2 ky;rw[ho]at this;cases this
    |_=>rfl
  |some u =>
   cases u with
   |map es=>rw[(hm o es).1 ho]
   |_ =>
    cases ky:h'[o]? with
    |none=>rfl
    |some u'=>cases u' with
     |map es=>have:=(hm o es).2 ky;rw[ho]at this;cases this
     |_=>rfl
 ·rfl
theorem xhs{α:Type}{h h':gz}(hh:qum h h')(i:Nat)(k:Option AObj→α)(k0:α)(hk:∀o,(∀e sz rows,o≠some (AObj.uarr e sz rows))→(∀e sz rows,o≠some (AObj.oarr e sz rows))→k o=k0):k h[i]?=k h'[i]?:=by
 by_cases hu:∃e sz rows,h[i]?=some (AObj.uarr e sz rows)
 ·obtain⟨e,sz,rows,hi⟩:=hu;rw[hi,(hh i _ rfl).1 hi]
 ·by_cases vl:∃e sz rows,h'[i]?=some (AObj.uarr e sz rows)
  ·obtain⟨e,sz,rows,hi⟩:=vl;exact(hu ⟨e,sz,rows,(hh i _ rfl).2 hi⟩).elim
  ·by_cases hp:∃e sz rows,h[i]?=some (AObj.oarr e sz rows)
   ·obtain⟨e,sz,rows,hi⟩:=hp;rw[hi,(hh i _ rfl).1 hi]
   ·by_cases hp':∃e sz rows,h'[i]?=some (AObj.oarr e sz rows)
    ·obtain⟨e,sz,rows,hi⟩:=hp';exact(hp ⟨e,sz,rows,(hh i _ rfl).2 hi⟩).elim
    ·rw[hk _ (fun e sz rows h=>hu ⟨e,sz,rows,h⟩) (fun e sz rows h=>hp ⟨e,sz,rows,h⟩),hk _ (fun e sz rows h=>vl ⟨e,sz,rows,h⟩) (fun e sz rows h=>hp' ⟨e,sz,rows,h⟩)]
theorem xxm{P:Program}{T:TypeId}{x i:AV}{h h':gz}(hh:qum h h'):qe4 P T x i h=qe4 P T x i h':=by
 unfold qe4;split<;>try rfl
 rename_i e sz o m k n hk;exact xhs hh o (fun ob=>match ob with
  |some (.uarr _ kl rows)=>(⟨rows.length=m∧kl=sz∧0≤n∧n.toNat<rows.length∧0<sz,.optr o m sz n.toNat 0⟩:SV)
  |some (.oarr _ kl rows)=>(⟨rows.length=m∧kl=sz∧0≤n∧n.toNat<rows.length∧0<sz,.optr o m sz n.toNat 0⟩:SV)
  |_=>.no) .no fun ob hob hob2=>by
   split
   ·rename_i e sz rows;exact(hob _ _ _ rfl).elim
   ·rename_i e sz rows;exact(hob2 _ _ _ rfl).elim
   ·rfl
theorem jmc{P:Program}{T:TypeId}{x:AV}{h h':gz}(hh:qum h h'):qwk P T x h=qwk P T x h':=by
 unfold qwk;split<;>try rfl
 rename_i e sz o m hk;exact xhs hh o (fun ob=>match ob with
  |some (.uarr _ _ rows)=>(⟨rows.length=m,.val (.int .i64 rows.length)⟩:SV)
  |some (.oarr _ _ rows)=>(⟨rows.length=m,.val (.int .i64 rows.length)⟩:SV)
  |_=>.no) .no fun ob hob hob2=>by
   split
   ·rename_i e sz rows;exact(hob _ _ _ rfl).elim
   ·rename_i e sz rows;exact(hob2 _ _ _ rfl).elim
   ·rfl
theorem jed{P:Program}{e:Env}{h h':gz}{op:Op}(ha:qum h h')(hr:∀i,qyn e op=some i→h[i]?=h'[i]?)(hm:∀(i:Nat) (es:List (AV×AV)),h[i]?=some (.map es)↔h'[i]?=some (.map es)):qb P e.getS h op=qb P e.getS h' op:=by
 cases op with
 |load t a =>
  simp only[qb,qvy];simp only[qyn]at hr;cases ha:e.getS a with
  |ptr i off =>
   simp only[ha]at hr;simp only[hr i rfl]
  |optr i n sz r q =>
   exact xhs ‹qum h h'› i (fun ob=>match ob with
    |some (.uarr _ kl rows)=>(⟨rows.length=n∧kl=sz∧r<rows.length∧(qnq (iy P t) (ij P t).agg ((rows.getD r []).drop q)).side∧ij P t≠TK.other,(qnq (iy P t) (ij P t).agg ((rows.getD r []).drop q)).val⟩:SV)
    |some (.oarr _ kl rows)=>(⟨rows.length=n∧kl=sz∧r<rows.length∧(qnq (iy P t) (ij P t).agg ((rows.getD r []).drop q)).side∧ij P t≠TK.other,(qnq (iy P t) (ij P t).agg ((rows.getD r []).drop q)).val⟩:SV)
    |_=>.no) .no fun ob hob hob2=>by
     split
     ·rename_i e sz rows;exact(hob _ _ _ rfl).elim
     ·rename_i e sz rows;exact(hob2 _ _ _ rfl).elim
     ·rfl
  |_=>rfl
 |lookup T x i ok =>
  simp only[qb];exact jf1 hm
 |indexAddr T x i=>simp only[qb,xce ha,xxm ha]
 |slice T x lo hi mx=>simp only[qb,xce ha]
 |call c =>
  obtain⟨callee,args,ts⟩:=c;cases callee with
  |builtin b=>cases b with
   |len=>simp only[qb,xce ha,jmc ha]
   |_=>rfl
  |_=>rfl
 |unOp op t x=>cases op<;>rfl
 |_=>rfl
end Go.Abs
