/- Part 10 of a proof: AbsT, AbsU, AbsV -/
import Derived.Test.YtilhejdbiionhaaGreatDoorR09
set_option linter.all false

namespace Go.Abs
inductive DK where
 |quiet (rd:Option Nat)
 |fresh (xs:List AV)
 |store (i off:Nat) (cs:List AV)
structure DR where
 dst:Option Tmp
 res:AV
 k:DK
instance:Inhabited DR:=⟨⟨none,.top,.quiet none⟩⟩
def DR.next(r:DR)(e:Env):Env :=
 match r.k with
 | .fresh xs=>({ e with h:=e.h++[.cells xs] }:Env).put r.dst r.res
 |_=>e.put r.dst r.res
def rdOf(e:Env):Op→Option Nat
 | .load _ a=>match e.getS a with
  | .ptr i _=>some i
  |_=>none
 |_=>none
def AObj.kept:AObj→Bool
 | .raw .. | .uarr .. | .oarr .. | .map ..=>true
 |_=>false
def SameRaw(h h':qab):Prop:=∀(i:Nat) (o:AObj),o.kept=true→h[i]?=some o→h'[i]?=some o
def APureAt(P:Program)(f:FuncId)(args:List AV)(r:AV)(h:qab):Prop:=∀h',SameRaw h h'→ACalls P f args h' fun e h''=>e=.ret r∧h''=h'
theorem APure.at{P:Program}{f:FuncId}{args:List AV}{r:AV}(k:APure P f args r)(h:qab):APureAt P f args r h:=fun h' _=>k h'
def isStore:Op→Bool
 | .store ..=>true
 |_=>false
def stepD(P:Program)(N:Nat)(ds:List (Option Tmp))(o:Oper)(e:Env)(K:DR→Prop):Prop :=
 match gB ds e o.guard with
 |none=>False
 |some G =>
  qee N o.dst ∧
  match o.op with
  | .pick x y z=>pickOk G (e.get x) (e.get y) (e.get z)∧K ⟨o.dst,optV o.guard G (pickV (e.get x) (e.get y) (e.get z)),.quiet none⟩
  | .box _ x=>o.guard=none∧qaw e true [x]∧(e.getS x).cellsOk=true∧K ⟨o.dst,.ptr e.h.length 0,.fresh (e.getS x).cells⟩
  | .alloc T=>o.guard=none∧qah P T≠.other∧K ⟨o.dst,.ptr e.h.length 0,.fresh (qba P T)⟩
  | .store T a x=>o.guard=none∧o.dst=none∧qaw e true [a,x]∧qah P T≠.other∧(e.getS x).cellsOk=true∧(e.getS x).cells.length=qat P T ∧
   match e.getS a with
   | .ptr i off=>match e.h[i]? with
    |some (.cells xs)=>off+(e.getS x).cells.length≤xs.length∧K ⟨none,.top,.store i off (e.getS x).cells⟩
    |_=>False
   |_=>False
  | .buildSlice T n parts =>
   match qah P T with
   | .slice el sz=>match litRows e.h sz 0 (parts.toList.map fun p=>(p.1,e.getS p.2))with
    |some rows=>G=true∧qaw e true (parts.toList.map (·.2))∧rows.length=n∧0<sz∧n * sz≤16777216∧qah P el≠.other∧qat P el=sz∧K ⟨o.dst,optV o.guard G (.slice rows),.quiet none⟩
    |none=>match litOne sz n (parts.toList.map fun p=>(p.1,e.getS p.2))with
     |some cs=>G=true∧qaw e true (parts.toList.map (·.2))∧0<sz∧sz≤16777216∧qah P el≠.other∧qat P el=sz∧K ⟨o.dst,optV o.guard G (.lit cs),.quiet none⟩
     |none=>False
   |_=>False
  | .call { callee:=.value f,args,.. }=>match e.getS f with
   | .fn (.func fid) first caps=>∃r,(G=true→qaw e true (f::args.toList)∧APureAt P fid (qbi e.h (first++args.toList.map e.getS++caps)) r e.h)∧K ⟨o.dst,optV o.guard G r,.quiet none⟩
   |_=>False
  |op=>(G=true→qaw e true op.operands.toList∧(qbp P e.getS e.h op).side)∧K ⟨o.dst,optV o.guard G (qbp P e.getS e.h op).val,.quiet (rdOf e op)⟩
def opsD(P:Program)(N:Nat):List (Option Tmp)→List Oper→Env→List DR→(List DR→Env→Prop)→Prop
 |_,[],e,acc,K=>K acc e
 |ds,o::l,e,acc,K=>stepD P N ds o e fun r=>opsD P N (ds++[o.dst]) l (r.next e) (acc++[r]) K
theorem stepD_wit{P:Program}{N:Nat}{ds:List (Option Tmp)}{o:Oper}{e:Env}{K:DR→Prop}(h:stepD P N ds o e K):∃r,stepD P N ds o e (· = r)∧K r:=by
 unfold stepD at h⊢;split at h
 ·exact h.elim
 ·rename_i G hG;simp only[hG];obtain⟨hd,h⟩:=h;split at h
  ·exact⟨_,⟨hd,h.1,rfl⟩,h.2⟩
  ·exact⟨_,⟨hd,h.1,h.2.1,h.2.2.1,rfl⟩,h.2.2.2⟩
  ·exact⟨_,⟨hd,h.1,h.2.1,rfl⟩,h.2.2⟩
  ·rename_i T a x hop;obtain⟨h1,h2,h3,h4,h5,h6,h7⟩:=h;split at h7
   ·rename_i i off ha;split at h7
    ·rename_i xs hi;exact⟨⟨none,.top,.store i off (e.getS x).cells⟩,⟨hd,h1,h2,h3,h4,h5,h6,by simp only[ha,hi];exact⟨h7.1,trivial⟩⟩,h7.2⟩
    ·exact h7.elim
   ·exact h7.elim
  ·rename_i T n parts hop;split at h
   ·rename_i el sz hk;split at h
    ·rename_i rows hr;obtain⟨h1,h2,h3,h4,h5,h6,h7,h8⟩:=h;exact⟨⟨o.dst,optV o.guard G (.slice rows),.quiet none⟩,⟨hd,by simp only[hk,hr];exact⟨h1,h2,h3,h4,h5,h6,h7,trivial⟩⟩,h8⟩
    ·rename_i hr;split at h
     ·rename_i cs hcs;obtain⟨h1,h2,h4,h5,h6,h7,h8⟩:=h;exact⟨⟨o.dst,optV o.guard G (.lit cs),.quiet none⟩,⟨hd,by simp only[hk,hr,hcs];exact⟨h1,h2,h4,h5,h6,h7,trivial⟩⟩,h8⟩
     ·exact h.elim
   ·exact h.elim
  ·rename_i f args ts hop;split at h
   ·rename_i fid first caps hf
    obtain⟨r,h1,h2⟩:=h;exact⟨⟨o.dst,optV o.guard G r,.quiet none⟩,⟨hd,⟨r,h1,rfl⟩⟩,h2⟩
   ·exact h.elim
  ·exact⟨_,⟨hd,h.1,rfl⟩,h.2⟩
def qal(e:Env):List DR→Env
 | []=>e
 |r::l=>qal (r.next e) l
theorem opsD_wit{P:Program}{N:Nat}:∀{l:List Oper} {ds:List (Option Tmp)} {e:Env} {acc:List DR} {K:List DR→Env→Prop},opsD P N ds l e acc K →
  ∃R:List DR,R.length=l.length∧(∀(k:Nat) (o:Oper),l[k]?=some o→stepD P N (ds++(l.take k).map (·.dst)) o (qal e (R.take k)) (fun r=>R[k]?=some r))∧K (acc++R) (qal e R)
 | [],ds,e,acc,K,h=>⟨[],rfl,by simp,by simpa[qal,opsD]using h⟩
 |o::l,ds,e,acc,K,h=>by
  obtain⟨r,h1,h2⟩:=stepD_wit (K:=fun r=>opsD P N (ds++[o.dst]) l (r.next e) (acc++[r]) K) h;obtain⟨R,hl,hk,hK⟩:=opsD_wit h2;refine⟨r::R,by simp[hl],fun k o' ho=>?_,by simpa[qal]using hK⟩;cases k with
  |zero =>
   simp at ho;subst ho;simpa[qal,eq_comm]using h1
  |succ k =>
   have:=hk k o' (by simpa using ho);simpa[qal,List.append_assoc]using this
def qce:List DR→qab→qab
 | [],h=>h
 |r::l,h=>match r.k with
  | .store i off cs=>qce l (match h[i]? with
   |some (.cells xs)=>h.set i (.cells (xs.take off++cs++xs.drop (off+cs.length)))
   |_=>h)
  |_=>qce l h
end Go.Abs

namespace Go.Abs
def slotX(X:Nat→Bool)(t:Tmp):Nat→List DR→AV→AV
 |_,[],x=>x
 |k,r::l,x=>slotX X t (k+1) l (bif X k&&decide (r.dst=some t)then r.res else x)
def qa9(X:Nat→Bool):Nat→List DR→qab
 |_,[]=>[]
 |k,r::l=>match r.k with
  | .fresh xs=>(bif X k then AObj.cells xs else .none)::qa9 X (k+1) l
  |_=>qa9 X (k+1) l
def selX(X:Nat→Bool):Nat→List DR→List DR
 |_,[]=>[]
 |k,r::l=>bif X k then r::selX X (k+1) l else selX X (k+1) l
theorem qdf{X Y:Nat→Bool}{t:Tmp}:∀{l:List DR} {k:Nat} {x:AV},(∀j r,l[j]?=some r→r.dst=some t→X (k+j)=Y (k+j))→slotX X t k l x=slotX Y t k l x
 | [],_,_,_=>rfl
 |r::l,k,x,h=>by
  simp only[slotX];have h0:(X k&&decide (r.dst=some t))=(Y k&&decide (r.dst=some t)):=by
   by_cases hd:r.dst=some t
   ·have:=h 0 r rfl hd;simp only[Nat.add_zero]at this;rw[this]
   ·simp[hd]
  rw[h0];exact qdf fun j r' hr hd=>by
   have:=h (j+1) r' (by simpa using hr) hd
   rwa [show k+(j+1)=k+1+j from by omega]at this
theorem slotX_none{X:Nat→Bool}{t:Tmp}:∀{l:List DR} {k:Nat} {x:AV},(∀j r,l[j]?=some r→X (k+j)=true→r.dst≠some t)→slotX X t k l x=x
 | [],_,_,_=>rfl
 |r::l,k,x,h=>by
  have h0:(X k&&decide (r.dst=some t))=false:=by
   by_cases hX:X k=true
   ·simp[h 0 r rfl (by simpa using hX)]
   ·simp[hX]
  simp only[slotX,h0,cond_false];exact slotX_none fun j r' hr hX=>h (j+1) r' (by simpa using hr) (by rwa [show k+(j+1)=k+1+j from by omega])
theorem slotX_add{X:Nat→Bool}{t:Tmp}:∀{l:List DR} {k i:Nat} {r:DR} {x:AV},l[i]?=some r→(∀j r',l[j]?=some r'→r'.dst=r.dst→r.dst≠none→j=i) →
  slotX (fun j=>if j=k+i then true else X j) t k l x=if r.dst=some t then r.res else slotX X t k l x
 | [],_,_,_,_,h,_=>by simp at h
 |a::l,k,0,r,x,h,hu=>by
  simp at h;subst h;simp only[slotX,Nat.add_zero,if_true,Bool.true_and];have hrest:∀y,slotX (fun j=>if j=k then true else X j) t (k+1) l y=slotX X t (k+1) l y:=fun y=>qdf fun j r' _ _=>by
   rw[if_neg (by omega)]
  rw[hrest];by_cases hd:a.dst=some t
  ·rw[if_pos hd,decide_eq_true hd,cond_true];exact slotX_none fun j r' hr' _ hd'=>by
    have:=hu (j+1) r' (by simpa using hr') (by rw[hd',hd]) (by rw[hd];simp);omega
  ·rw[if_neg hd,decide_eq_false hd,cond_false,Bool.and_false,cond_false]
 |a::l,k,i+1,r,x,h,hu=>by
  have hne:(if k=k+(i+1)then true else X k)=X k:=if_neg (by omega);simp only[slotX];rw[hne];have hf:(fun j=>if j=k+(i+1)then true else X j)=(fun j=>if j=k+1+i then true else X j):=by
   funext j;rw[show k+(i+1)=k+1+i from by omega]
  rw[hf];exact slotX_add (X:=X) (t:=t) (k:=k+1) (l:=l) (i:=i) (r:=r) (by simpa using h) fun j r' hr' hd hn=>by
   have:=hu (j+1) r' (by simpa using hr') hd hn;omega
theorem slotX_take{X:Nat→Bool}{t:Tmp}:∀(R:List DR) (n k:Nat) (x:AV),slotX X t k (R.take n) x=slotX (fun j=>decide (j<k+n)&&X j) t k R x
 | [],n,k,x=>by simp[slotX]
 |r::R,0,k,x=>by
  rw[List.take_zero,slotX_none (l:=r::R)]
  ·rfl
  ·intro j r' _ hX;simp at hX;omega
 |r::R,n+1,k,x=>by
  simp only[List.take_succ_cons,slotX];rw[slotX_take R n (k+1)];have h1:(decide (k<k+(n+1))&&X k)=X k:=by simp
  rw[h1];exact qdf fun j _ _ _=>by rw[show k+1+n=k+(n+1)from by omega]
theorem lookT_envAt{e:Env}{t:Tmp}:∀(R:List DR),qbb (qal e R).t t=slotX (fun _=>true) t 0 R (qbb e.t t):=by
 intro R;have gen:∀(R:List DR) (k:Nat) (e:Env),qbb (qal e R).t t=slotX (fun _=>true) t k R (qbb e.t t):=by
  intro R
  induction R with
  |nil=>intro k e;rfl
  |cons r R ih =>
   intro k e;simp only[qal,slotX,Bool.true_and];rw[ih (k+1)];congr 1;have hput:∀e':Env,qbb (e'.put r.dst r.res).t t=bif decide (r.dst=some t)then r.res else qbb e'.t t:=fun e'=>by
    cases hd:r.dst with
    |none=>simp[Env.put]
    |some d =>
     simp only[Env.put,qbb,Option.some.injEq];by_cases h:d=t
     ·subst h;simp
     ·have:(d == t)=false:=by simpa using h
      rw[this,decide_eq_false h]
   unfold DR.next
   split<;>exact hput _
 exact gen R 0 e
theorem envAt_h{e:Env}(R:List DR):(qal e R).h=e.h++qa9 (fun _=>true) 0 R:=by
 have gen:∀(R:List DR) (k:Nat) (e:Env),(qal e R).h=e.h++qa9 (fun _=>true) k R:=by
  intro R
  induction R with
  |nil=>intro k e;simp[qal,qa9]
  |cons r R ih =>
   intro k e;simp only[qal];rw[ih (k+1)];have hput:∀(e':Env) d v,(e'.put d v).h=e'.h:=fun e' d v=>by cases d<;>rfl
   unfold DR.next
   simp only[qa9];cases r.k<;>simp[hput]
 exact gen R 0 e
def nFresh(R:List DR)(k:Nat):Nat:=(qa9 (fun _=>true) 0 (R.take k)).length
theorem freshX_get{X:Nat→Bool}:∀(R:List DR) (k i:Nat) (r:DR) (xs:List AV),R[i]?=some r→r.k=.fresh xs →
  (qa9 X k R)[(qa9 (fun _=>true) k (R.take i)).length]?=some (bif X (k+i)then .cells xs else .none)
 | [],_,_,_,_,h,_=>by simp at h
 |a::R,k,0,r,xs,h,hk=>by
  simp at h;subst h;simp[qa9,hk]
 |a::R,k,i+1,r,xs,h,hk=>by
  have:=freshX_get (X:=X) R (k+1) i r xs (by simpa using h) hk;rw[show k+1+i=k+(i+1)from by omega]at this;simp only[List.take_succ_cons,qa9];cases a.k with
  |fresh ys=>simpa using this
  |_=>exact this
theorem qda{X:Nat→Bool}:∀(R:List DR) (k j:Nat) (o:AObj),(qa9 X k R)[j]?=some o→∃i r xs,R[i]?=some r∧r.k=.fresh xs∧(qa9 (fun _=>true) k (R.take i)).length=j∧o=bif X (k+i)then .cells xs else .none
 | [],_,_,_,h=>by simp[qa9]at h
 |a::R,k,j,o,h=>by
  simp only[qa9]at h;cases hk:a.k with
  |fresh ys =>
   rw[hk]at h;cases j with
   |zero =>
    simp at h;exact⟨0,a,ys,rfl,hk,by simp[qa9],by rw[←h];simp⟩
   |succ j =>
    obtain⟨i,r,xs,h1,h2,h3,h4⟩:=qda R (k+1) j o (by simpa using h);exact⟨i+1,r,xs,by simpa using h1,h2,by simp only[List.take_succ_cons,qa9,hk,List.length_cons,h3],by rw[h4,show k+1+i=k+(i+1)from by omega]⟩
  |quiet rd =>
   rw[hk]at h;obtain⟨i,r,xs,h1,h2,h3,h4⟩:=qda R (k+1) j o h;exact⟨i+1,r,xs,by simpa using h1,h2,by simp only[List.take_succ_cons,qa9,hk];exact h3,by rw[h4,show k+1+i=k+(i+1)from by omega]⟩
  |store a1 a2 a3 =>
   rw[hk]at h;obtain⟨i,r,xs,h1,h2,h3,h4⟩:=qda R (k+1) j o h;exact⟨i+1,r,xs,by simpa using h1,h2,by simp only[List.take_succ_cons,qa9,hk];exact h3,by rw[h4,show k+1+i=k+(i+1)from by omega]⟩
theorem freshX_add{X:Nat→Bool}:∀(R:List DR) (k i:Nat) (r:DR) (xs:List AV),R[i]?=some r→r.k=.fresh xs →
  qa9 (fun j=>if j=k+i then true else X j) k R=(qa9 X k R).set (qa9 (fun _=>true) k (R.take i)).length (.cells xs)
 | [],_,_,_,_,h,_=>by simp at h
 |a::R,k,0,r,xs,h,hk=>by
  simp at h;subst h;simp only[qa9,hk,Nat.add_zero,if_true,List.take_zero,List.length_nil,List.set_cons_zero,List.cons.injEq,cond_true,true_and];have:∀(R:List DR) (m:Nat),k<m→qa9 (fun j=>if j=k then true else X j) m R=qa9 X m R:=by
   intro R
   induction R with
   |nil=>intro m _;rfl
   |cons b R ih =>
    intro m hm;have hne:(if m=k then true else X m)=X m:=if_neg (by omega);simp only[qa9];rw[hne,ih (m+1) (by omega)]
  exact this R (k+1) (by omega)
 |a::R,k,i+1,r,xs,h,hk=>by
  have:=freshX_add (X:=X) R (k+1) i r xs (by simpa using h) hk;rw[show k+1+i=k+(i+1)from by omega]at this;have hne:(if k=k+(i+1)then true else X k)=X k:=if_neg (by omega);simp only[List.take_succ_cons,qa9];cases a.k with
  |fresh ys =>
   simp only[List.length_cons,List.set_cons_succ];rw[this,hne]
  |_=>exact this
theorem freshX_same{X:Nat→Bool}:∀(R:List DR) (k i:Nat) (r:DR),R[i]?=some r→(∀xs,r.k≠.fresh xs)→qa9 (fun j=>if j=k+i then true else X j) k R=qa9 X k R
 | [],_,_,_,_,_=>rfl
 |a::R,k,0,r,h,hk=>by
  simp at h;subst h;have:∀(R:List DR) (m:Nat),k<m→qa9 (fun j=>if j=k then true else X j) m R=qa9 X m R:=by
   intro R
   induction R with
   |nil=>intro m _;rfl
   |cons b R ih =>
    intro m hm;have hne:(if m=k then true else X m)=X m:=if_neg (by omega);simp only[qa9];rw[hne,ih (m+1) (by omega)]
  simp only[qa9,Nat.add_zero];cases hak:a.k with
  |fresh xs=>exact(hk xs hak).elim
  |_=>exact this R (k+1) (by omega)
 |a::R,k,i+1,r,h,hk=>by
  have:=freshX_same (X:=X) R (k+1) i r (by simpa using h) hk;rw[show k+1+i=k+(i+1)from by omega]at this;have hne:(if k=k+(i+1)then true else X k)=X k:=if_neg (by omega);simp only[qa9];rw[this,hne]
def splice(xs:List AV)(off:Nat)(cs:List AV):List AV:=xs.take off++cs++xs.drop (off+cs.length)
def stepS(r:DR)(h:qab):qab :=
 match r.k with
 | .store i off cs=>match h[i]? with
  |some (.cells xs)=>h.set i (.cells (splice xs off cs))
  |_=>h
 |_=>h
theorem qbx:∀(l:List DR) (h:qab),qce l h=l.foldl (fun h r=>stepS r h) h
 | [],_=>rfl
 |r::l,h=>by
  simp only[qce,List.foldl_cons,stepS];cases r.k with
  |store i off cs=>exact qbx l _
  |_=>exact qbx l _
theorem stepS_len(r:DR)(h:qab):(stepS r h).length=h.length:=by
 unfold stepS;split
 ·split<;>simp
 ·rfl
theorem applyS_len(l:List DR)(h:qab):(qce l h).length=h.length:=by
 rw[qbx]
 induction l generalizing h with
 |nil=>rfl
 |cons r l ih=>rw[List.foldl_cons,ih,stepS_len]
theorem stepS_other{r:DR}{h:qab}{i:Nat}(hno:∀off cs,r.k≠.store i off cs):(stepS r h)[i]?=h[i]?:=by
 unfold stepS;split
 ·rename_i i' off cs hk;split
  ·have:i'≠i:=fun e=>hno off cs (by rw[hk,e]);rw[List.getElem?_set_ne this]
  ·rfl
 ·rfl
theorem applyS_other{l:List DR}{h:qab}{i:Nat}(hno:∀r,r∈l→∀off cs,r.k≠.store i off cs):(qce l h)[i]?=h[i]?:=by
 rw[qbx]
 induction l generalizing h with
 |nil=>rfl
 |cons r l ih =>
  rw[List.foldl_cons,ih (fun r' hr=>hno r' (by simp[hr])),stepS_other (hno r (by simp))]
theorem qd3(r:DR)(h:qab)(i:Nat):(∀o,(∀xs,o≠AObj.cells xs)→((stepS r h)[i]?=some o↔h[i]?=some o)):=by
 intro o ho;unfold stepS;split
 ·rename_i i' off cs hk;split
  ·rename_i xs hx;by_cases he:i'=i
   ·subst he;have hlt:=(List.getElem?_eq_some_iff.1 hx).1;rw[List.getElem?_set_self hlt,hx];constructor
    ·intro h1;exact(ho _ (by simpa using h1.symm)).elim
    ·intro h1;exact(ho _ (by simpa using h1.symm)).elim
   ·rw[List.getElem?_set_ne he]
  ·exact Iff.rfl
 ·exact Iff.rfl
theorem applyS_kind(l:List DR)(h:qab)(i:Nat):(∀o,(∀xs,o≠AObj.cells xs)→((qce l h)[i]?=some o↔h[i]?=some o)):=by
 intro o ho;rw[qbx]
 induction l generalizing h with
 |nil=>exact Iff.rfl
 |cons r l ih=>rw[List.foldl_cons,ih,qd3 r h i o ho]
theorem stepS_cells{r:DR}{h:qab}(hfit:∀i off cs xs,r.k=.store i off cs→h[i]?=some (.cells xs)→off+cs.length≤xs.length){i:Nat}{xs:List AV}(hi:h[i]?=some (.cells xs)) :
  ∃ys,(stepS r h)[i]?=some (.cells ys)∧ys.length=xs.length:=by
 unfold stepS;split
 ·rename_i i' off cs hk;split
  ·rename_i zs hz;by_cases he:i'=i
   ·subst he;have hlt:=(List.getElem?_eq_some_iff.1 hz).1;have hf:=hfit i' off cs zs hk hz;rw[List.getElem?_set_self hlt];rw[hi]at hz;cases hz;exact⟨_,rfl,by simp[splice];omega⟩
   ·rw[List.getElem?_set_ne he];exact⟨xs,hi,rfl⟩
  ·exact⟨xs,hi,rfl⟩
 ·exact⟨xs,hi,rfl⟩
theorem applyS_cells{l:List DR}:∀{h:qab},(∀r,r∈l→∀i off cs,r.k=.store i off cs→∀ys,h[i]?=some (.cells ys)→off+cs.length≤ys.length)→∀{i:Nat} {xs:List AV},h[i]?=some (.cells xs) →
  ∃ys,(qce l h)[i]?=some (.cells ys)∧ys.length=xs.length:=by
 induction l with
 |nil=>intro h _ i xs hi;exact⟨xs,hi,rfl⟩
 |cons r l ih =>
  intro h hfit i xs hi;rw[qbx,List.foldl_cons,←qbx];obtain⟨ys,h1,h2⟩:=stepS_cells (r:=r) (h:=h) (fun i off cs xs hk hx=>hfit r (by simp) i off cs hk xs hx) hi;obtain⟨zs,h3,h4⟩:=ih (h:=stepS r h) (fun r' hr i off cs hk ys hy=>by
   -- the object was cells before too
   cases hh:h[i]? with
   |none =>
    have:(stepS r h)[i]?=none:=by rw[List.getElem?_eq_none_iff,stepS_len];exact List.getElem?_eq_none_iff.1 hh
    rw[this]at hy;cases hy
   |some o =>
    cases o with
    |cells zs =>
     obtain⟨us,g1,g2⟩:=stepS_cells (r:=r) (h:=h) (fun i off cs xs hk hx=>hfit r (by simp) i off cs hk xs hx) hh;rw[hy]at g1;cases g1;rw[g2];exact hfit r' (by simp[hr]) i off cs hk zs hh
    |none=>have:=(qd3 r h i .none (by simp)).2 hh;rw[this]at hy;cases hy
    |map es=>have:=(qd3 r h i (.map es) (by simp)).2 hh;rw[this]at hy;cases hy
    |iter a b=>have:=(qd3 r h i (.iter a b) (by simp)).2 hh;rw[this]at hy;cases hy
    |raw a b d=>have:=(qd3 r h i (.raw a b d) (by simp)).2 hh;rw[this]at hy;cases hy
    |uarr a b d=>have:=(qd3 r h i (.uarr a b d) (by simp)).2 hh;rw[this]at hy;cases hy
    |oarr a b d=>have:=(qd3 r h i (.oarr a b d) (by simp)).2 hh;rw[this]at hy;cases hy
    |arr a b d=>have:=(qd3 r h i (.arr a b d) (by simp)).2 hh;rw[this]at hy;cases hy) h1
  exact⟨zs,h3,by rw[h4,h2]⟩
theorem qea{X:Nat→Bool}:∀{R:List DR} {k:Nat} {r:DR},r∈selX X k R→∃j,R[j]?=some r∧X (k+j)=true
 | [],_,_,h=>by simp[selX]at h
 |a::R,k,r,h=>by
  simp only[selX]at h;cases hX:X k with
  |true =>
   rw[hX,cond_true]at h;cases h with
   |head=>exact⟨0,rfl,by simpa using hX⟩
   |tail _ h =>
    obtain⟨j,h1,h2⟩:=qea h;exact⟨j+1,by simpa using h1,by rwa [show k+(j+1)=k+1+j from by omega]⟩
  |false =>
   rw[hX,cond_false]at h;obtain⟨j,h1,h2⟩:=qea h;exact⟨j+1,by simpa using h1,by rwa [show k+(j+1)=k+1+j from by omega]⟩
theorem applyS_add{X:Nat→Bool}:∀{R:List DR} {k i:Nat} {r:DR},R[i]?=some r→X (k+i)=false→((∀a b cs,r.k≠.store a b cs)∨∀j r',R[j]?=some r'→i<j→X (k+j)=true→∀a b cs,r'.k≠.store a b cs)→∀h,
  qce (selX (fun j=>if j=k+i then true else X j) k R) h=stepS r (qce (selX X k R) h):=by
 have quiet:∀{l:List DR} {h:qab},(∀r,r∈l→∀a b cs,r.k≠.store a b cs)→qce l h=h:=by
  intro l
  induction l with
  |nil=>intro h _;rfl
  |cons r l ih =>
   intro h hq;rw[qbx,List.foldl_cons,←qbx,ih (fun r' hr=>hq r' (by simp[hr]))];unfold stepS;split
   ·rename_i a b cs hk;exact(hq r (by simp) a b cs hk).elim
   ·rfl
 have same:∀(k:Nat) (R:List DR) (m:Nat),k<m→selX (fun j=>if j=k then true else X j) m R=selX X m R:=by
  intro k R
  induction R with
  |nil=>intro m _;rfl
  |cons b R ih =>
   intro m hm;have hne:(if m=k then true else X m)=X m:=if_neg (by omega);simp only[selX];rw[hne,ih (m+1) (by omega)]
 have idle:∀{r:DR} {h:qab},(∀a b cs,r.k≠.store a b cs)→stepS r h=h:=by
  intro r h hq;unfold stepS;split
  ·rename_i a b cs hk;exact(hq a b cs hk).elim
  ·rfl
 intro R
 induction R with
 |nil=>intro k i r h;simp at h
 |cons a R ih =>
  intro k i r hr hX hlast h;cases i with
  |zero =>
   simp at hr;subst hr;simp only[Nat.add_zero]at hX⊢;simp only[selX,if_true,hX,cond_true,cond_false];rw[same k R (k+1) (by omega),qbx,List.foldl_cons,←qbx];rcases hlast with hq|hq
   ·rw[idle hq,idle hq]
   ·have hall:∀r',r'∈selX X (k+1) R→∀a b cs,r'.k≠.store a b cs:=fun r' hr'=>by
     obtain⟨j,h1,h2⟩:=qea hr';exact hq (j+1) r' (by simpa using h1) (by omega) (by rwa [show k+(j+1)=k+1+j from by omega])
    rw[quiet hall,quiet hall]
  |succ i =>
   have hlast':(∀a b cs,r.k≠.store a b cs)∨∀j r',R[j]?=some r'→i<j→X (k+1+j)=true→∀a b cs,r'.k≠.store a b cs:=by
    rcases hlast with hq|hq
    ·exact .inl hq
    ·exact .inr fun j r' hr' hj hX'=>hq (j+1) r' (by simpa using hr') (by omega) (by rwa [show k+(j+1)=k+1+j from by omega])
   have:=fun h=>ih (k:=k+1) (i:=i) (r:=r) (by simpa using hr) (by rwa [show k+1+i=k+(i+1)from by omega]) hlast' h;have hf:(fun j=>if j=k+1+i then true else X j)=(fun j=>if j=k+(i+1)then true else X j):=by
    funext j;rw[show k+(i+1)=k+1+i from by omega]
   rw[hf]at this;have hne:(if k=k+(i+1)then true else X k)=X k:=if_neg (by omega);simp only[selX];rw[hne];cases X k with
   |true =>
    simp only[cond_true];rw[qbx,List.foldl_cons,←qbx,this,qbx (a::_),List.foldl_cons,←qbx]
   |false=>exact this h
end Go.Abs

namespace Go.Abs
def tmpsOf(l:List Operand):List Tmp:=l.filterMap fun| .tmp t=>some t|_=>none
def guardSlot(l:List Oper)(o:Oper):List Tmp :=
 match o.guard with
 |some (j,_)=>((l[j]?).bind (·.dst)).toList
 |none=>[]
def ordB(b:Array Nat)(i j:Nat):Bool:=(b.getD j 0).testBit i
def drawB(l:List Oper):Bool :=
 let b:=Region.before l.toArray
 let z:=l.zipIdx
 (z.all fun p=>p.1.after.all fun e=>!Region.binds .any e||e.on<p.2) &&
 (z.all fun p=>(tmpsOf p.1.op.operands.toList++guardSlot l p.1).all fun t=>z.all fun q=>q.1.dst != some t||q.2 == p.2||ordB b (min p.2 q.2) (max p.2 q.2)) &&
 (z.all fun p=>z.all fun q=>q.2 == p.2||p.1.dst == none||p.1.dst != q.1.dst) &&
 (z.all fun p=>z.all fun q=>!(p.2<q.2)||!(isStore p.1.op&&isStore q.1.op)||ordB b p.2 q.2) &&
 (z.all fun p=>match p.1.guard with|some (j,_)=>j<p.2|none=>true)
structure DrawOk(l:List Oper):Prop where
 after:∀(j:Nat) (o:Oper),l[j]?=some o→∀e,e∈o.after→Region.binds .any e=true→e.on<j
 temps:∀(j:Nat) (o:Oper) (t:Tmp) (i:Nat) (o':Oper),l[j]?=some o→t∈tmpsOf o.op.operands.toList++guardSlot l o→l[i]?=some o'→o'.dst=some t→i=j∨ordB (Region.before l.toArray) (min j i) (max j i)=true
 uniq:∀(j:Nat) (o:Oper) (i:Nat) (o':Oper),l[j]?=some o→l[i]?=some o'→o.dst≠none→o.dst=o'.dst→i=j
 stores:∀(j:Nat) (o:Oper) (i:Nat) (o':Oper),l[j]?=some o→l[i]?=some o'→j<i→isStore o.op=true→isStore o'.op=true→ordB (Region.before l.toArray) j i=true
 guard:∀(j:Nat) (o:Oper) (k:Nat) (want:Bool),l[j]?=some o→o.guard=some (k,want)→k<j
theorem qc8{l:List Oper}{j:Nat}{o:Oper}(h:l[j]?=some o):(o,j)∈l.zipIdx:=by
 rw[List.mem_zipIdx_iff_getElem?];simpa using h
theorem drawOk_of{l:List Oper}(h:drawB l=true):DrawOk l:=by
 simp only[drawB,Bool.and_eq_true,List.all_eq_true]at h;obtain⟨⟨⟨⟨h1,h2⟩,h3⟩,h4⟩,h5⟩:=h;refine⟨fun j o hj e he hb=>?_,fun j o t i o' hj ht hi hd=>?_,fun j o i o' hj hi hn hd=>?_,fun j o i o' hj hi hlt hs hs'=>?_,fun j o k want hj hg=>?_⟩
 ·have:=h1 (o,j) (qc8 hj);simp only[Array.all_eq_true']at this;have:=this e he;simpa[hb]using this
 ·have:=h2 (o,j) (qc8 hj) t ht (o',i) (qc8 hi);simp only[hd,bne_self_eq_false,Bool.false_or,Bool.or_eq_true,beq_iff_eq]at this;exact this
 ·have:=h3 (o,j) (qc8 hj) (o',i) (qc8 hi);simp only[Bool.or_eq_true,beq_iff_eq,bne_iff_ne,ne_eq]at this;rcases this with(h|h)|h
  ·exact h
  ·exact(hn h).elim
  ·exact(h hd).elim
 ·have:=h4 (o,j) (qc8 hj) (o',i) (qc8 hi);simpa[hlt,hs,hs']using this
 ·have:=h5 (o,j) (qc8 hj);simp only[hg]at this;simpa using this
theorem before_spec(l:List Oper):∀j i,ordB (Region.before l.toArray) i j=true→∃o,l[j]?=some o∧∃e,e∈o.after∧Region.binds .any e=true∧(e.on=i∨(e.on<j∧ordB (Region.before l.toArray) i e.on=true)):=by
 have inner:∀(es:List Edge) (acc:Array Nat) (s i:Nat),(es.foldl (fun s e=>if Region.binds .any e then s ||| 2 ^ e.on ||| acc.getD e.on 0 else s) s).testBit i=true→s.testBit i=true∨∃e,e∈es∧Region.binds .any e=true∧(e.on=i∨(acc.getD e.on 0).testBit i=true):=by
  intro es
  induction es with
  |nil=>intro acc s i h;exact .inl h
  |cons e es ih =>
   intro acc s i h;rw[List.foldl_cons]at h;rcases ih acc _ i h with h1|⟨e',he',h2⟩
   ·by_cases hb:Region.binds .any e=true
    ·rw[if_pos hb,Nat.testBit_or,Nat.testBit_or,Bool.or_eq_true,Bool.or_eq_true,Nat.testBit_two_pow]at h1;rcases h1 with(h1|h1)|h1
     ·exact .inl h1
     ·exact .inr ⟨e,by simp,hb,.inl (by simpa using h1)⟩
     ·exact .inr ⟨e,by simp,hb,.inr h1⟩
    ·rw[if_neg hb]at h1;exact .inl h1
   ·exact .inr ⟨e',by simp[he'],h2⟩
 have outer:∀(rest done:List Oper) (acc:Array Nat),acc.size=done.length→(∀j i,(acc.getD j 0).testBit i=true→∃o,done[j]?=some o∧∃e,e∈o.after∧Region.binds .any e=true∧(e.on=i∨(e.on<j∧(acc.getD e.on 0).testBit i=true))) →
   ∀j i,((rest.foldl (fun acc o=>acc.push (o.after.foldl (fun s e=>if Region.binds .any e then s ||| 2 ^ e.on ||| acc.getD e.on 0 else s) 0)) acc).getD j 0).testBit i=true →
    ∃o,(done++rest)[j]?=some o∧∃e,e∈o.after∧Region.binds .any e=true∧(e.on=i∨(e.on<j∧((rest.foldl (fun acc o=>acc.push (o.after.foldl (fun s e=>if Region.binds .any e then s ||| 2 ^ e.on ||| acc.getD e.on 0 else s) 0)) acc).getD e.on 0).testBit i=true)):=by
  intro rest
  induction rest with
  |nil=>intro done acc _ h;simpa using h
  |cons o rest ih =>
   intro done acc hsz h;rw[List.foldl_cons];have:=ih (done++[o]) (acc.push (o.after.foldl (fun s e=>if Region.binds .any e then s ||| 2 ^ e.on ||| acc.getD e.on 0 else s) 0)) (by simp[hsz]) (fun j i hji=>by
    have hget:∀m,m<acc.size→(acc.push (o.after.foldl (fun s e=>if Region.binds .any e then s ||| 2 ^ e.on ||| acc.getD e.on 0 else s) 0)).getD m 0=acc.getD m 0:=fun m hm=>by
     simp only[Array.getD_eq_getD_getElem?,Array.getElem?_push];rw[if_neg (by omega)]
    have hbig:∀m i,(acc.getD m 0).testBit i=true→m<acc.size:=fun m i hm=>by
     rcases Nat.lt_or_ge m acc.size with h'|h'
     ·exact h'
     ·rw[Array.getD_eq_getD_getElem?,Array.getElem?_eq_none h']at hm;simp at hm
    by_cases hj:j<acc.size
    ·rw[hget j hj]at hji;obtain⟨o',h1,e,h2,h3,h4⟩:=h j i hji;refine⟨o',by rw[List.getElem?_append_left (by omega)];exact h1,e,h2,h3,?_⟩;rcases h4 with h4|⟨h4,h5⟩
     ·exact .inl h4
     ·exact .inr ⟨h4,by rw[hget _ (by omega)];exact h5⟩
    ·have hj':j=acc.size:=by
      rcases Nat.lt_or_ge acc.size j with h'|h'
      ·rw[Array.getD_eq_getD_getElem?,Array.getElem?_eq_none (by simp;omega)]at hji;simp at hji
      ·omega
     subst hj';rw[Array.getD_eq_getD_getElem?,Array.getElem?_push,if_pos rfl]at hji;simp only[Option.getD_some]at hji;rw[←Array.foldl_toList]at hji;rcases inner _ acc 0 i hji with h1|⟨e,h1,h2,h3⟩
     ·simp at h1
     ·refine⟨o,by rw[hsz];simp,e,by simpa using h1,h2,?_⟩;rcases h3 with h3|h3
      ·exact .inl h3
      ·exact .inr ⟨hbig _ _ h3,by rw[hget _ (hbig _ _ h3)];exact h3⟩)
   simpa using this
 intro j i h;have:=outer l [] #[] rfl (fun j i h=>by simp at h) j i (by
  unfold ordB Region.before at h;rw[←Array.foldl_toList]at h;exact h)
 unfold ordB Region.before;rw[←Array.foldl_toList];simpa using this
def qem(l:List Oper)(X:Nat→Bool):Prop:=∀j o,X j=true→l[j]?=some o→∀e,e∈o.after→Region.binds .any e=true→X e.on=true
theorem ord_in{l:List Oper}{X:Nat→Bool}(hX:qem l X):∀j i o,l[j]?=some o→(∀e,e∈o.after→Region.binds .any e=true→X e.on=true)→ordB (Region.before l.toArray) i j=true→X i=true:=by
 intro j
 induction j using Nat.strongRecOn with
 |_ j ih =>
  intro i o hj hall h;obtain⟨o',h1,e,h2,h3,h4⟩:=before_spec l j i h;rw[hj]at h1;cases h1;have hXe:=hall e h2 h3;rcases h4 with rfl|⟨h4,h5⟩
  ·exact hXe
  ·obtain⟨o2,g1,_⟩:=before_spec l e.on i h5;exact ih e.on h4 i o2 g1 (hX e.on o2 hXe g1) h5
def AObj.isArr:AObj→Bool
 | .arr .. | .uarr .. | .oarr ..=>true
 |_=>false
def SameArr(h h':qab):Prop:=∀(i:Nat) (o:AObj),o.isArr=true→(h[i]?=some o↔h'[i]?=some o)
mutual
theorem norm_congr{h h':qab}(hh:SameArr h h'):∀x:AV,x.norm h=x.norm h'
 | .nils| .top| .val _| .slice _| .ptr _ _| .eptr _| .lit _| .mapr _| .fn _ _ _| .opt _ _| .optr ..=>rfl
 | .agg xs| .tuple xs=>by simp only[AV.norm,normL_congr hh xs]
 | .iface t v=>by simp only[AV.norm,norm_congr hh v]
 | .own i n=>by
  simp only[AV.norm];split
  ·rename_i e sz rows hi;rw[(hh i _ rfl).1 hi]
  ·rename_i hno;split
   ·rename_i e sz rows hi;exact(hno e sz rows ((hh i _ rfl).2 hi)).elim
   ·rfl
theorem normL_congr{h h':qab}(hh:SameArr h h'):∀xs:List AV,qbi h xs=qbi h' xs
 | []=>rfl
 |x::xs=>by simp only[qbi,norm_congr hh x,normL_congr hh xs]
end
theorem litRows_congr{h h':qab}(hh:SameArr h h')(sz:Nat):∀(k:Nat) (l:List (Nat×AV)),litRows h sz k l=litRows h' sz k l
 |_,[]=>rfl
 |k,(i,x)::l=>by simp only[litRows,normL_congr hh,litRows_congr hh sz (k+1) l]
theorem aLookup_heap{P:Program}{T:TypeId}{x i:AV}{ok:Bool}{h h':qab}(hm:∀(i:Nat) (es:List (AV×AV)),h[i]?=some (.map es)↔h'[i]?=some (.map es)):aLookup P T x i ok h=aLookup P T x i ok h':=by
 unfold aLookup;split
 ·rename_i k e o s _;cases ho:h[o]? with
  |none =>
   cases ho':h'[o]? with
   |none=>rfl
   |some u=>cases u with
    |map es=>have:=(hm o es).2 ho';rw[ho]at this;cases this
    |_=>rfl
  |some u =>
   cases u with
   |map es=>rw[(hm o es).1 ho]
   |_ =>
    cases ho':h'[o]? with
    |none=>rfl
    |some u'=>cases u' with
     |map es=>have:=(hm o es).2 ho';rw[ho]at this;cases this
     |_=>rfl
 ·rfl
theorem uarr_congr{α:Type}{h h':qab}(hh:SameArr h h')(i:Nat)(k:Option AObj→α)(k0:α)(hk:∀o,(∀e sz rows,o≠some (AObj.uarr e sz rows))→(∀e sz rows,o≠some (AObj.oarr e sz rows))→k o=k0):k h[i]?=k h'[i]?:=by
 by_cases hu:∃e sz rows,h[i]?=some (AObj.uarr e sz rows)
 ·obtain⟨e,sz,rows,hi⟩:=hu;rw[hi,(hh i _ rfl).1 hi]
 ·by_cases hu':∃e sz rows,h'[i]?=some (AObj.uarr e sz rows)
  ·obtain⟨e,sz,rows,hi⟩:=hu';exact(hu ⟨e,sz,rows,(hh i _ rfl).2 hi⟩).elim
  ·by_cases hp:∃e sz rows,h[i]?=some (AObj.oarr e sz rows)
   ·obtain⟨e,sz,rows,hi⟩:=hp;rw[hi,(hh i _ rfl).1 hi]
   ·by_cases hp':∃e sz rows,h'[i]?=some (AObj.oarr e sz rows)
    ·obtain⟨e,sz,rows,hi⟩:=hp';exact(hp ⟨e,sz,rows,(hh i _ rfl).2 hi⟩).elim
    ·rw[hk _ (fun e sz rows h=>hu ⟨e,sz,rows,h⟩) (fun e sz rows h=>hp ⟨e,sz,rows,h⟩),hk _ (fun e sz rows h=>hu' ⟨e,sz,rows,h⟩) (fun e sz rows h=>hp' ⟨e,sz,rows,h⟩)]
theorem aIndexAddr_heap{P:Program}{T:TypeId}{x i:AV}{h h':qab}(hh:SameArr h h'):qd8 P T x i h=qd8 P T x i h':=by
 unfold qd8;split<;>try rfl
 rename_i e sz o m k n hk;exact uarr_congr hh o (fun ob=>match ob with
  |some (.uarr _ sz' rows)=>(⟨rows.length=m∧sz'=sz∧0≤n∧n.toNat<rows.length∧0<sz,.optr o m sz n.toNat 0⟩:SV)
  |some (.oarr _ sz' rows)=>(⟨rows.length=m∧sz'=sz∧0≤n∧n.toNat<rows.length∧0<sz,.optr o m sz n.toNat 0⟩:SV)
  |_=>.no) .no fun ob hob hob2=>by
   split
   ·rename_i e sz rows;exact(hob _ _ _ rfl).elim
   ·rename_i e sz rows;exact(hob2 _ _ _ rfl).elim
   ·rfl
theorem map_congr{α:Type}{h h':qab}(hm:∀(i:Nat) (es:List (AV×AV)),h[i]?=some (.map es)↔h'[i]?=some (.map es))(i:Nat)(k:Option AObj→α)(k0:α)(hk:∀o,(∀es,o≠some (AObj.map es))→k o=k0):k h[i]?=k h'[i]?:=by
 by_cases hu:∃es,h[i]?=some (AObj.map es)
 ·obtain⟨es,hi⟩:=hu;rw[hi,(hm i _).1 hi]
 ·by_cases hu':∃es,h'[i]?=some (AObj.map es)
  ·obtain⟨es,hi⟩:=hu';exact(hu ⟨es,(hm i _).2 hi⟩).elim
  ·rw[hk _ fun es h=>hu ⟨es,h⟩,hk _ fun es h=>hu' ⟨es,h⟩]
theorem aLen_heap{P:Program}{T:TypeId}{x:AV}{h h':qab}(hh:SameArr h h')(hm:∀(i:Nat) (es:List (AV×AV)),h[i]?=some (.map es)↔h'[i]?=some (.map es)):aLen P T x h=aLen P T x h':=by
 unfold aLen;split<;>try rfl
 rotate_left
 ·rename_i o hk;exact map_congr hm o (fun ob=>match ob with
   |some (.map es)=>(⟨True,.val (.int .i64 es.length)⟩:SV)
   |_=>.no) .no fun ob hob=>by
    split
    ·rename_i es;exact(hob _ rfl).elim
    ·rfl
 rename_i e sz o m hk;exact uarr_congr hh o (fun ob=>match ob with
  |some (.uarr _ _ rows)=>(⟨rows.length=m,.val (.int .i64 rows.length)⟩:SV)
  |some (.oarr _ _ rows)=>(⟨rows.length=m,.val (.int .i64 rows.length)⟩:SV)
  |_=>.no) .no fun ob hob hob2=>by
   split
   ·rename_i e sz rows;exact(hob _ _ _ rfl).elim
   ·rename_i e sz rows;exact(hob2 _ _ _ rfl).elim
   ·rfl
theorem opStill_heap{P:Program}{e:Env}{h h':qab}{op:Op}(ha:SameArr h h')(hr:∀i,rdOf e op=some i→h[i]?=h'[i]?)(hm:∀(i:Nat) (es:List (AV×AV)),h[i]?=some (.map es)↔h'[i]?=some (.map es)):qbp P e.getS h op=qbp P e.getS h' op:=by
 cases op with
 |load t a =>
  simp only[qbp,aLoadAt];simp only[rdOf]at hr;cases ha:e.getS a with
  |ptr i off =>
   simp only[ha]at hr;simp only[hr i rfl]
  |optr i n sz r q =>
   exact uarr_congr ‹SameArr h h'› i (fun ob=>match ob with
    |some (.uarr _ sz' rows)=>(⟨rows.length=n∧sz'=sz∧r<rows.length∧(aLoad (qat P t) (qah P t).agg ((rows.getD r []).drop q)).side∧qah P t≠TK.other,(aLoad (qat P t) (qah P t).agg ((rows.getD r []).drop q)).val⟩:SV)
    |some (.oarr _ sz' rows)=>(⟨rows.length=n∧sz'=sz∧r<rows.length∧(aLoad (qat P t) (qah P t).agg ((rows.getD r []).drop q)).side∧qah P t≠TK.other,(aLoad (qat P t) (qah P t).agg ((rows.getD r []).drop q)).val⟩:SV)
    |_=>.no) .no fun ob hob hob2=>by
     split
     ·rename_i e sz rows;exact(hob _ _ _ rfl).elim
     ·rename_i e sz rows;exact(hob2 _ _ _ rfl).elim
     ·rfl
  |_=>rfl
 |lookup T x i ok =>
  simp only[qbp];exact aLookup_heap hm
 |indexAddr T x i=>simp only[qbp,norm_congr ha,aIndexAddr_heap ha]
 |slice T x lo hi mx=>simp only[qbp,norm_congr ha]
 |call c =>
  obtain⟨callee,args,ts⟩:=c;cases callee with
  |builtin b=>cases b with
   |len=>simp only[qbp,norm_congr ha,aLen_heap ha hm]
   |_=>rfl
  |_=>rfl
 |unOp op t x=>cases op<;>rfl
 |_=>rfl
end Go.Abs
