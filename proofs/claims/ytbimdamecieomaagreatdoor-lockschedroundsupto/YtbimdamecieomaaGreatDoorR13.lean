/- Part 13 of a proof. -/
import Derived.Test.YtbimdamecieomaaGreatDoorR12
set_option linter.all false
namespace Go.Abs
def xlt(P:Program)(fid:FuncId)(G:Bool)(pre:Prop)(args:List AV)(e:Env)(iu:List DR)(K:Bool→Env→List DR→AV→Prop)(_:Tag K):Prop:=∃r,(G=true→pre∧xbf P fid args r e.h)∧K G e iu r
def qyi(P:Program)(N:Nat)(ds:List (Option Tmp))(o:Oper)(e:Env)(iu:List DR)(K:Env→List DR→DR→Prop):Prop :=
 match gB ds e o.guard with
 |none=>False
 |some G =>
  yw N o.dst ∧
  match o.op with
  | .call { callee:=.value f,args,.. }=>match e.getS f with
   | .fn (.func fid) first caps=>xlt P fid G (l6 e true (f::args.toList)) (kc e.h (first++args.toList.map e.getS++caps)) e iu (fun G e iu r=>K e iu ⟨o.dst,q8 o.guard G r,.quiet none⟩) ⟨⟩
   |_=>False
  | .pick x y z=>qzv G (e.get x) (e.get y) (e.get z)∧K e iu ⟨o.dst,q8 o.guard G (qne (e.get x) (e.get y) (e.get z)),.quiet none⟩
  | .box _ x=>o.guard=none∧l6 e true [x]∧(e.getS x).cellsOk=true∧K e iu ⟨o.dst,.ptr e.h.length 0,.fresh (e.getS x).cells⟩
  | .alloc T=>o.guard=none∧ij P T≠.other∧K e iu ⟨o.dst,.ptr e.h.length 0,.fresh (jo P T)⟩
  | .store T a x=>o.guard=none∧o.dst=none∧l6 e true [a,x]∧ij P T≠.other∧(e.getS x).cellsOk=true∧(e.getS x).cells.length=iy P T ∧
   match e.getS a with
   | .ptr i off=>match e.h[i]? with
    |some (.cells xs)=>off+(e.getS x).cells.length≤xs.length∧K e iu ⟨none,.top,.store i off (e.getS x).cells⟩
    |_=>False
   |_=>False
  | .buildSlice T n parts =>
   match ij P T with
   | .slice el sz=>match qrd e.h sz 0 (parts.toList.map fun p=>(p.1,e.getS p.2))with
    |some rows=>G=true∧l6 e true (parts.toList.map (·.2))∧rows.length=n∧0<sz∧n * sz≤16777216∧ij P el≠.other∧iy P el=sz∧K e iu ⟨o.dst,q8 o.guard G (.slice rows),.quiet none⟩
    |none=>match qzq sz n (parts.toList.map fun p=>(p.1,e.getS p.2))with
     |some cs=>G=true∧l6 e true (parts.toList.map (·.2))∧0<sz∧sz≤16777216∧ij P el≠.other∧iy P el=sz∧K e iu ⟨o.dst,q8 o.guard G (.lit cs),.quiet none⟩
     |none=>False
   |_=>False
  |op=>(G=true→l6 e true op.operands.toList∧(qb P e.getS e.h op).side)∧K e iu ⟨o.dst,q8 o.guard G (qb P e.getS e.h op).val,.quiet (qyn e op)⟩
theorem xkz{P:Program}{N:Nat}{ds:List (Option Tmp)}{o:Oper}{e:Env}{iu:List DR}{K:Env→List DR→DR→Prop}(h:qyi P N ds o e iu K):uy P N ds o e (K e iu):=by
 obtain⟨dst,op,ty,pos,after,guard⟩:=o;unfold qyi at h;unfold uy;split at h
 ·exact h.elim
 ·rename_i G hG;simp only[hG];obtain⟨hd,h⟩:=h;refine⟨hd,?_⟩;cases op with
  |call cl =>
   obtain⟨callee,args,ats⟩:=cl;cases callee with
   |value f=>exact h
   |_=>exact h
  |_=>exact h
def qwe(P:Program)(N:Nat):List (Option Tmp)→List Oper→Env→List DR→(List DR→Env→Prop)→Prop
 |_,[],e,iu,K=>K iu e
 |ds,o::l,e,iu,K=>qyi P N ds o e iu fun e iu r=>qwe P N (ds++[o.dst]) l (r.next e) (iu++[r]) K
theorem xad{P:Program}{N:Nat}:∀{l:List Oper} {ds:List (Option Tmp)} {e:Env} {iu:List DR} {K:List DR→Env→Prop},qwe P N ds l e iu K→qou P N ds l e iu K
 | [],_,_,_,_,h=>h
 |_::_,_,_,_,_,h=>xkn (xkz h) fun _ hr=>xad hr
theorem xm4{P:Program}{N:Nat}:∀{l:List Oper} {ds:List (Option Tmp)} {e:Env} {iu:List DR} {K:List DR→Env→Prop} {R:List DR},R.length=l.length →
  (∀(k:Nat) (o:Oper),l[k]?=some o→uy P N (ds++(l.take k).map (·.dst)) o (ja e (R.take k)) (fun r=>R[k]?=some r))→K (iu++R) (ja e R)→qou P N ds l e iu K
 | [],ds,e,iu,K,R,hl,hs,hK=>by
  have:=ql8.1 hl;subst this;simpa[qou,ja]using hK
 |o::l,ds,e,iu,K,[],hl,hs,hK=>by simp at hl
 |o::l,ds,e,iu,K,r::R,hl,hs,hK=>by
  simp only[qou];have h0:=hs 0 o rfl;simp only[ql3,e6,e8,ja,List.getElem?_cons_zero,d7]at h0;refine xkn h0 fun r' hr=>?_;subst hr;refine xm4 (R:=R) cj (fun k o' ho=>?_) (by simpa[ja,dr]using hK);have:=hs (k+1) o' qgp;simpa[ja,dr]using this
section
variable {P:Program} {E:Ent}
theorem tk{id:Nat}(m:Nat){l:List Oper}{Q:AExit→Env→Prop}{e:Env}(hm:P.follows .mixedOrders=true)(hB:(decide (m≤l.length)&&quy (l.take m)&&qus m l)=true)
  (h:qwe P E.N [] (l.take m) e [] fun R e1=>pm (Region.before (l.take m).toArray) R∧qnz P E.N Q ((l.take m).map (·.dst)) (l.drop m) ⟨e1.t,rp R e1.h⟩):AWp P E (.region id l.toArray true) Q e :=
 xvu m hm hB (xv1 (xad h) fun _ _ hk=>⟨hk.1,qds (l.drop m) (l.take m) _ ae hk.2⟩)
theorem kf{id:Nat}(m:Nat){l:List Oper}{Q:AExit→Env→Prop}{e:Env}(hm:P.follows .mixedOrders=true)(hB:(decide (m≤l.length)&&quy (l.take m)&&qus m l)=true)(hq:((l.take m).all fun o=>!qtm o.op)=true)
  (h:qwe P E.N [] (l.take m) e [] fun R e1=>qnz P E.N Q ((l.take m).map (·.dst)) (l.drop m) ⟨e1.t,rp R e1.h⟩):AWp P E (.region id l.toArray true) Q e:=by
 refine xvu m hm hB ?_;obtain⟨R,jr,quz,hQ⟩:=qxf (xad h);have iz:∀r,r∈R→∀i off cs,r.k≠.store i off cs:=fun r hr i off cs hk=>by
  obtain⟨j,hj⟩:=dv hr;have ib:j<(l.take m).length:=by rw[←jr];exact(cq.1 hj).1
  obtain⟨_,r',h1,h2,h3⟩:=qxp (quz j (l.take m)[j] (da ib));rw[hj]at h2;cases h2;have:=h3 ⟨i,off,cs,hk⟩;have k:=dw.1 hq (l.take m)[j] (c9 _);rw[this]at k;cases k
 refine xm4 (R:=R) jr quz ⟨?_,qds (l.drop m) (l.take m) _ ae (by simpa using hQ)⟩;unfold pm;rw[dw];intro p hp;split
 ·rw[dw];intro q xm;split
  ·rename_i i _ _ j off cs hk;have pc:q.1∈R:=by
    obtain⟨a,b⟩:=q;rw[List.mem_zipIdx_iff_getElem?]at xm;exact c7 (by simpa using xm)
   exact(iz q.1 pc _ _ _ hk).elim
  ·rfl
 ·rfl
theorem ku{fid:FuncId}{G:Bool}{pre:Prop}{args:List AV}{e:Env}{iu:List DR}{K:Bool→Env→List DR→AV→Prop}{t:Tag K}{r:AV}(hr:APure P fid args r)(hp:G=true→pre)(hK:K G e iu r):xlt P fid G pre args e iu K t:=⟨r,fun hG=>⟨hp hG,hr.at _⟩,hK⟩
theorem xxw{fid:FuncId}{G:Bool}{pre:Prop}{args:List AV}{e:Env}{iu:List DR}{K:Bool→Env→List DR→AV→Prop}{t:Tag K}{r:AV}(hr:G=true→xbf P fid args r e.h)(hp:G=true→pre)(hK:K G e iu r):xlt P fid G pre args e iu K t:=⟨r,fun hG=>⟨hp hG,hr hG⟩,hK⟩
end
attribute [go_sem] qwe qyi DR.next qyn rp
theorem xj2{E:Ent}{c:Ctx}{h:gz}{w:World}(s:HSim c h w)(k:E.ok c h w){p:Nat}{xs xs':List AV}(hp:h[p]?=some (.cells xs))(hl:xs'.length=xs.length)
  (hr:∀(j:Nat) (x x':AV) (v:Value),xs[j]?=some x→xs'[j]?=some x'→Rel c x v→Rel c x' v):HSim c (h.set p (.cells xs')) w∧E.ok c (h.set p (.cells xs')) w:=by
 have o7:∀j o b',(h.set p (.cells xs'))[j]?=some o→jb c j o=some b'→∃o0,h[j]?=some o0∧jb c j o0=some b':=fun j o b' hj il=>by
  rcases l7 hj with⟨rfl,rfl⟩|⟨ii,h1⟩
  ·exact⟨_,hp,il⟩
  ·exact⟨o,h1,il⟩
 refine⟨⟨s.data,fun j hj=>s.dom j bf,fun j o hj=>?_,fun j j' o o' b hj oq hb il=>?_,fun j o b m v hj hb hD=>?_⟩,⟨k.edom,k.ext,k.blk0,bz,k.os,k.tape,k.output,k.size,k.frame,fun j o b hj hb=>?_,k.dold⟩⟩
 ·rcases l7 hj with⟨rfl,rfl⟩|⟨ii,h1⟩
  ·obtain⟨b,vs,T,g1,g2,g3,g4⟩:=s.obj j _ hp;refine⟨b,vs,T,g1,g2,by rw[g3,hl],fun i x v hx hv=>?_⟩;have ib:i<xs.length:=by rw[←hl];exact(cq.1 hx).1
   have h5:=g4 i xs[i] v bp hv;exact⟨hr i _ x v bp hx h5.1,h5.2⟩
  ·exact s.obj j o h1
 ·obtain⟨o1,g1,g2⟩:=o7 j o b hj hb;obtain⟨o2,g3,g4⟩:=o7 j' o' b oq il;exact s.apart j j' o1 o2 b g1 g3 g2 g4
 ·rcases l7 hj with⟨rfl,rfl⟩|⟨ii,h1⟩
  ·have:=s.sep j (.cells xs) b m v hp hb hD;exact this
  ·exact s.sep j o b m v h1 hb hD
 ·obtain⟨o1,g1,g2⟩:=o7 j o b hj hb;exact k.newobj j o1 b g1 g2
theorem xbd{c:Ctx}{v:Value}(h:Rel c .nils v):v=.slice none 0 0:=by
 cases h with
 |data h=>cases h
 |nils=>rfl
theorem jl3(E:Ent)(e:Env){p j t sz:Nat}{xs:List AV}(hp:e.h[p]?=some (.cells xs))(hj:xs[j]?=some .nils) :
  Wk E e ⟨e.t,(e.h++[AObj.uarr t sz []]).set p (.cells (xs.set j (.own e.h.length 0)))⟩:=fun c a w s k=>by
 obtain⟨ig,s1,k1⟩:=xb4 s.hs k t sz;have ib:p<e.h.length:=(cq.1 hp).1;obtain⟨s2,k2⟩:=xj2 s1 k1 (p:=p) (xs:=xs) (xs':=xs.set j (.own e.h.length 0)) (by rw[cu ib];exact hp) ae (fun i x x' v hx mc hr=>by
  rcases l7 mc with⟨rfl,rfl⟩|⟨ii,h1⟩
  ·rw[hj]at hx;cases hx;have:=xbd hr;subst this;exact .own _ _ _ bu rfl
  ·rw[h1]at hx;cases hx;exact hr)
 exact⟨_,⟨s.defers,s.size,fun i=>(s.tmps i).mono ig,s2⟩,k2⟩
section
mutual
def AV.bd:AV→Prop
 | .slice rows=>rows.length≤68719476736∧qwl rows
 | .agg xs| .tuple xs=>yz xs
 | .iface _ v=>v.bd
 | .val (.string s)=>s.size≤68719476736
 |_=>True
def yz:List AV→Prop
 | []=>True
 |x::xs=>x.bd∧yz xs
def qwl:List (List AV)→Prop
 | []=>True
 |x::xs=>yz x∧qwl xs
end
theorem qx7:∀{xs:List AV},yz xs↔∀x,x∈xs→x.bd
 | []=>by simp[yz]
 |x::xs=>by simp[yz,qx7 (xs:=xs)]
theorem qyo:∀{xs:List (List AV)},qwl xs↔∀x,x∈xs→yz x
 | []=>by simp[qwl]
 |x::xs=>by simp[qwl,qyo (xs:=xs)]
theorem DRel.bd{D:Nat→Nat→Option Value}{x:AV}{v:Value}(h:DRel D x v):x.bd:=by
 induction h with
 |val v h hs =>
  cases v with
  |string s=>simpa[AV.bd,zz]using hs
  |_=>trivial
 |nil=>exact⟨di _,trivial⟩
 |empty a=>exact⟨di _,trivial⟩
 |slice rows b off cap sz g jq hB hc h1 h2 ih =>
  refine⟨hB,?_⟩;rw[qyo];intro r hr;rw[qx7];intro x hx;obtain⟨i,hi⟩:=dv hr;obtain⟨j,hj⟩:=dv hx;exact ih i j r x hi hj
theorem Rel.bd{c:Ctx}{x:AV}{v:Value}(h:Rel c x v):x.bd:=by
 induction h with
 |data h=>exact h.bd
 |agg xs vs hl ho h ih|tuple xs vs hl h ih =>
  show yz xs;rw[qx7];intro x hx;obtain⟨j,hj⟩:=dv hx;have ib:j<vs.size:=by rw[hl];exact(cq.1 hj).1
  exact ih j x vs[j] hj bp
 |iface t x v h ih=>exact ih
 |val v hs =>
  cases v with
  |string s=>simpa[AV.bd,zz]using hs
  |_=>trivial
 |_=>trivial
def AObj.bd:AObj→Prop
 | .cells xs=>yz xs
 | .map es=>∀p,p∈es→p.1.bd∧p.2.bd
 | .arr _ _ rows| .uarr _ _ rows=>rows.length≤68719476736∧qwl rows
 |_=>True
theorem HSim.bd{c:Ctx}{h:gz}{w:World}(s:HSim c h w):∀o,o∈h→o.bd:=by
 intro o ho;obtain⟨i,hi⟩:=dv ho;have k:=s.obj i o hi;cases o with
 |none=>trivial
 |iter=>trivial
 |raw=>trivial
 |oarr=>trivial
 |cells xs =>
  obtain⟨b,vs,T,h1,h2,h3,h4⟩:=k;show yz xs;rw[qx7];intro x hx;obtain⟨j,hj⟩:=dv hx;have ib:j<vs.size:=by rw[h3];exact(cq.1 hj).1
  exact(h4 j x vs[j] hj bp).1.bd
 |map es =>
  obtain⟨b,lz,clock,h1,h2,h3,h4⟩:=k;intro p hp;obtain⟨j,hj⟩:=dv hp;have ib:j<lz.size:=by rw[h3];exact(cq.1 hj).1
  have:=h4 j p.1 p.2 lz[j] hj bp;exact⟨this.1.bd,this.2.bd⟩
 |arr e sz rows =>
  obtain⟨v,vs,h1,h2,h3,h4,h5,h6,h7,h8⟩:=k;refine⟨h5,?_⟩;rw[qyo];intro r hr;rw[qx7];intro x hx;obtain⟨i',ke⟩:=dv hr;obtain⟨j,hj⟩:=dv hx;obtain⟨u,_,hd⟩:=h7 i' j r x ke hj;exact hd.bd
 |uarr e sz rows =>
  obtain⟨v,vs,h1,h2,h3,h4,h5,h6,h7⟩:=k;refine⟨h5,?_⟩;rw[qyo];intro r hr;rw[qx7];intro x hx;obtain⟨i',ke⟩:=dv hr;obtain⟨j,hj⟩:=dv hx;obtain⟨u,_,hd⟩:=h7 i' j r x ke hj;exact hd.bd
section
variable {P:Program} {E:Ent} {Q:AExit→Env→Prop} {e:Env}
theorem xjx{f:FuncId}{args:List AV}{h:gz}{R:AEnd→gz→Prop}(H:yz args→(∀o,o∈h→o.bd)→nb h.length args=true→ACalls P f args h R)(hf:qwf P f):ACalls P f args h R :=
 ⟨hf,fun c w vs hs ha=>(H (by
  rw[qx7];intro x hx;obtain⟨j,hj⟩:=dv hx;have ib:j<vs.size:=by rw[ha.1];exact(cq.1 hj).1
  exact(ha.2 j x vs[j] hj bp).bd) hs.bd (by
  rw[qca];intro x hx;obtain⟨j,hj⟩:=dv hx;have ib:j<vs.size:=by rw[ha.1];exact(cq.1 hj).1
  exact(ha.2 j x vs[j] hj bp).under hs.dom)).2 c w vs hs ha⟩
theorem qda{f:FuncId}{fn:Func}{code:Code}{args:List AV}{h:gz}{R:AEnd→gz→Prop}(hf:P.funcs[f]?=some fn)(hb:fn.body=some code)(u7:(fn.name == "runtime.NumGoroutine")=false)(hN:args.length≤fn.ntmps)
  (body:∀E:Ent,E.N=fn.ntmps→E.h=h→hUnder h.length h=true→yz args→(∀o,o∈h→o.bd)→nb h.length args=true→AWp P E code (qxr P fn.results.toList h.length R) ⟨qes 0 args,h⟩):ACalls P f args h R :=
 xjx (fun jw li hb3=>xh2 hf hb u7 hN fun E h1 h2 h3=>body E h1 h2 h3 jw li hb3) ⟨fn,hf,qju,u7⟩
theorem qbn{f:FuncId}{fn:Func}{code:Code}{args:List AV}{r:AV}(hf:P.funcs[f]?=some fn)(hb:fn.body=some code)(u7:(fn.name == "runtime.NumGoroutine")=false)(hN:args.length≤fn.ntmps)(hr:r.under 0=true)
  (body:∀(E:Ent) (h:gz),E.N=fn.ntmps→E.h=h→hUnder h.length h=true→yz args→AWp P E code (xed P fn.results.toList r h) ⟨qes 0 args,h⟩):APure P f args r:=fun h =>
 xjx (fun jw _ _=>jfa hf hb u7 hN hr (fun E h1 h2 h3 h4=>body E h1 h2 h3 h4 jw) h) ⟨fn,hf,qju,u7⟩
end
theorem vf{h:gz}(hu:hUnder h.length h=true)(l:gz)(k:Nat):hUnder (h.length+k) (h++l)=hUnder (h.length+k) l:=by
 rw[tn,ww aa hu,fh]
theorem qz7{a b:gz}:∀{h:gz},hwk (h++a) (h++b)↔hwk a b
 | []=>Iff.rfl
 |o::h=>by
  simp only[qlg,hwk,qz7 (h:=h)];exact⟨fun x=>x.2,fun x=>⟨.refl o,x⟩⟩
attribute [go_sem] hUnder AObj.under hwk ObjWk qz7
theorem qm4(E:Ent)(e:Env)(i t sz:Nat)(hi:kj e.t i=.nils):Wk E e ⟨(i,.own e.h.length 0)::e.t,e.h++[.arr t sz []]⟩:=by
 have h1:Wk E e ⟨(i,.own e.h.length 0)::e.t,e.h++[.uarr t sz []]⟩:=fun c a w s k=>by
  obtain⟨ig,s1,k1⟩:=xb4 s.hs k t sz;refine⟨_,⟨s.defers,s.size,fun j=>?_,s1⟩,k1⟩;simp only[kj];by_cases hj:i=j
  ·subst hj;simp only[beq_self_eq_true,cond_true];have:=s.tmps i;rw[hi]at this;rw[xbd this];exact .own _ _ _ bu rfl
  ·have:(i == j)=false:=bf;simp only[this,cond_false];exact(s.tmps j).mono ig
 refine h1.trans ?_;have:=zt E ⟨(i,.own e.h.length 0)::e.t,e.h++[.uarr t sz []]⟩ (i:=e.h.length) (t:=t) (sz:=sz) (rows:=[]) ae;simpa using this
def xa5(h:gz)(t:List (Nat×AV)):List (Nat×AV):=t.map fun p=>(p.1,p.2.norm h)
theorem xn7(h:gz)(i:Nat):∀t:List (Nat×AV),kj (xa5 h t) i=(kj t i).norm h
 | []=>rfl
 |(j,x)::t=>by
  simp only[xa5,c8,kj];cases j == i with
  |true=>rfl
  |false=>exact xn7 h i t
theorem qzr(E:Ent)(e:Env):Wk E e ⟨xa5 e.h e.t,e.h⟩:=fun c a w s k =>
 ⟨c,⟨s.defers,s.size,fun i=>by
  show Rel c (kj (xa5 e.h e.t) i) _;rw[xn7];exact qep s.hs (s.tmps i),s.hs⟩,k⟩
attribute [go_sem] xa5
@[simp] theorem jra{α:Type}(f:α→List AV)(l:List α):(AV.slice (l.map f)).bd↔l.length≤68719476736∧∀x,x∈l→yz (f x):=by
 simp[AV.bd,qyo]
end
section
variable {P:Program}
theorem ik{f:FuncId}{fn:Func}{code:Code}{args:List AV}{r:AV}{N:Nat}(hf:P.funcs[f]?=some fn)(hn:fn.ntmps=N)(hb:fn.body=some code)(u7:(fn.name == "runtime.NumGoroutine")=false)(hl:decide (args.length≤N)=true)(hr:r.under 0=true)
  (body:∀(E:Ent) (h:gz),E.N=N→E.h=h→hUnder h.length h=true→yz args→wpC P E code (xed P fn.results.toList r h) ⟨qes 0 args,h⟩):APure P f args r:=by
 subst hn;exact qbn hf hb u7 (of_decide_eq_true hl) hr fun E h h1 h2 h3 h4=>na _ _ _ (body E h h1 h2 h3 h4)
theorem lw{f:FuncId}{fn:Func}{code:Code}{args:List AV}{h:gz}{R:AEnd→gz→Prop}{N:Nat}(hf:P.funcs[f]?=some fn)(hn:fn.ntmps=N)(hb:fn.body=some code)(u7:(fn.name == "runtime.NumGoroutine")=false)(hl:decide (args.length≤N)=true)
  (body:∀E:Ent,E.N=N→E.h=h→hUnder h.length h=true→yz args→(∀o,o∈h→o.bd)→nb h.length args=true→wpC P E code (qxr P fn.results.toList h.length R) ⟨qes 0 args,h⟩):ACalls P f args h R:=by
 subst hn;exact qda hf hb u7 (of_decide_eq_true hl) fun E h1 h2 h3 h4 h5 h6=>na _ _ _ (body E h1 h2 h3 h4 h5 h6)
theorem ic{E:Ent}{e e1:Env}(d:wkT e1.h.length e.t e1.t:=by simp[go_sem])(a:E.h.length≤e1.h.length:=by simp[hh])(b:hwk e.h e1.h:=by simp[go_sem])(c:hUnder e1.h.length e1.h=true:=by simp[hu,vf hu,go_sem]):Wk E e e1:=Wk.mk a b c d
end
end Go.Abs
