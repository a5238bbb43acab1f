/- Part 4 of a proof: AbsE, AbsF -/
import Derived.Test.YtilhejdbiionhaaGreatDoorR02
import Derived.Test.YtilhejdbiionhaaGreatDoorR03
set_option linter.all false

namespace Go.Abs
theorem Rel.val_inv{c:Ctx}{x v:Value}(h:Rel c (.val x) v):v=x:=by
 cases h with
 |data h=>cases h;rfl
 |val=>rfl
theorem Rel.slice_inv{c:Ctx}{rows:List (List AV)}{v:Value}:Rel c (.slice rows) v→DRel c.D (.slice rows) v
 | .data h=>h
theorem qas{P:Program}{t:TypeId}{k:TK}(h:qah P t=k)(hk:k≠.other) :
  ∃i d z,P.info? t=some i∧P.underlying t=some d∧i.zero=some z∧qbd P d=k∧qat P t=i.size∧qba P t=z.cells.toList.map liftC∧z.cells.size=i.size∧∀v,v∈z.cells.toList→v.oneCell'=true:=by
 unfold qah at h;unfold qat qba;split at h
 ·rename_i x hx;obtain⟨i,d,z,h1,h2,h3,rfl,h4,h5⟩:=ti_spec hx;exact⟨i,d,z,h1,h2,h3,h,by simp,by simp,h4,h5⟩
 ·exact(hk h.symm).elim
theorem qbq{P:Program}{d:TypeDesc}{e sz:Nat}(h:qbd P d=.slice e sz):d=.slice e∧∃i,P.info? e=some i∧i.size=sz:=by
 cases d with
 |slice e' =>
  simp only[qbd]at h;split at h
  ·rename_i hs;simp only[TK.slice.injEq]at h;obtain⟨rfl,rfl⟩:=h;obtain⟨i,hi⟩:=Option.isSome_iff_exists.1 hs;exact⟨rfl,i,hi,by simp[Program.cellsOf,hi]⟩
  ·cases h
 |struct fs=>simp only[qbd]at h;split at h<;>cases h
 |array n e=>simp only[qbd]at h;split at h<;>cases h
 |_=>simp[qbd]at h
theorem kind_array{P:Program}{d:TypeDesc}{n e sz:Nat}(h:qbd P d=.array n e sz):d=.array n e∧∃i,P.info? e=some i∧i.size=sz:=by
 cases d with
 |array n' e' =>
  simp only[qbd]at h;split at h
  ·rename_i hs;simp only[TK.array.injEq]at h;obtain⟨rfl,rfl,rfl⟩:=h;obtain⟨i,hi⟩:=Option.isSome_iff_exists.1 hs;exact⟨rfl,i,hi,by simp[Program.cellsOf,hi]⟩
  ·cases h
 |struct fs=>simp only[qbd]at h;split at h<;>cases h
 |slice e=>simp only[qbd]at h;split at h<;>cases h
 |_=>simp[qbd]at h
theorem kind_struct{P:Program}{d:TypeDesc}{fs:List (Nat×Nat)}(h:qbd P d=.struct fs) :
  ∃l,d=.struct l∧(∀f,f∈l.toList→∃i,P.info? f.type=some i)∧fs=l.toList.map fun f=>(f.offset,P.cellsOf f.type):=by
 cases d with
 |struct l =>
  simp only[qbd]at h;split at h
  ·rename_i hs;simp only[TK.struct.injEq]at h;exact⟨l,rfl,fun f hf=>Option.isSome_iff_exists.1 (List.all_eq_true.1 hs f hf),h.symm⟩
  ·cases h
 |array n e=>simp only[qbd]at h;split at h<;>cases h
 |slice e=>simp only[qbd]at h;split at h<;>cases h
 |_=>simp[qbd]at h
theorem kind_string{P:Program}{d:TypeDesc}(h:qbd P d=.string):d=.string:=by
 cases d<;>simp only[qbd]at h<;>first|rfl|(split at h<;>cases h)|cases h
theorem kind_bool{P:Program}{d:TypeDesc}(h:qbd P d=.bool):d=.bool:=by
 cases d<;>simp only[qbd]at h<;>first|rfl|(split at h<;>cases h)|cases h
theorem kind_int{P:Program}{d:TypeDesc}{k:IntKind}(h:qbd P d=.int k):d=.int k:=by
 cases d<;>simp only[qbd]at h<;>first|(split at h<;>cases h)|(cases h;done)|(simp only[TK.int.injEq]at h;rw[h])
theorem qa0{P:Program}{t:TypeId}{d:TypeDesc}(h:P.underlying t=some d)(w:World):(underlying t).run P w=.ok d w:=run_underlying h w
theorem qbh{P:Program}{t:TypeId}{i:TypeInfo}(h:P.info? t=some i)(w:World):(sizeOf t).run P w=.ok i.size w:=by
 simp[sizeOf,run_typeInfo _ h]
theorem run_isAggD{P:Program}{t:TypeId}{d:TypeDesc}(h:P.underlying t=some d)(hk:qbd P d≠.other)(w:World):(isAgg t).run P w=.ok (qbd P d).agg w:=by
 simp only[isAgg,Sem.run_bind,qa0 h,Result.andThen_ok];cases d<;>first|rfl|(simp only[qbd]at hk⊢;split<;>first|rfl|(rename_i hs;simp[hs]at hk))
theorem toList_inj{a b:ByteArray}:(a.toList == b.toList)=decide (a=b):=by
 have hl:∀x:ByteArray,x.toList=x.data.toList:=fun x=>ByteArray.toList_eq x;rw[hl,hl];by_cases h:a=b
 ·subst h;simp
 ·have:a.data.toList≠b.data.toList:=fun e=>h (by
   cases a;cases b;simp at e;simp[e])
  rw[beq_eq_false_iff_ne.2 this,decide_eq_false h]
theorem run_equalIn_bool{P:Program}{t:TypeId}(hu:P.underlying t=some .bool)(a b:Bool)(w:World)(n:Nat):(Op.equalIn (n+1) t (.bool a) (.bool b)).run P w=.ok (a == b) w:=by
 simp[Op.equalIn,qa0 hu]
theorem run_eql_bool{P:Program}{t:TypeId}(hu:P.underlying t=some .bool)(a b:Bool)(w:World):(binOp .eql t (.bool a) (.bool b)).run P w=.ok (.bool (decide (a=b))) w:=by
 show(do pure (.bool (←Op.equalIn (9999+1) t (.bool a) (.bool b))):Sem Value).run P w=_;simp only[Sem.run_bind,run_equalIn_bool hu,Result.andThen_ok,Sem.run_pure];cases a<;>cases b<;>rfl
theorem run_neq_bool{P:Program}{t:TypeId}(hu:P.underlying t=some .bool)(a b:Bool)(w:World):(binOp .neq t (.bool a) (.bool b)).run P w=.ok (.bool (!decide (a=b))) w:=by
 show(do pure (.bool (!(←Op.equalIn (9999+1) t (.bool a) (.bool b)))):Sem Value).run P w=_;simp only[Sem.run_bind,run_equalIn_bool hu,Result.andThen_ok,Sem.run_pure];cases a<;>cases b<;>rfl
section
variable {P:Program} {c:Ctx} {h:qab} {w:World}
theorem fit_rel:∀{ks:List TK} {xs:List AV} {vs:List Value},xs.length=vs.length→(∀(j:Nat) (x:AV) (v:Value),xs[j]?=some x→vs[j]?=some v→Rel c x v)→fitA ks xs→fitV ks vs∧xs=vs.map AV.val
 | [],[],[],_,_,_=>⟨trivial,rfl⟩
 | [],_::_,_,_,_,h=>by simp[fitA]at h
 |k::ks,[],_,_,_,h=>by cases k<;>simp[fitA]at h
 |_::_,_::_,[],hl,_,_=>by simp at hl
 | [],[],_::_,hl,_,_=>by simp at hl
 |k::ks,x::xs,v::vs,hl,hr,h=>by
  have h0:=hr 0 x v rfl rfl;have ih:=fun h'=>fit_rel (ks:=ks) (xs:=xs) (vs:=vs) (by simpa using hl) (fun j x v hx hv=>hr (j+1) x v (by simpa using hx) (by simpa using hv)) h';cases k<;>cases x<;>first|(simp[fitA]at h;done)|skip
  all_goals rename_i u;cases u<;>first|(simp[fitA]at h;done)|skip
  ·obtain rfl:=h0.val_inv;simpa[fitV]using ih (by simpa[fitA]using h)
  ·obtain rfl:=h0.val_inv;simp only[fitA]at h;have:=ih h.2;simpa[fitV,h.1]using this
  ·obtain rfl:=h0.val_inv;simpa[fitV]using ih (by simpa[fitA]using h)
theorem eqA_eqV:∀{ks:List TK} {xs ys:List Value},fitV ks xs→fitV ks ys→eqA (xs.map AV.val) (ys.map AV.val)=eqV xs ys
 | [],[],[],_,_=>rfl
 | [],_::_,_,h,_=>by simp[fitV]at h
 | [],[],_::_,_,h=>by simp[fitV]at h
 |k::ks,[],_,h,_=>by cases k<;>simp[fitV]at h
 |k::ks,_::_,[],_,h=>by cases k<;>simp[fitV]at h
 |k::ks,x::xs,y::ys,hx,hy=>by
  cases k<;>cases x<;>simp only[fitV]at hx<;>first|(exact hx.elim)|skip
  all_goals cases y<;>simp only[fitV]at hy<;>first|(exact hy.elim)|skip
  ·simp[eqA,eqV,eqA_eqV hx hy]
  ·simp[eqA,eqV,eqA_eqV hx.2 hy.2]
  ·simp[eqA,eqV,eqA_eqV hx hy]
theorem agg_eq{T:TypeId}{xs ys:List AV}{u v:Value}(hx:Rel c (.agg xs) u)(hy:Rel c (.agg ys) v)(hne:flatOf P T≠[])(h1:fitA (flatOf P T) xs)(h2:fitA (flatOf P T) ys)(op:BinOp)(hop:(op matches .eql| .neq)=true)(xo yo:Operand) :
  (eqGuard op T xo yo u v).run P w=.ok () w∧(Op.equal T u v).run P w=.ok (eqA xs ys) w∧∃us vs,u=.agg us∧v=.agg vs:=by
 obtain⟨us,rfl,hul,hur⟩:∃us,u=.agg us∧us.size=xs.length∧∀(j:Nat) (x:AV) (v:Value),xs[j]?=some x→us[j]?=some v→Rel c x v:=by
  cases hx with
  |data h=>cases h
  |agg _ vs hl _ h=>exact⟨vs,rfl,hl,h⟩
 obtain⟨vs,rfl,hvl,hvr⟩:∃us,v=.agg us∧us.size=ys.length∧∀(j:Nat) (x:AV) (v:Value),ys[j]?=some x→us[j]?=some v→Rel c x v:=by
  cases hy with
  |data h=>cases h
  |agg _ vs hl _ h=>exact⟨vs,rfl,hl,h⟩
 unfold flatOf at hne h1 h2;split at hne
 ·rename_i hc;rw[if_pos hc]at h1 h2;cases hf:flatEq P 8 T with
  |none=>rw[hf]at hne;exact(hne rfl).elim
  |some ks =>
   rw[hf]at h1 h2;simp only[Option.getD_some]at h1 h2;obtain⟨f1,rfl⟩:=fit_rel (vs:=us.toList) (by simp[hul]) (fun j x v hx hv=>hur j x v hx (by simpa using hv)) h1;obtain⟨f2,rfl⟩:=fit_rel (vs:=vs.toList) (by simp[hvl]) (fun j x v hx hv=>hvr j x v hx (by simpa using hv)) h2;have hmk:∀zs:Array Value,mkV P T zs.toList=.agg zs:=by
    obtain⟨kd,hu⟩:=flat_und hf;have:∃fs,kd=.struct fs:=by
     unfold flatEq at hf;rw[hu]at hf;have hk:(qah P T).agg=true:=hc.2;unfold qah at hk;cases ht:ti P T with
     |none=>rw[ht]at hk;simp[TK.agg]at hk
     |some x =>
      rw[ht]at hk;obtain⟨i,d,z,_,h4,_,rfl,_⟩:=ti_spec ht;rw[hu]at h4;cases h4;simp only at hk;split at hf
      ·rename_i h;cases h;simp[qbd,TK.agg]at hk
      ·rename_i h;cases h;simp[qbd,TK.agg]at hk
      ·rename_i h;cases h;simp[qbd,TK.agg]at hk
      ·rename_i fs h;cases h;exact⟨_,rfl⟩
      ·cases hf
    obtain⟨fs,rfl⟩:=this;intro zs;simp[mkV,hu]
   have he:=run_equalIn_flat (w:=w) 8 9992 T ks hf us.toList vs.toList f1 f2;rw[hmk,hmk]at he;rw[eqA_eqV f1 f2];refine⟨?_,he,us,vs,rfl,rfl⟩;cases op<;>simp at hop<;>simp[eqGuard,hc.1]
 ·exact(hne rfl).elim
theorem iface_und{t:TypeId}(h:qah P t=.iface):∃ms,P.underlying t=some (.interface ms):=by
 obtain⟨i,d,z,h1,h2,h3,h4,_⟩:=qas h (by simp);cases d with
 |interface ms=>exact⟨ms,h2⟩
 |struct fs=>simp only[qbd]at h4;split at h4<;>cases h4
 |array n e=>simp only[qbd]at h4;split at h4<;>cases h4
 |slice e=>simp only[qbd]at h4;split at h4<;>cases h4
 |_=>cases h4
theorem any_und{t:TypeId}(h:anyT P t=true):∃ms,P.underlying t=some (.interface ms)∧ms.isEmpty=true:=by
 unfold anyT at h;split at h
 ·rename_i ms hu;exact⟨ms,hu,h⟩
 ·cases h
theorem run_equal_ifn'{t a:TypeId}{ms}(hu:P.underlying t=some (.interface ms)){v:Value}(n:Nat):(Op.equalIn (n+1) t (.iface a v) .nilIface).run P w=.ok false w:=by
 simp[Op.equalIn,qa0 hu]
theorem run_equal_ifn{t a:TypeId}{ms}(hu:P.underlying t=some (.interface ms)){v:Value}:(Op.equalIn 10000 t (.iface a v) .nilIface).run P w=.ok false w:=run_equal_ifn' hu 9999
theorem run_equal_nn'{t:TypeId}{ms}(hu:P.underlying t=some (.interface ms))(n:Nat):(Op.equalIn (n+1) t .nilIface .nilIface).run P w=.ok true w:=by
 simp[Op.equalIn,qa0 hu]
theorem run_equal_nn{t:TypeId}{ms}(hu:P.underlying t=some (.interface ms)):(Op.equalIn 10000 t .nilIface .nilIface).run P w=.ok true w:=run_equal_nn' hu 9999
theorem guard_in{t:TypeId}{ms}(hu:P.underlying t=some (.interface ms))(hms:ms.isEmpty=true)(n:Nat):(Op.eqGuardIn (n+1) t .nilIface .nilIface).run P w=.ok false w:=by
 simp[Op.eqGuardIn,qa0 hu,hms]
theorem guard_nn{op:BinOp}{t:TypeId}{ms}(hu:P.underlying t=some (.interface ms))(hms:ms.isEmpty=true){xo yo:Operand}:(eqGuard op t xo yo .nilIface .nilIface).run P w=.ok () w:=by
 have h1:(Op.eqGuardIn Op.maxDepth t .nilIface .nilIface).run P w=.ok false w:=guard_in hu hms 9999;unfold eqGuard;cases op<;>simp[h1]<;>(try split)<;>simp[h1]
theorem bin_ok{op:BinOp}{T:TypeId}{x y:AV}{xo yo:Operand}{u v:Value}(hx:Rel c x u)(hy:Rel c y v)(hs:(aBin P op T x y).side) :
  ∃r,((do eqGuard op T xo yo u v;binOp op T u v:Sem Value)).run P w=.ok r w∧Rel c (aBin P op T x y).val r:=by
 unfold aBin at *;split at hs
 ·rename_i k a k' b;obtain rfl:=hx.val_inv;obtain rfl:=hy.val_inv;split at hs
  ·exact⟨_,by simp[eqGuard,binOp,Op.shift,Int.not_lt.2 hs],.val _⟩
  ·exact⟨_,by simp[eqGuard,binOp,Op.shift,Int.not_lt.2 hs],.val _⟩
  ·obtain⟨rfl,hs⟩:=hs;cases op<;>simp only[aInt,SV.no]at hs⊢<;>first|(exact hs.elim)|skip
   all_goals simp[eqGuard,binOp,Op.intArith,Op.intDiv,Op.intCmp,Op.intBits, *]
   all_goals first|exact .val _|(rename_i hne;exact .val _)|skip
 ·rename_i a b;obtain rfl:=hx.val_inv;obtain rfl:=hy.val_inv;cases op<;>simp only[aStr,SV.no]at hs⊢<;>first|(exact hs.elim)|skip
  case add =>
   have hm:¬(((a.size+b.size:Nat):Int) > IntKind.i64.max):=by rw[IntKind.max_i64];omega
   refine⟨_,?_,.val _ (by simpa[strOk,ByteArray.size_append]using hs)⟩;simp only[eqGuard_add,pure_bind,binOp,Op.stringOp,if_neg hm,Sem.run_pure]
  all_goals simp[eqGuard,binOp,Op.stringOp,toList_inj,sLt]
  all_goals exact .val _
 ·rename_i a b;obtain rfl:=hx.val_inv;obtain rfl:=hy.val_inv;cases op<;>simp only[SV.no]at hs⊢<;>first|(exact hs.elim)|skip
  ·obtain⟨i,d,z,h1,h2,h3,h4,_⟩:=qas hs (by simp);obtain rfl:=kind_bool h4;exact⟨_,by simp only[eqGuard_at_bool,pure_bind];exact run_eql_bool h2 a b w,.val _⟩
  ·obtain⟨i,d,z,h1,h2,h3,h4,_⟩:=qas hs (by simp);obtain rfl:=kind_bool h4;exact⟨_,by simp only[eqGuard_at_bool,pure_bind];exact run_neq_bool h2 a b w,.val _⟩
 ·rename_i xs ys;cases op<;>simp only[SV.no]at hs⊢<;>first|(exact hs.elim)|skip
  ·obtain⟨g1,g2,us,vs,rfl,rfl⟩:=agg_eq (w:=w) hx hy hs.1 hs.2.1 hs.2.2 .eql rfl xo yo;exact⟨_,by simp only[Sem.run_bind,g1,Result.andThen_ok,binOp,g2,Sem.run_pure],.val _⟩
  ·obtain⟨g1,g2,us,vs,rfl,rfl⟩:=agg_eq (w:=w) hx hy hs.1 hs.2.1 hs.2.2 .neq rfl xo yo;exact⟨_,by simp only[Sem.run_bind,g1,Result.andThen_ok,binOp,g2,Sem.run_pure],.val _⟩
 ·rename_i t x';obtain rfl:=hy.val_inv;obtain⟨v',rfl⟩:∃v',u=.iface t v':=by
   cases hx with
   |data h=>cases h
   |iface _ _ v' h=>exact⟨v',rfl⟩
  cases op<;>simp only[SV.no]at hs⊢<;>first|(exact hs.elim)|skip
  ·obtain⟨ms,hu⟩:=iface_und hs;exact⟨_,by simp only[eqGuard,binOp,Sem.run_bind,Op.equal,Op.maxDepth,run_equal_ifn hu];simp[eqGuard],.val _⟩
  ·obtain⟨ms,hu⟩:=iface_und hs;exact⟨_,by simp only[eqGuard,binOp,Sem.run_bind,Op.equal,Op.maxDepth,run_equal_ifn hu];simp[eqGuard],.val _⟩
 ·obtain rfl:=hx.val_inv;obtain rfl:=hy.val_inv;cases op<;>simp only[SV.no]at hs⊢<;>first|(exact hs.elim)|skip
  ·obtain⟨ms,hu,hms⟩:=any_und hs;exact⟨_,by simp only[Sem.run_bind,guard_nn hu hms,Result.andThen_ok,binOp,Op.equal,Op.maxDepth,run_equal_nn hu];simp,.val _⟩
  ·obtain⟨ms,hu,hms⟩:=any_und hs;exact⟨_,by simp only[Sem.run_bind,guard_nn hu hms,Result.andThen_ok,binOp,Op.equal,Op.maxDepth,run_equal_nn hu];simp,.val _⟩
 ·exact hs.elim
end
end Go.Abs

namespace Go.Abs
theorem choose_list{α:Type}(p:Nat→α→Prop):∀n,(∀j,j<n→∃v,p j v)→∃vs:List α,vs.length=n∧∀j v,vs[j]?=some v→p j v
 | 0,_=>⟨[],rfl,by simp⟩
 |n+1,h=>by
  obtain⟨vs,hl,hp⟩:=choose_list p n (fun j hj=>h j (by omega));obtain⟨v,hv⟩:=h n (by omega);refine⟨vs++[v],by simp[hl],fun j u hu=>?_⟩;rcases qav hu with h1|⟨rfl,rfl⟩
  ·exact hp j u h1
  ·rw[hl];exact hv
section
variable {P:Program} {c:Ctx} {h:qab} {w:World}
theorem qdv(b o n:Nat):Addr.add ⟨b,o,none⟩ n=⟨b,o+n,none⟩:=Addr.add_lit b o n
theorem load_ok{t:TypeId}{b o:Nat}{xs:List AV}(hk:qah P t≠.other)
  (hc:∀(j:Nat) (x:AV),xs[j]?=some x→∃v,w.cell? ⟨b,o+j,none⟩=some v∧Rel c x v∧v.oneCell'=true)
  (hs:(aLoad (qat P t) (qah P t).agg xs).side):∃v,(loadVar t ⟨b,o,none⟩).run P w=.ok v w∧Rel c (aLoad (qat P t) (qah P t).agg xs).val v:=by
 obtain⟨i,d,z,h1,h2,h3,h4,h5,_⟩:=qas rfl hk;have ha:=run_isAggD h2 (by rw[h4];exact hk) w;rw[h4]at ha;unfold loadVar;simp only[Sem.run_bind,ha,Result.andThen_ok];cases hag:(qah P t).agg with
 |true =>
  simp only[hag,aLoad]at hs⊢;obtain⟨vs,hl,hp⟩:=choose_list (fun j v=>w.cell? ⟨b,o+j,none⟩=some v∧(∀x,xs[j]?=some x→Rel c x v)∧v.oneCell'=true) (qat P t) (fun j hj=>by
   have hlt:j<xs.length:=by omega
   obtain⟨v,hv,hr,h1⟩:=hc j xs[j] (by simp[hlt]);exact⟨v,hv,fun x hx=>by simp[hlt]at hx;subst hx;exact hr,h1⟩)
  have hrun:=run_loadCells_list (P:=P) w ⟨b,o,none⟩ vs (fun j v hv=>by rw[qdv];exact(hp j v hv).1);rw[hl,h5]at hrun;refine⟨.agg vs.toArray,by simp[qbh h1,hrun],.agg _ _ (by simp[hl];omega) (fun j v hv=>(hp j v (by simpa using hv)).2.2) fun j x v hx hv=>?_⟩;rw[List.getElem?_take]at hx;split at hx
  ·exact(hp j v (by simpa using hv)).2.1 x hx
  ·cases hx
 |false =>
  simp only[hag,aLoad]at hs⊢;obtain⟨v,hv,hr,_⟩:=hc 0 (xs.getD 0 .top) (by simp[List.getD,hs]);refine⟨v,?_,hr⟩;simp only[Bool.false_eq_true,if_false,run_load];simp only[Nat.add_zero]at hv;rw[hv]
theorem eptr_cells{cells:List AV}{v:Value}(hr:Rel c (.eptr cells) v) :
  ∃b o,v=.pointer (some ⟨b,o,none⟩)∧(∀(j:Nat) (x:AV),cells[j]?=some x→∃u,c.D b (o+j)=some u∧DRel c.D x u):=by
 cases hr with
 |data h=>cases h
 |eptr cells b o g hD h=>exact⟨b,o,rfl,fun j x hx=>⟨g j,hD j x hx,h j x hx⟩⟩
theorem eptr_mk{cells:List AV}{b o:Nat}(h:∀(j:Nat) (x:AV),cells[j]?=some x→∃u,c.D b (o+j)=some u∧DRel c.D x u):Rel c (.eptr cells) (.pointer (some ⟨b,o,none⟩)) :=
 .eptr cells b o (fun j=>(c.D b (o+j)).getD undef) (fun j x hx=>by obtain⟨u,hu,_⟩:=h j x hx;simp[hu]) (fun j x hx=>by obtain⟨u,hu,hd⟩:=h j x hx;simpa[hu]using hd)
theorem ptr_inv{i off:Nat}{v:Value}(hr:Rel c (.ptr i off) v):∃b,v=.pointer (some ⟨b,off,none⟩)∧c.blk i=some b:=by
 cases hr with
 |data h=>cases h
 |ptr i off b h=>exact⟨b,rfl,h⟩
theorem ptr_cells(hs:HSim c h w){i off:Nat}{xs:List AV}{v:Value}(hr:Rel c (.ptr i off) v)(hi:h[i]?=some (.cells xs)) :
  ∃b,v=.pointer (some ⟨b,off,none⟩)∧c.blk i=some b∧(∀(j:Nat) (x:AV),(xs.drop off)[j]?=some x→∃u,w.cell? ⟨b,off+j,none⟩=some u∧Rel c x u∧u.oneCell'=true):=by
 obtain⟨b,rfl,hb⟩:=ptr_inv hr;refine⟨b,rfl,hb,fun j x hx=>?_⟩;obtain⟨b',vs,T,h1,h2,h3,h4⟩:=hs.obj i _ hi;rw[hb]at h1;cases h1;rw[List.getElem?_drop]at hx;have hlt:off+j<vs.size:=by rw[h3];exact(List.getElem?_eq_some_iff.1 hx).1
 have:=h4 (off+j) x vs[off+j] hx (by simp[hlt]);exact⟨vs[off+j],by rw[cell_of_row w b _ vs T (0,0) h2];simp[hlt],this⟩
theorem own_inv(hs:HSim c h w){i n e sz:Nat}{rows:List (List AV)}(hi:h[i]?=some (.uarr e sz rows))(hn:rows.length=n){v:Value}(hr:Rel c (.own i n) v) :
  c.sl i n=some v∧∃vs,w.ownsRow 0 e sz v n vs∧(∀r,r∈rows→r.length=sz)∧∀(i' j:Nat) (r:List AV) (x:AV),rows[i']?=some r→r[j]?=some x→∃u,vs[i' * sz+j]?=some u∧DRel c.D x u:=by
 subst hn;cases hr with
 |data h=>cases h
 |own i n v hv ho =>
  obtain⟨v',vs,h1,_,_,h2,_,h4,h5⟩:=hs.obj i _ hi;rw[hv]at h1;cases h1;exact⟨hv,vs,h2,h4,h5⟩
theorem own_invO(hs:HSim c h w){i n e sz:Nat}{rows:List (List AV)}(hi:h[i]?=some (.oarr e sz rows))(hn:rows.length=n){v:Value}(hr:Rel c (.own i n) v) :
  c.sl i n=some v∧∃vs,w.ownsRow 0 e sz v n vs∧(∀r,r∈rows→r.length=sz)∧∀(i' j:Nat) (r:List AV) (x:AV),rows[i']?=some r→r[j]?=some x→∃u,vs[i' * sz+j]?=some u∧Rel c x u∧u.oneCell'=true:=by
 subst hn;cases hr with
 |data h=>cases h
 |own i n v hv ho =>
  obtain⟨v',vs,h1,_,_,h2,_,h4,h5⟩:=hs.obj i _ hi;rw[hv]at h1;cases h1;exact⟨hv,vs,h2,h4,h5⟩
theorem optr_inv{i n sz r q:Nat}{v:Value}(hr:Rel c (.optr i n sz r q) v):∃b o len cap,v=.pointer (some ⟨b,o+(r * sz+q),none⟩)∧c.sl i n=some (.slice (some ⟨b,o,none⟩) len cap):=by
 cases hr with
 |data h=>cases h
 |optr _ _ _ _ _ b o len cap h=>exact⟨b,o,len,cap,rfl,h⟩
theorem optr_cells(hs:HSim c h w){i n e sz r:Nat}{rows:List (List AV)}(hi:h[i]?=some (.uarr e sz rows))(hn:rows.length=n){b o len cap:Nat}(hv:c.sl i n=some (.slice (some ⟨b,o,none⟩) len cap))(hr:r<rows.length) :
  o=0∧∀(j:Nat) (x:AV),(rows.getD r [])[j]?=some x→∃u,w.cell? ⟨b,r * sz+j,none⟩=some u∧DRel c.D x u:=by
 subst hn;obtain⟨v',vs,h1,_,_,h2,_,h4,h5⟩:=hs.obj i _ hi;rw[hv]at h1;cases h1;have hg:(Value.slice (some ⟨b,o,none⟩) len cap).ownBlock=some b:=rfl;constructor
 ·rcases h2.2 with⟨e1,_⟩|⟨g,cp,cur,e1,_⟩
  ·cases e1
  ·cases e1;rfl
 ·intro j x hx;have hrow:rows[r]?=some (rows.getD r []):=by simp[List.getD,hr]
  obtain⟨u,hu,hd⟩:=h5 r j _ x hrow hx;have:=h2.cells hg _ u hu;rw[qdv,Nat.zero_add]at this;exact⟨u,this,hd⟩
theorem optr_cellsO(hs:HSim c h w){i n e sz r:Nat}{rows:List (List AV)}(hi:h[i]?=some (.oarr e sz rows))(hn:rows.length=n){b o len cap:Nat}(hv:c.sl i n=some (.slice (some ⟨b,o,none⟩) len cap))(hr:r<rows.length) :
  o=0∧∀(j:Nat) (x:AV),(rows.getD r [])[j]?=some x→∃u,w.cell? ⟨b,r * sz+j,none⟩=some u∧Rel c x u∧u.oneCell'=true:=by
 subst hn;obtain⟨v',vs,h1,_,_,h2,_,h4,h5⟩:=hs.obj i _ hi;rw[hv]at h1;cases h1;have hg:(Value.slice (some ⟨b,o,none⟩) len cap).ownBlock=some b:=rfl;constructor
 ·rcases h2.2 with⟨e1,_⟩|⟨g,cp,cur,e1,_⟩
  ·cases e1
  ·cases e1;rfl
 ·intro j x hx;have hrow:rows[r]?=some (rows.getD r []):=by simp[List.getD,hr]
  obtain⟨u,hu,hd⟩:=h5 r j _ x hrow hx;have:=h2.cells hg _ u hu;rw[qdv,Nat.zero_add]at this;exact⟨u,this,hd⟩
theorem loadAt_ok{t:TypeId}{a:AV}{u:Value}(hs:HSim c h w)(hr:Rel c a u)(hside:(aLoadAt P t a h).side) :
  ∃v,(Instr.loadAt t u).run P w=.ok v w∧Rel c (aLoadAt P t a h).val v:=by
 unfold aLoadAt at hside⊢;cases a with
 |ptr i off =>
  simp only at hside⊢;cases hi:h[i]? with
  |none=>simp[hi,SV.no]at hside
  |some ob =>
   cases ob with
   |cells xs =>
    simp only[hi]at hside⊢;obtain⟨b,rfl,hb,hc⟩:=ptr_cells hs hr hi;obtain⟨v,hv,hrel⟩:=load_ok (P:=P) (t:=t) hside.2 hc hside.1;exact⟨v,by simp[Instr.loadAt,Instr.sureAddr,hv],hrel⟩
   |_=>simp[hi,SV.no]at hside
 |eptr cells =>
  simp only at hside⊢;obtain⟨b,o,rfl,hc⟩:=eptr_cells hr;obtain⟨v,hv,hrel⟩:=load_ok (P:=P) (w:=w) (t:=t) (c:=c) (b:=b) (o:=o) hside.2 (fun j x hx=>by
   obtain⟨u,hu,hd⟩:=hc j x hx;exact⟨u,hs.data _ _ _ hu,.data hd,hd.one⟩) hside.1
  exact⟨v,by simp[Instr.loadAt,Instr.sureAddr,hv],hrel⟩
 |optr i n sz r q =>
  simp only at hside⊢;cases hi:h[i]? with
  |none=>simp[hi,SV.no]at hside
  |some ob =>
   cases ob with
   |uarr e sz' rows =>
    simp only[hi]at hside⊢;obtain⟨hn,rfl,hr',hl,hk⟩:=hside;obtain⟨b,o,len,cap,rfl,hv⟩:=optr_inv hr;obtain⟨rfl,hc⟩:=optr_cells hs hi hn hv hr';obtain⟨v,hv',hrel⟩:=load_ok (P:=P) (w:=w) (t:=t) (c:=c) (b:=b) (o:=0+(r * sz'+q)) hk (fun j x hx=>by
     rw[List.getElem?_drop]at hx;obtain⟨u,hu,hd⟩:=hc _ x hx;exact⟨u,by rw[Nat.zero_add,Nat.add_assoc];exact hu,.data hd,hd.one⟩) hl
    exact⟨v,by simp only[Instr.loadAt,Instr.sureAddr,Sem.run_bind,Sem.run_pure,Result.andThen_ok];exact hv',hrel⟩
   |oarr e sz' rows =>
    simp only[hi]at hside⊢;obtain⟨hn,rfl,hr',hl,hk⟩:=hside;obtain⟨b,o,len,cap,rfl,hv⟩:=optr_inv hr;obtain⟨rfl,hc⟩:=optr_cellsO hs hi hn hv hr';obtain⟨v,hv',hrel⟩:=load_ok (P:=P) (w:=w) (t:=t) (c:=c) (b:=b) (o:=0+(r * sz'+q)) hk (fun j x hx=>by
     rw[List.getElem?_drop]at hx;obtain⟨u,hu,hd⟩:=hc _ x hx;exact⟨u,by rw[Nat.zero_add,Nat.add_assoc];exact hu,hd⟩) hl
    exact⟨v,by simp only[Instr.loadAt,Instr.sureAddr,Sem.run_bind,Sem.run_pure,Result.andThen_ok];exact hv',hrel⟩
   |_=>simp[hi,SV.no]at hside
 |_=>exact hside.elim
theorem aField_spec{s f o n:Nat}(hf:aField P s f=some (o,n)):∃l fd i,P.underlying s=some (.struct l)∧l[f]?=some fd∧fd.offset=o∧P.info? fd.type=some i∧i.size=n∧0<n:=by
 unfold aField at hf;split at hf
 ·rename_i fs hk;obtain⟨i,d,z,h1,h2,h3,h4,h5,_⟩:=qas hk (by simp);obtain⟨l,rfl,hall,rfl⟩:=kind_struct h4;split at hf
  ·rename_i o' n' hl;split at hf
   ·cases hf
   ·rename_i hn;cases hf;simp only[List.getElem?_map,Option.map_eq_some_iff,Prod.mk.injEq]at hl;obtain⟨fd,hfd,rfl,rfl⟩:=hl;obtain⟨i',hi'⟩:=hall fd (List.mem_of_getElem? hfd);refine⟨l,fd,i',h2,by simpa using hfd,rfl,hi',by simp[Program.cellsOf,hi'],by omega⟩
  ·cases hf
 ·cases hf
theorem fieldAt_run{s f o n b off:Nat}(hf:aField P s f=some (o,n)):(Instr.fieldAt s (.pointer (some ⟨b,off,none⟩)) f).run P w=.ok (.pointer (some ⟨b,off+o,none⟩)) w:=by
 obtain⟨l,fd,i,h1,h2,rfl,h3,rfl,h4⟩:=aField_spec hf;have hne:¬i.size=0:=by omega
 simp[Instr.fieldAt,qa0 h1,h2,Instr.sureAddr,fieldPlace,qbh h3,hne,qdv]
theorem indexAddr_ok{T:TypeId}{x i:AV}{u v:Value}(hs:HSim c h w)(hx:Rel c x u)(hi:Rel c i v)(hside:(qd8 P T x i h).side) :
  ∃r,(Instr.indexAt T u v).run P w=.ok r w∧Rel c (qd8 P T x i h).val r:=by
 unfold qd8 at hside⊢;split at hside
 ·rename_i e sz rows k n hk;obtain⟨h0,hlt,hrow,hsz⟩:=hside;obtain rfl:=hi.val_inv;obtain⟨i',d,z,h1,h2,h3,h4,h5,_⟩:=qas hk (by simp);obtain⟨rfl,ie,hie,rfl⟩:=qbq h4;have hd:=hx.slice_inv;cases hd with
  |nil=>simp at hlt
  |empty a=>simp at hlt
  |slice rows b off cap sz g hsz' hB hc hD hr =>
   have hrow':rows[n.toNat]?=some (rows.getD n.toNat []):=by simp[List.getD,hlt]
   have hszeq:sz=ie.size:=by rw[←hrow];exact(hsz' _ (List.mem_of_getElem? hrow')).symm
   subst hszeq;have hcond:(0≤n∧n<(rows.length:Int)):=⟨h0,by omega⟩
   refine⟨.pointer (some ⟨b,off+n.toNat * ie.size,none⟩),?_,eptr_mk fun j x hx=>?_⟩
   ·simp[Instr.indexAt,asIntOf,qa0 h2,hcond,qbh hie,qdv]
   ·exact⟨_,hD n.toNat j _ x hrow' hx,hr n.toNat j _ x hrow' hx⟩
 ·rename_i len e sz o off k n hk;obtain⟨h0,hlt,hsz⟩:=hside;obtain rfl:=hi.val_inv;obtain⟨i',d,z,h1,h2,h3,h4,h5,_⟩:=qas hk (by simp);obtain⟨rfl,ie,hie,rfl⟩:=kind_array h4;obtain⟨b,rfl,hb⟩:=ptr_inv hx;have hcond:(0≤n∧n<(len:Int)):=⟨h0,by omega⟩
  exact⟨.pointer (some ⟨b,off+n.toNat * ie.size,none⟩),by simp[Instr.indexAt,asIntOf,Instr.sureAddr,qa0 h2,hcond,qbh hie,qdv],.ptr _ _ _ hb⟩
 ·rename_i len e sz cells k n hk;obtain⟨h0,hlt,hsz⟩:=hside;obtain rfl:=hi.val_inv;obtain⟨i',d,z,h1,h2,h3,h4,h5,_⟩:=qas hk (by simp);obtain⟨rfl,ie,hie,rfl⟩:=kind_array h4;obtain⟨b,off,rfl,hc⟩:=eptr_cells hx;have hcond:(0≤n∧n<(len:Int)):=⟨h0,by omega⟩
  refine⟨.pointer (some ⟨b,off+n.toNat * ie.size,none⟩),by simp[Instr.indexAt,asIntOf,Instr.sureAddr,qa0 h2,hcond,qbh hie,qdv],eptr_mk fun j x hx=>?_⟩;rw[List.getElem?_drop]at hx;obtain⟨u,hu,hd⟩:=hc _ x hx;exact⟨u,by rw[Nat.add_assoc];exact hu,hd⟩
 ·rename_i len e sz o m sz' r q k n hk;obtain⟨h0,hlt,hsz⟩:=hside;obtain rfl:=hi.val_inv;obtain⟨i',d,z,h1,h2,h3,h4,h5,_⟩:=qas hk (by simp);obtain⟨rfl,ie,hie,rfl⟩:=kind_array h4;obtain⟨b,o',len',cap,rfl,hv⟩:=optr_inv hx;have hcond:(0≤n∧n<(len:Int)):=⟨h0,by omega⟩
  refine⟨.pointer (some ⟨b,o'+(r * sz'+q)+n.toNat * ie.size,none⟩),by simp[Instr.indexAt,asIntOf,Instr.sureAddr,qa0 h2,hcond,qbh hie,qdv],?_⟩;have:=Rel.optr (c:=c) o m sz' r (q+n.toNat * ie.size) b o' len' cap hv;rw[show o'+(r * sz'+q)+n.toNat * ie.size=o'+(r * sz'+(q+n.toNat * ie.size))by omega];exact this
 ·rename_i e sz o m k n hk;split at hside
  ·rename_i e' sz' rows ho;simp only[ho];obtain⟨hm,rfl,h0,hlt,hsz⟩:=hside;obtain rfl:=hi.val_inv;obtain⟨i',d,z,h1,h2,h3,h4,h5,_⟩:=qas hk (by simp);obtain⟨rfl,ie,hie,rfl⟩:=qbq h4;obtain⟨hv,vs,hown,_⟩:=own_inv hs ho hm hx;rcases hown.2 with⟨rfl,hz⟩|⟨g,cap,cur,rfl,_⟩
   ·omega
   ·have hcond:(0≤n∧n<(m:Int)):=⟨h0,by omega⟩
    refine⟨.pointer (some ⟨g,0+n.toNat * ie.size,none⟩),by simp[Instr.indexAt,asIntOf,qa0 h2,hcond,qbh hie,qdv],?_⟩;exact .optr o m ie.size n.toNat 0 g 0 m cap hv
  ·rename_i e' sz' rows ho;simp only[ho];obtain⟨hm,rfl,h0,hlt,hsz⟩:=hside;obtain rfl:=hi.val_inv;obtain⟨i',d,z,h1,h2,h3,h4,h5,_⟩:=qas hk (by simp);obtain⟨rfl,ie,hie,rfl⟩:=qbq h4;obtain⟨hv,vs,hown,_⟩:=own_invO hs ho hm hx;rcases hown.2 with⟨rfl,hz⟩|⟨g,cap,cur,rfl,_⟩
   ·omega
   ·have hcond:(0≤n∧n<(m:Int)):=⟨h0,by omega⟩
    refine⟨.pointer (some ⟨g,0+n.toNat * ie.size,none⟩),by simp[Instr.indexAt,asIntOf,qa0 h2,hcond,qbh hie,qdv],?_⟩;exact .optr o m ie.size n.toNat 0 g 0 m cap hv
  ·exact hside.elim
 ·exact hside.elim
theorem index_ok{T:TypeId}{x i:AV}{u v:Value}(hx:Rel c x u)(hi:Rel c i v)(hside:(aIndex P T x i).side) :
  ∃r,(Instr.index T u v).run P w=.ok r w∧Rel c (aIndex P T x i).val r:=by
 unfold aIndex at hside⊢;split at hside
 ·rename_i s k n hk;obtain⟨h0,hlt⟩:=hside;obtain rfl:=hi.val_inv;obtain rfl:=hx.val_inv;obtain⟨i',d,z,h1,h2,h3,h4,h5,_⟩:=qas hk (by simp);obtain rfl:=kind_string h4;have hb:(if 0≤n then s[n.toNat]? else none)=some (byteAt s n):=by
   have h1:s.data.size=s.size:=rfl;have hlt':n.toNat<s.data.size:=by rw[h1];exact hlt
   rw[if_pos h0];show(if h:n.toNat<s.size then some s[n.toNat]else none)=_;rw[dif_pos hlt];congr 1;show s.data[n.toNat]=_;simp[byteAt,List.getD,Array.getElem?_eq_getElem hlt']
  exact⟨_,by simp[Instr.index,asIntOf,qa0 h2,hb],.val _⟩
 ·rename_i len e sz cs k n hk;obtain⟨h0,hlt,hcl,rfl,ho,hag⟩:=hside;obtain rfl:=hi.val_inv;obtain⟨i',d,z,h1,h2,h3,h4,h5,_⟩:=qas hk (by simp);obtain⟨rfl,ie,hie,hsz⟩:=kind_array h4;obtain⟨i2,d2,z2,g1,g2,g3,g4,g5,_⟩:=qas rfl ho;have ha:=run_isAggD g2 (by rw[g4];exact ho) w;rw[g4,hag]at ha;have hcond:(0≤n∧n<(len:Int)):=⟨h0,by omega⟩
  cases hx with
  |data hd=>cases hd
  |agg _ vs hl hone hr =>
   have hlv:n.toNat<vs.size:=by omega
   refine⟨vs[n.toNat],?_,hr n.toNat _ _ (by rw[List.getD_eq_getElem?_getD,List.getElem?_eq_getElem hcl,Option.getD_some]) (by simp[hlv])⟩;simp[Instr.index,asIntOf,qa0 h2,hcond,qbh hie,hsz,part,ha,hlv]
 ·exact hside.elim
theorem len_ok{T:TypeId}{x:AV}{u:Value}(hs:HSim c h w)(hx:Rel c x u)(hside:(aLen P T x h).side)(ty:TypeId) :
  ∃r,(Builtin.len_ #[T] ty #[u]).run P w=.ok r w∧Rel c (aLen P T x h).val r:=by
 have hlen:(Builtin.len_ #[T] ty #[u]).run P w=(do
   match ←underlying T,u with
   | .string,.string s=>pure (goInt s.size)
   | .array n _,_=>pure (goInt n)
   | .pointer arr,_ =>
    let .array n _ ←underlying arr|stuck "len: pointer to array expected"
    pure (goInt n)
   | .slice _,.slice _ n _=>pure (goInt n)
   | .map _ _,.map none| .chan _ _,.chan none=>pure (goInt 0)
   | .map _ _,.map (some r) =>
    let .map entries _ ←getObj r|stuck "len: map expected"
    pure (goInt entries.size)
   | .chan _ _,.chan (some r) =>
    let .chan _ buf _ _ _ timer ←getObj r|stuck "len: channel expected"
    pure (goInt (if timer then 0 else buf.size))
   |_,_=>stuck "len: string, array, pointer to array, slice, map or channel expected":Sem Value).run P w:=by
  rfl
 rw[hlen];unfold aLen at hside⊢;split at hside
 ·rename_i e sz rows hk;obtain⟨i',d,z,h1,h2,h3,h4,h5,_⟩:=qas hk (by simp);obtain⟨rfl,ie,hie,rfl⟩:=qbq h4;have hd:=hx.slice_inv;cases hd with
  |nil=>exact⟨.int .i64 0,by simp[qa0 h2,goInt],.val _⟩
  |empty a=>exact⟨.int .i64 0,by simp[qa0 h2,goInt],.val _⟩
  |slice rows b off cap sz g hsz' hB hc hD hr=>exact⟨.int .i64 rows.length,by simp[qa0 h2,goInt],.val _⟩
 ·rename_i e sz hk;obtain⟨i',d,z,h1,h2,h3,h4,h5,_⟩:=qas hk (by simp);obtain⟨rfl,ie,hie,rfl⟩:=qbq h4;cases hx with
  |data h=>cases h
  |nils=>exact⟨.int .i64 0,by simp[qa0 h2,goInt],.val _⟩
 ·rename_i e sz o m hk;split at hside
  ·rename_i e' sz' rows ho;simp only[ho];obtain⟨i',d,z,h1,h2,h3,h4,h5,_⟩:=qas hk (by simp);obtain⟨rfl,ie,hie,rfl⟩:=qbq h4;obtain⟨hv,vs,hown,_⟩:=own_inv hs ho hside hx;have hm:rows.length=m:=hside;rcases hown.2 with⟨rfl,hz⟩|⟨g,cap,cur,rfl,_⟩
   ·exact⟨.int .i64 0,by simp[qa0 h2,goInt],by rw[hm,hz];exact .val _⟩
   ·exact⟨.int .i64 m,by simp[qa0 h2,goInt],by rw[hm];exact .val _⟩
  ·rename_i e' sz' rows ho;simp only[ho];obtain⟨i',d,z,h1,h2,h3,h4,h5,_⟩:=qas hk (by simp);obtain⟨rfl,ie,hie,rfl⟩:=qbq h4;obtain⟨hv,vs,hown,_⟩:=own_invO hs ho hside hx;have hm:rows.length=m:=hside;rcases hown.2 with⟨rfl,hz⟩|⟨g,cap,cur,rfl,_⟩
   ·exact⟨.int .i64 0,by simp[qa0 h2,goInt],by rw[hm,hz];exact .val _⟩
   ·exact⟨.int .i64 m,by simp[qa0 h2,goInt],by rw[hm];exact .val _⟩
  ·exact hside.elim
 ·rename_i s hk;obtain⟨i',d,z,h1,h2,h3,h4,h5,_⟩:=qas hk (by simp);obtain rfl:=kind_string h4;obtain rfl:=hx.val_inv;exact⟨.int .i64 s.size,by simp[qa0 h2,goInt],.val _⟩
 ·rename_i y n e sz hk;obtain⟨i',d,z,h1,h2,h3,h4,h5,_⟩:=qas hk (by simp);obtain⟨rfl,ie,hie,rfl⟩:=kind_array h4;exact⟨.int .i64 n,by simp[qa0 h2,goInt],.val _⟩
 ·rename_i k e i hk;split at hside
  ·rename_i es hes;simp only[hes];obtain⟨b,rfl,hb⟩:=mapr_inv hx;obtain⟨b',ces,clock,g1,g2,g3,_⟩:=hs.obj i _ hes;rw[hb]at g1;cases g1;have hT:=map_und hk;exact⟨.int .i64 es.length,by simp[run_underlying hT,Go.MapKept.run_getObj_map g2,goInt,g3],.val _⟩
  ·exact hside.elim
 ·exact hside.elim
end
end Go.Abs
