/- Part 4 of a proof. -/
import Derived.Test.YtbimdamecieomaaGreatDoorR03
set_option linter.all false
namespace Go.Abs
theorem Rel.val_inv{c:Ctx}{x v:Value}(h:Rel c (.val x) v):v=x:=by
 cases h with
 |data h=>cases h;rfl
 |val=>rfl
theorem Rel.slice_inv{c:Ctx}{rows:List (List AV)}{v:Value}:Rel c (.slice rows) v→DRel c.D (.slice rows) v
 | .data h=>h
theorem lj{P:Program}{t:TypeId}{k:TK}(h:ij P t=k)(hk:k≠.other) :
  ∃i d z,P.info? t=some i∧P.underlying t=some d∧i.zero=some z∧nj P d=k∧iy P t=i.size∧jo P t=z.cells.toList.map tr∧z.cells.size=i.size∧∀v,v∈z.cells.toList→v.oneCell'=true:=by
 unfold ij at h;unfold iy jo;split at h
 ·rename_i x hx;obtain⟨i,d,z,h1,h2,h3,rfl,h4,h5⟩:=qvk hx;exact⟨i,d,z,h1,h2,h3,h,ae,ae,h4,h5⟩
 ·exact(hk h.symm).elim
theorem xx{P:Program}{d:TypeDesc}{e sz:Nat}(h:nj P d=.slice e sz):d=.slice e∧∃i,P.info? e=some i∧i.size=sz:=by
 cases d with
 |slice e' =>
  simp only[nj]at h;split at h
  ·rename_i hs;simp only[TK.slice.injEq]at h;obtain⟨rfl,rfl⟩:=h;obtain⟨i,hi⟩:=Option.isSome_iff_exists.1 hs;exact⟨rfl,i,hi,by simp[Program.cellsOf,hi]⟩
  ·cases h
 |struct fs=>simp only[nj]at h;split at h<;>cases h
 |array n e=>simp only[nj]at h;split at h<;>cases h
 |_=>simp[nj]at h
theorem xaa{P:Program}{d:TypeDesc}{n e sz:Nat}(h:nj P d=.array n e sz):d=.array n e∧∃i,P.info? e=some i∧i.size=sz:=by
 cases d with
 |array n' e' =>
  simp only[nj]at h;split at h
  ·rename_i hs;simp only[TK.array.injEq]at h;obtain⟨rfl,rfl,rfl⟩:=h;obtain⟨i,hi⟩:=Option.isSome_iff_exists.1 hs;exact⟨rfl,i,hi,by simp[Program.cellsOf,hi]⟩
  ·cases h
 |struct fs=>simp only[nj]at h;split at h<;>cases h
 |slice e=>simp only[nj]at h;split at h<;>cases h
 |_=>simp[nj]at h
theorem xvj{P:Program}{d:TypeDesc}{fs:List (Nat×Nat)}(h:nj P d=.struct fs) :
  ∃l,d=.struct l∧(∀f,f∈l.toList→∃i,P.info? f.type=some i)∧fs=l.toList.map fun f=>(f.offset,P.cellsOf f.type):=by
 cases d with
 |struct l =>
  simp only[nj]at h;split at h
  ·rename_i hs;simp only[TK.struct.injEq]at h;exact⟨l,rfl,fun f hf=>Option.isSome_iff_exists.1 (dw.1 hs f hf),h.symm⟩
  ·cases h
 |array n e=>simp only[nj]at h;split at h<;>cases h
 |slice e=>simp only[nj]at h;split at h<;>cases h
 |_=>simp[nj]at h
theorem xcv{P:Program}{d:TypeDesc}(h:nj P d=.string):d=.string:=by
 cases d<;>simp only[nj]at h<;>first|rfl|(split at h<;>cases h)|cases h
theorem xud{P:Program}{d:TypeDesc}(h:nj P d=.bool):d=.bool:=by
 cases d<;>simp only[nj]at h<;>first|rfl|(split at h<;>cases h)|cases h
theorem xpd{P:Program}{d:TypeDesc}{k:IntKind}(h:nj P d=.int k):d=.int k:=by
 cases d<;>simp only[nj]at h<;>first|(split at h<;>cases h)|(cases h;done)|(simp only[TK.int.injEq]at h;rw[h])
theorem po{P:Program}{t:TypeId}{d:TypeDesc}(h:P.underlying t=some d)(w:World):(underlying t).run P w=.ok d w:=run_underlying h w
theorem z8{P:Program}{t:TypeId}{i:TypeInfo}(h:P.info? t=some i)(w:World):(sizeOf t).run P w=.ok i.size w:=by
 simp[sizeOf,run_typeInfo _ h]
theorem xne{P:Program}{t:TypeId}{d:TypeDesc}(h:P.underlying t=some d)(hk:nj P d≠.other)(w:World):(isAgg t).run P w=.ok (nj P d).agg w:=by
 simp only[isAgg,dh,po h,dj];cases d<;>first|rfl|(simp only[nj]at hk⊢;split<;>first|rfl|(rename_i hs;simp[hs]at hk))
theorem toList_inj{a b:ByteArray}:(a.toList == b.toList)=decide (a=b):=by
 have hl:∀x:ByteArray,x.toList=x.data.toList:=fun x=>ByteArray.toList_eq x;rw[hl,hl];by_cases h:a=b
 ·subst h;simp
 ·have:a.data.toList≠b.data.toList:=fun e=>h (by
   cases a;cases b;simp at e;simp[e])
  rw[beq_eq_false_iff_ne.2 this,decide_eq_false h]
theorem run_equalIn_bool{P:Program}{t:TypeId}(hu:P.underlying t=some .bool)(a b:Bool)(w:World)(n:Nat):(Op.equalIn (n+1) t (.bool a) (.bool b)).run P w=.ok (a == b) w:=by
 simp[Op.equalIn,po hu]
theorem run_eql_bool{P:Program}{t:TypeId}(hu:P.underlying t=some .bool)(a b:Bool)(w:World):(binOp .eql t (.bool a) (.bool b)).run P w=.ok (.bool (decide (a=b))) w:=by
 show(do pure (.bool (←Op.equalIn (9999+1) t (.bool a) (.bool b))):Sem Value).run P w=_;simp only[dh,run_equalIn_bool hu,dj,dy];cases a<;>cases b<;>rfl
theorem run_neq_bool{P:Program}{t:TypeId}(hu:P.underlying t=some .bool)(a b:Bool)(w:World):(binOp .neq t (.bool a) (.bool b)).run P w=.ok (.bool (!decide (a=b))) w:=by
 show(do pure (.bool (!(←Op.equalIn (9999+1) t (.bool a) (.bool b)))):Sem Value).run P w=_;simp only[dh,run_equalIn_bool hu,dj,dy];cases a<;>cases b<;>rfl
section
variable {P:Program} {c:Ctx} {h:gz} {w:World}
theorem xgy:∀{ks:List TK} {xs:List AV} {vs:List Value},xs.length=vs.length→(∀(j:Nat) (x:AV) (v:Value),xs[j]?=some x→vs[j]?=some v→Rel c x v)→y9 ks xs→nl ks vs∧xs=vs.map AV.val
 | [],[],[],_,_,_=>⟨trivial,rfl⟩
 | [],_::_,_,_,_,h=>by simp[y9]at h
 |k::ks,[],_,_,_,h=>by cases k<;>simp[y9]at h
 |_::_,_::_,[],hl,_,_=>by simp at hl
 | [],[],_::_,hl,_,_=>by simp at hl
 |k::ks,x::xs,v::vs,hl,hr,h=>by
  have h0:=hr 0 x v rfl rfl;have ih:=fun h'=>xgy (ks:=ks) (xs:=xs) (vs:=vs) cj (fun j x v hx hv=>hr (j+1) x v qj4 bx) h';cases k<;>cases x<;>first|(simp[y9]at h;done)|skip
  all_goals rename_i u;cases u<;>first|(simp[y9]at h;done)|skip
  ·obtain rfl:=h0.val_inv;simpa[nl]using ih (by simpa[y9]using h)
  ·obtain rfl:=h0.val_inv;simp only[y9]at h;have:=ih h.2;simpa[nl,h.1]using this
  ·obtain rfl:=h0.val_inv;simpa[nl]using ih (by simpa[y9]using h)
theorem xeb:∀{ks:List TK} {xs ys:List Value},nl ks xs→nl ks ys→eqA (xs.map AV.val) (ys.map AV.val)=x7 xs ys
 | [],[],[],_,_=>rfl
 | [],_::_,_,h,_=>by simp[nl]at h
 | [],[],_::_,_,h=>by simp[nl]at h
 |k::ks,[],_,h,_=>by cases k<;>simp[nl]at h
 |k::ks,_::_,[],_,h=>by cases k<;>simp[nl]at h
 |k::ks,x::xs,y::ys,hx,hy=>by
  cases k<;>cases x<;>simp only[nl]at hx<;>first|(exact hx.elim)|skip
  all_goals cases y<;>simp only[nl]at hy<;>first|(exact hy.elim)|skip
  ·simp[eqA,x7,xeb hx hy]
  ·simp[eqA,x7,xeb hx.2 hy.2]
  ·simp[eqA,x7,xeb hx hy]
theorem xqz{T:TypeId}{xs ys:List AV}{u v:Value}(hx:Rel c (.agg xs) u)(hy:Rel c (.agg ys) v)(ii:qm2 P T≠[])(h1:y9 (qm2 P T) xs)(h2:y9 (qm2 P T) ys)(op:BinOp)(jy:(op matches .eql| .neq)=true)(xo yo:Operand) :
  (eqGuard op T xo yo u v).run P w=.ok () w∧(Op.equal T u v).run P w=.ok (eqA xs ys) w∧∃us vs,u=.agg us∧v=.agg vs:=by
 obtain⟨us,rfl,uv,hur⟩:∃us,u=.agg us∧us.size=xs.length∧∀(j:Nat) (x:AV) (v:Value),xs[j]?=some x→us[j]?=some v→Rel c x v:=by
  cases hx with
  |data h=>cases h
  |agg _ vs hl _ h=>exact⟨vs,rfl,hl,h⟩
 obtain⟨vs,rfl,hvl,hvr⟩:∃us,v=.agg us∧us.size=ys.length∧∀(j:Nat) (x:AV) (v:Value),ys[j]?=some x→us[j]?=some v→Rel c x v:=by
  cases hy with
  |data h=>cases h
  |agg _ vs hl _ h=>exact⟨vs,rfl,hl,h⟩
 unfold qm2 at ii h1 h2;split at ii
 ·rename_i hc;rw[if_pos hc]at h1 h2;cases hf:qo8 P 8 T with
  |none=>rw[hf]at ii;exact(ii rfl).elim
  |some ks =>
   rw[hf]at h1 h2;simp only[f9]at h1 h2;obtain⟨f1,rfl⟩:=xgy (vs:=us.toList) (by simp[uv]) (fun j x v hx hv=>hur j x v hx bx) h1;obtain⟨f2,rfl⟩:=xgy (vs:=vs.toList) (by simp[hvl]) (fun j x v hx hv=>hvr j x v hx bx) h2;have hmk:∀zs:Array Value,mkV P T zs.toList=.agg zs:=by
    obtain⟨kd,hu⟩:=xvx hf;have:∃fs,kd=.struct fs:=by
     unfold qo8 at hf;rw[hu]at hf;have hk:(ij P T).agg=true:=hc.2;unfold ij at hk;cases ht:ti P T with
     |none=>rw[ht]at hk;simp[TK.agg]at hk
     |some x =>
      rw[ht]at hk;obtain⟨i,d,z,_,h4,_,rfl,_⟩:=qvk ht;rw[hu]at h4;cases h4;simp only at hk;split at hf
      ·rename_i h;cases h;simp[nj,TK.agg]at hk
      ·rename_i h;cases h;simp[nj,TK.agg]at hk
      ·rename_i h;cases h;simp[nj,TK.agg]at hk
      ·rename_i fs h;cases h;exact⟨_,rfl⟩
      ·cases hf
    obtain⟨fs,rfl⟩:=this;intro zs;simp[mkV,hu]
   have he:=xs6 (w:=w) 8 9992 T ks hf us.toList vs.toList f1 f2;rw[hmk,hmk]at he;rw[xeb f1 f2];refine⟨?_,he,us,vs,rfl,rfl⟩;cases op<;>simp at jy<;>simp[eqGuard,hc.1]
 ·exact(ii rfl).elim
theorem xpw{t:TypeId}(h:ij P t=.iface):∃ms,P.underlying t=some (.interface ms):=by
 obtain⟨i,d,z,h1,h2,h3,h4,_⟩:=lj h ae;cases d with
 |interface ms=>exact⟨ms,h2⟩
 |struct fs=>simp only[nj]at h4;split at h4<;>cases h4
 |array n e=>simp only[nj]at h4;split at h4<;>cases h4
 |slice e=>simp only[nj]at h4;split at h4<;>cases h4
 |_=>cases h4
theorem xtu{t:TypeId}(h:xbp P t=true):∃ms,P.underlying t=some (.interface ms)∧ms.isEmpty=true:=by
 unfold xbp at h;split at h
 ·rename_i ms hu;exact⟨ms,hu,h⟩
 ·cases h
theorem jgw{t a:TypeId}{ms}(hu:P.underlying t=some (.interface ms)){v:Value}(n:Nat):(Op.equalIn (n+1) t (.iface a v) .nilIface).run P w=.ok false w:=by
 simp[Op.equalIn,po hu]
theorem jrv{t a:TypeId}{ms}(hu:P.underlying t=some (.interface ms)){v:Value}:(Op.equalIn 10000 t (.iface a v) .nilIface).run P w=.ok false w:=jgw hu 9999
theorem jd8{t:TypeId}{ms}(hu:P.underlying t=some (.interface ms))(n:Nat):(Op.equalIn (n+1) t .nilIface .nilIface).run P w=.ok true w:=by
 simp[Op.equalIn,po hu]
theorem jq0{t:TypeId}{ms}(hu:P.underlying t=some (.interface ms)):(Op.equalIn 10000 t .nilIface .nilIface).run P w=.ok true w:=jd8 hu 9999
theorem xzc{t:TypeId}{ms}(hu:P.underlying t=some (.interface ms))(hms:ms.isEmpty=true)(n:Nat):(Op.eqGuardIn (n+1) t .nilIface .nilIface).run P w=.ok false w:=by
 simp[Op.eqGuardIn,po hu,hms]
theorem jp2{op:BinOp}{t:TypeId}{ms}(hu:P.underlying t=some (.interface ms))(hms:ms.isEmpty=true){xo yo:Operand}:(eqGuard op t xo yo .nilIface .nilIface).run P w=.ok () w:=by
 have h1:(Op.eqGuardIn Op.maxDepth t .nilIface .nilIface).run P w=.ok false w:=xzc hu hms 9999;unfold eqGuard;cases op<;>simp[h1]<;>(try split)<;>simp[h1]
theorem jlw{op:BinOp}{T:TypeId}{x y:AV}{xo yo:Operand}{u v:Value}(hx:Rel c x u)(hy:Rel c y v)(hs:(xby P op T x y).side) :
  ∃r,((do eqGuard op T xo yo u v;binOp op T u v:Sem Value)).run P w=.ok r w∧Rel c (xby P op T x y).val r:=by
 unfold xby at *;split at hs
 ·rename_i k a k' b;obtain rfl:=hx.val_inv;obtain rfl:=hy.val_inv;split at hs
  ·exact⟨_,qkl,.val _⟩
  ·exact⟨_,qkl,.val _⟩
  ·obtain⟨rfl,hs⟩:=hs;cases op<;>simp only[xf0,SV.no]at hs⊢<;>first|(exact hs.elim)|skip
   all_goals simp[eqGuard,binOp,Op.intArith,Op.intDiv,Op.intCmp,Op.intBits, *]
   all_goals first|exact .val _|(rename_i ii;exact .val _)|skip
 ·rename_i a b;obtain rfl:=hx.val_inv;obtain rfl:=hy.val_inv;cases op<;>simp only[xhp,SV.no]at hs⊢<;>first|(exact hs.elim)|skip
  case add =>
   have hm:¬(((a.size+b.size:Nat):Int) > IntKind.i64.max):=by rw[IntKind.max_i64];omega
   refine⟨_,?_,.val _ (by simpa[zz,qmj]using hs)⟩;simp only[eqGuard_add,pure_bind,binOp,Op.stringOp,if_neg hm,dy]
  all_goals simp[eqGuard,binOp,Op.stringOp,toList_inj,ju]
  all_goals exact .val _
 ·rename_i a b;obtain rfl:=hx.val_inv;obtain rfl:=hy.val_inv;cases op<;>simp only[SV.no]at hs⊢<;>first|(exact hs.elim)|skip
  ·obtain⟨i,d,z,h1,h2,h3,h4,_⟩:=lj hs ae;obtain rfl:=xud h4;exact⟨_,by simp only[eqGuard_at_bool,pure_bind];exact run_eql_bool h2 a b w,.val _⟩
  ·obtain⟨i,d,z,h1,h2,h3,h4,_⟩:=lj hs ae;obtain rfl:=xud h4;exact⟨_,by simp only[eqGuard_at_bool,pure_bind];exact run_neq_bool h2 a b w,.val _⟩
 ·rename_i xs ys;cases op<;>simp only[SV.no]at hs⊢<;>first|(exact hs.elim)|skip
  ·obtain⟨g1,g2,us,vs,rfl,rfl⟩:=xqz (w:=w) hx hy hs.1 hs.2.1 hs.2.2 .eql rfl xo yo;exact⟨_,qiq,.val _⟩
  ·obtain⟨g1,g2,us,vs,rfl,rfl⟩:=xqz (w:=w) hx hy hs.1 hs.2.1 hs.2.2 .neq rfl xo yo;exact⟨_,qiq,.val _⟩
 ·rename_i t x';obtain rfl:=hy.val_inv;obtain⟨v',rfl⟩:∃v',u=.iface t v':=by
   cases hx with
   |data h=>cases h
   |iface _ _ v' h=>exact⟨v',rfl⟩
  cases op<;>simp only[SV.no]at hs⊢<;>first|(exact hs.elim)|skip
  ·obtain⟨ms,hu⟩:=xpw hs;exact⟨_,qho,.val _⟩
  ·obtain⟨ms,hu⟩:=xpw hs;exact⟨_,qho,.val _⟩
 ·obtain rfl:=hx.val_inv;obtain rfl:=hy.val_inv;cases op<;>simp only[SV.no]at hs⊢<;>first|(exact hs.elim)|skip
  ·obtain⟨ms,hu,hms⟩:=xtu hs;exact⟨_,qgx,.val _⟩
  ·obtain⟨ms,hu,hms⟩:=xtu hs;exact⟨_,qgx,.val _⟩
 ·exact hs.elim
end
theorem xeq{α:Type}(p:Nat→α→Prop):∀n,(∀j,j<n→∃v,p j v)→∃vs:List α,vs.length=n∧∀j v,vs[j]?=some v→p j v
 | 0,_=>⟨[],rfl,ae⟩
 |n+1,h=>by
  obtain⟨vs,hl,hp⟩:=xeq p n (fun j hj=>h j aa);obtain⟨v,hv⟩:=h n aa;refine⟨vs++[v],qhh,fun j u hu=>?_⟩;rcases r4 hu with h1|⟨rfl,rfl⟩
  ·exact hp j u h1
  ·rw[hl];exact hv
section
variable {P:Program} {c:Ctx} {h:gz} {w:World}
theorem xk(b o n:Nat):Addr.add ⟨b,o,none⟩ n=⟨b,o+n,none⟩:=Addr.add_lit b o n
theorem xfv{t:TypeId}{b o:Nat}{xs:List AV}(hk:ij P t≠.other)
  (hc:∀(j:Nat) (x:AV),xs[j]?=some x→∃v,w.cell? ⟨b,o+j,none⟩=some v∧Rel c x v∧v.oneCell'=true)
  (hs:(qnq (iy P t) (ij P t).agg xs).side):∃v,(loadVar t ⟨b,o,none⟩).run P w=.ok v w∧Rel c (qnq (iy P t) (ij P t).agg xs).val v:=by
 obtain⟨i,d,z,h1,h2,h3,h4,h5,_⟩:=lj rfl hk;have ha:=xne h2 (by rw[h4];exact hk) w;rw[h4]at ha;unfold loadVar;simp only[dh,ha,dj];cases hag:(ij P t).agg with
 |true =>
  simp only[hag,qnq]at hs⊢;obtain⟨vs,hl,hp⟩:=xeq (fun j v=>w.cell? ⟨b,o+j,none⟩=some v∧(∀x,xs[j]?=some x→Rel c x v)∧v.oneCell'=true) (iy P t) (fun j hj=>by
   have ib:j<xs.length:=aa;obtain⟨v,hv,hr,h1⟩:=hc j xs[j] bp;exact⟨v,hv,fun x hx=>by simp[ib]at hx;subst hx;exact hr,h1⟩)
  have jx:=run_loadCells_list (P:=P) w ⟨b,o,none⟩ vs (fun j v hv=>by rw[xk];exact(hp j v hv).1);rw[hl,h5]at jx;refine⟨.agg vs.toArray,by simp[z8 h1,jx],.agg _ _ (by simp[hl];omega) (fun j v hv=>(hp j v bx).2.2) fun j x v hx hv=>?_⟩;rw[dx]at hx;split at hx
  ·exact(hp j v bx).2.1 x hx
  ·cases hx
 |false =>
  simp only[hag,qnq]at hs⊢;obtain⟨v,hv,hr,_⟩:=hc 0 (xs.getD 0 .top) (by simp[List.getD,hs]);refine⟨v,?_,hr⟩;simp only[fw,if_false,run_load];simp only[d6]at hv;rw[hv]
theorem xgn{cells:List AV}{v:Value}(hr:Rel c (.eptr cells) v) :
  ∃b o,v=.pointer (some ⟨b,o,none⟩)∧(∀(j:Nat) (x:AV),cells[j]?=some x→∃u,c.D b (o+j)=some u∧DRel c.D x u):=by
 cases hr with
 |data h=>cases h
 |eptr cells b o g hD h=>exact⟨b,o,rfl,fun j x hx=>⟨g j,hD j x hx,h j x hx⟩⟩
theorem xes{cells:List AV}{b o:Nat}(h:∀(j:Nat) (x:AV),cells[j]?=some x→∃u,c.D b (o+j)=some u∧DRel c.D x u):Rel c (.eptr cells) (.pointer (some ⟨b,o,none⟩)) :=
 .eptr cells b o (fun j=>(c.D b (o+j)).getD undef) (fun j x hx=>by obtain⟨u,hu,_⟩:=h j x hx;simp[hu]) (fun j x hx=>by obtain⟨u,hu,hd⟩:=h j x hx;simpa[hu]using hd)
theorem qv8{i off:Nat}{v:Value}(hr:Rel c (.ptr i off) v):∃b,v=.pointer (some ⟨b,off,none⟩)∧c.blk i=some b:=by
 cases hr with
 |data h=>cases h
 |ptr i off b h=>exact⟨b,rfl,h⟩
theorem jc1(hs:HSim c h w){i off:Nat}{xs:List AV}{v:Value}(hr:Rel c (.ptr i off) v)(hi:h[i]?=some (.cells xs)) :
  ∃b,v=.pointer (some ⟨b,off,none⟩)∧c.blk i=some b∧(∀(j:Nat) (x:AV),(xs.drop off)[j]?=some x→∃u,w.cell? ⟨b,off+j,none⟩=some u∧Rel c x u∧u.oneCell'=true):=by
 obtain⟨b,rfl,hb⟩:=qv8 hr;refine⟨b,rfl,hb,fun j x hx=>?_⟩;obtain⟨b',vs,T,h1,h2,h3,h4⟩:=hs.obj i _ hi;rw[hb]at h1;cases h1;rw[ez]at hx;have ib:off+j<vs.size:=by rw[h3];exact(cq.1 hx).1
 have:=h4 (off+j) x vs[off+j] hx bp;exact⟨vs[off+j],by rw[cell_of_row w b _ vs T (0,0) h2];simp[ib],this⟩
theorem xag(hs:HSim c h w){i n e sz:Nat}{rows:List (List AV)}(hi:h[i]?=some (.uarr e sz rows))(hn:rows.length=n){v:Value}(hr:Rel c (.own i n) v) :
  c.sl i n=some v∧∃vs,w.ownsRow 0 e sz v n vs∧(∀r,r∈rows→r.length=sz)∧∀(i' j:Nat) (r:List AV) (x:AV),rows[i']?=some r→r[j]?=some x→∃u,vs[i' * sz+j]?=some u∧DRel c.D x u:=by
 subst hn;cases hr with
 |data h=>cases h
 |own i n v hv ho =>
  obtain⟨v',vs,h1,_,_,h2,_,h4,h5⟩:=hs.obj i _ hi;rw[hv]at h1;cases h1;exact⟨hv,vs,h2,h4,h5⟩
theorem xfm(hs:HSim c h w){i n e sz:Nat}{rows:List (List AV)}(hi:h[i]?=some (.oarr e sz rows))(hn:rows.length=n){v:Value}(hr:Rel c (.own i n) v) :
  c.sl i n=some v∧∃vs,w.ownsRow 0 e sz v n vs∧(∀r,r∈rows→r.length=sz)∧∀(i' j:Nat) (r:List AV) (x:AV),rows[i']?=some r→r[j]?=some x→∃u,vs[i' * sz+j]?=some u∧Rel c x u∧u.oneCell'=true:=by
 subst hn;cases hr with
 |data h=>cases h
 |own i n v hv ho =>
  obtain⟨v',vs,h1,_,_,h2,_,h4,h5⟩:=hs.obj i _ hi;rw[hv]at h1;cases h1;exact⟨hv,vs,h2,h4,h5⟩
theorem qxn{i n sz r q:Nat}{v:Value}(hr:Rel c (.optr i n sz r q) v):∃b o len cap,v=.pointer (some ⟨b,o+(r * sz+q),none⟩)∧c.sl i n=some (.slice (some ⟨b,o,none⟩) len cap):=by
 cases hr with
 |data h=>cases h
 |optr _ _ _ _ _ b o len cap h=>exact⟨b,o,len,cap,rfl,h⟩
theorem jh2(hs:HSim c h w){i n e sz r:Nat}{rows:List (List AV)}(hi:h[i]?=some (.uarr e sz rows))(hn:rows.length=n){b o len cap:Nat}(hv:c.sl i n=some (.slice (some ⟨b,o,none⟩) len cap))(hr:r<rows.length) :
  o=0∧∀(j:Nat) (x:AV),(rows.getD r [])[j]?=some x→∃u,w.cell? ⟨b,r * sz+j,none⟩=some u∧DRel c.D x u:=by
 subst hn;obtain⟨v',vs,h1,_,_,h2,_,h4,h5⟩:=hs.obj i _ hi;rw[hv]at h1;cases h1;have hg:(Value.slice (some ⟨b,o,none⟩) len cap).ownBlock=some b:=rfl;constructor
 ·rcases h2.2 with⟨e1,_⟩|⟨g,cp,cur,e1,_⟩
  ·cases e1
  ·cases e1;rfl
 ·intro j x hx;have ny:rows[r]?=some (rows.getD r []):=qi3;obtain⟨u,hu,hd⟩:=h5 r j _ x ny hx;have:=h2.cells hg _ u hu;rw[xk,db]at this;exact⟨u,this,hd⟩
theorem jii(hs:HSim c h w){i n e sz r:Nat}{rows:List (List AV)}(hi:h[i]?=some (.oarr e sz rows))(hn:rows.length=n){b o len cap:Nat}(hv:c.sl i n=some (.slice (some ⟨b,o,none⟩) len cap))(hr:r<rows.length) :
  o=0∧∀(j:Nat) (x:AV),(rows.getD r [])[j]?=some x→∃u,w.cell? ⟨b,r * sz+j,none⟩=some u∧Rel c x u∧u.oneCell'=true:=by
 subst hn;obtain⟨v',vs,h1,_,_,h2,_,h4,h5⟩:=hs.obj i _ hi;rw[hv]at h1;cases h1;have hg:(Value.slice (some ⟨b,o,none⟩) len cap).ownBlock=some b:=rfl;constructor
 ·rcases h2.2 with⟨e1,_⟩|⟨g,cp,cur,e1,_⟩
  ·cases e1
  ·cases e1;rfl
 ·intro j x hx;have ny:rows[r]?=some (rows.getD r []):=qi3;obtain⟨u,hu,hd⟩:=h5 r j _ x ny hx;have:=h2.cells hg _ u hu;rw[xk,db]at this;exact⟨u,this,hd⟩
theorem xoc{t:TypeId}{a:AV}{u:Value}(hs:HSim c h w)(hr:Rel c a u)(iq:(qvy P t a h).side) :
  ∃v,(Instr.loadAt t u).run P w=.ok v w∧Rel c (qvy P t a h).val v:=by
 unfold qvy at iq⊢;cases a with
 |ptr i off =>
  simp only at iq⊢;cases hi:h[i]? with
  |none=>simp[hi,SV.no]at iq
  |some ob =>
   cases ob with
   |cells xs =>
    simp only[hi]at iq⊢;obtain⟨b,rfl,hb,hc⟩:=jc1 hs hr hi;obtain⟨v,hv,jz⟩:=xfv (P:=P) (t:=t) iq.2 hc iq.1;exact⟨v,by simp[Instr.loadAt,Instr.sureAddr,hv],jz⟩
   |_=>simp[hi,SV.no]at iq
 |eptr cells =>
  simp only at iq⊢;obtain⟨b,o,rfl,hc⟩:=xgn hr;obtain⟨v,hv,jz⟩:=xfv (P:=P) (w:=w) (t:=t) (c:=c) (b:=b) (o:=o) iq.2 (fun j x hx=>by
   obtain⟨u,hu,hd⟩:=hc j x hx;exact⟨u,hs.data _ _ _ hu,.data hd,hd.one⟩) iq.1
  exact⟨v,by simp[Instr.loadAt,Instr.sureAddr,hv],jz⟩
 |optr i n sz r q =>
  simp only at iq⊢;cases hi:h[i]? with
  |none=>simp[hi,SV.no]at iq
  |some ob =>
   cases ob with
   |uarr e kl rows =>
    simp only[hi]at iq⊢;obtain⟨hn,rfl,je,hl,hk⟩:=iq;obtain⟨b,o,len,cap,rfl,hv⟩:=qxn hr;obtain⟨rfl,hc⟩:=jh2 hs hi hn hv je;obtain⟨v,ph,jz⟩:=xfv (P:=P) (w:=w) (t:=t) (c:=c) (b:=b) (o:=0+(r * kl+q)) hk (fun j x hx=>by
     rw[ez]at hx;obtain⟨u,hu,hd⟩:=hc _ x hx;exact⟨u,qk5,.data hd,hd.one⟩) hl
    exact⟨v,qhf,jz⟩
   |oarr e kl rows =>
    simp only[hi]at iq⊢;obtain⟨hn,rfl,je,hl,hk⟩:=iq;obtain⟨b,o,len,cap,rfl,hv⟩:=qxn hr;obtain⟨rfl,hc⟩:=jii hs hi hn hv je;obtain⟨v,ph,jz⟩:=xfv (P:=P) (w:=w) (t:=t) (c:=c) (b:=b) (o:=0+(r * kl+q)) hk (fun j x hx=>by
     rw[ez]at hx;obtain⟨u,hu,hd⟩:=hc _ x hx;exact⟨u,qk5,hd⟩) hl
    exact⟨v,qhf,jz⟩
   |_=>simp[hi,SV.no]at iq
 |_=>exact iq.elim
theorem xx8{s f o n:Nat}(hf:xcn P s f=some (o,n)):∃l fd i,P.underlying s=some (.struct l)∧l[f]?=some fd∧fd.offset=o∧P.info? fd.type=some i∧i.size=n∧0<n:=by
 unfold xcn at hf;split at hf
 ·rename_i fs hk;obtain⟨i,d,z,h1,h2,h3,h4,h5,_⟩:=lj hk ae;obtain⟨l,rfl,ix,rfl⟩:=xvj h4;split at hf
  ·rename_i o' n' hl;split at hf
   ·cases hf
   ·rename_i hn;cases hf;simp only[dq,dn,qlp]at hl;obtain⟨fd,hfd,rfl,rfl⟩:=hl;obtain⟨i',ke⟩:=ix fd (c7 hfd);refine⟨l,fd,i',h2,by simpa using hfd,rfl,ke,by simp[Program.cellsOf,ke],aa⟩
  ·cases hf
 ·cases hf
theorem jow{s f o n b off:Nat}(hf:xcn P s f=some (o,n)):(Instr.fieldAt s (.pointer (some ⟨b,off,none⟩)) f).run P w=.ok (.pointer (some ⟨b,off+o,none⟩)) w:=by
 obtain⟨l,fd,i,h1,h2,rfl,h3,rfl,h4⟩:=xx8 hf;have ii:¬i.size=0:=aa;simp[Instr.fieldAt,po h1,h2,Instr.sureAddr,fieldPlace,z8 h3,ii,xk]
theorem jh7{T:TypeId}{x i:AV}{u v:Value}(hs:HSim c h w)(hx:Rel c x u)(hi:Rel c i v)(iq:(qe4 P T x i h).side) :
  ∃r,(Instr.indexAt T u v).run P w=.ok r w∧Rel c (qe4 P T x i h).val r:=by
 unfold qe4 at iq⊢;split at iq
 ·rename_i e sz rows k n hk;obtain⟨h0,ib,ny,jq⟩:=iq;obtain rfl:=hi.val_inv;obtain⟨i',d,z,h1,h2,h3,h4,h5,_⟩:=lj hk ae;obtain⟨rfl,ie,lx,rfl⟩:=xx h4;have hd:=hx.slice_inv;cases hd with
  |nil=>simp at ib
  |empty a=>simp at ib
  |slice rows b off cap sz g u6 hB hc hD hr =>
   have qy9:rows[n.toNat]?=some (rows.getD n.toNat []):=by simp[List.getD,ib]
   have hszeq:sz=ie.size:=by rw[←ny];exact(u6 _ (c7 qy9)).symm
   subst hszeq;have qqt:(0≤n∧n<(rows.length:Int)):=⟨h0,aa⟩
   refine⟨.pointer (some ⟨b,off+n.toNat * ie.size,none⟩),?_,xes fun j x hx=>?_⟩
   ·simp[Instr.indexAt,asIntOf,po h2,qqt,z8 lx,xk]
   ·exact⟨_,hD n.toNat j _ x qy9 hx,hr n.toNat j _ x qy9 hx⟩
 ·rename_i len e sz o off k n hk;obtain⟨h0,ib,jq⟩:=iq;obtain rfl:=hi.val_inv;obtain⟨i',d,z,h1,h2,h3,h4,h5,_⟩:=lj hk ae;obtain⟨rfl,ie,lx,rfl⟩:=xaa h4;obtain⟨b,rfl,hb⟩:=qv8 hx;have qqt:(0≤n∧n<(len:Int)):=⟨h0,aa⟩
  exact⟨.pointer (some ⟨b,off+n.toNat * ie.size,none⟩),qf7,.ptr _ _ _ hb⟩
 ·rename_i len e sz cells k n hk;obtain⟨h0,ib,jq⟩:=iq;obtain rfl:=hi.val_inv;obtain⟨i',d,z,h1,h2,h3,h4,h5,_⟩:=lj hk ae;obtain⟨rfl,ie,lx,rfl⟩:=xaa h4;obtain⟨b,off,rfl,hc⟩:=xgn hx;have qqt:(0≤n∧n<(len:Int)):=⟨h0,aa⟩
  refine⟨.pointer (some ⟨b,off+n.toNat * ie.size,none⟩),qf7,xes fun j x hx=>?_⟩;rw[ez]at hx;obtain⟨u,hu,hd⟩:=hc _ x hx;exact⟨u,by rw[qli];exact hu,hd⟩
 ·rename_i len e sz o m kl r q k n hk;obtain⟨h0,ib,jq⟩:=iq;obtain rfl:=hi.val_inv;obtain⟨i',d,z,h1,h2,h3,h4,h5,_⟩:=lj hk ae;obtain⟨rfl,ie,lx,rfl⟩:=xaa h4;obtain⟨b,o',len',cap,rfl,hv⟩:=qxn hx;have qqt:(0≤n∧n<(len:Int)):=⟨h0,aa⟩
  refine⟨.pointer (some ⟨b,o'+(r * kl+q)+n.toNat * ie.size,none⟩),qf7,?_⟩;have:=Rel.optr (c:=c) o m kl r (q+n.toNat * ie.size) b o' len' cap hv;rw[show o'+(r * kl+q)+n.toNat * ie.size=o'+(r * kl+(q+n.toNat * ie.size))by omega];exact this
 ·rename_i e sz o m k n hk;split at iq
  ·rename_i e' kl rows ho;simp only[ho];obtain⟨hm,rfl,h0,ib,jq⟩:=iq;obtain rfl:=hi.val_inv;obtain⟨i',d,z,h1,h2,h3,h4,h5,_⟩:=lj hk ae;obtain⟨rfl,ie,lx,rfl⟩:=xx h4;obtain⟨hv,vs,mi,_⟩:=xag hs ho hm hx;rcases mi.2 with⟨rfl,hz⟩|⟨g,cap,cur,rfl,_⟩
   ·omega
   ·have qqt:(0≤n∧n<(m:Int)):=⟨h0,aa⟩
    refine⟨.pointer (some ⟨g,0+n.toNat * ie.size,none⟩),qjt,?_⟩;exact .optr o m ie.size n.toNat 0 g 0 m cap hv
  ·rename_i e' kl rows ho;simp only[ho];obtain⟨hm,rfl,h0,ib,jq⟩:=iq;obtain rfl:=hi.val_inv;obtain⟨i',d,z,h1,h2,h3,h4,h5,_⟩:=lj hk ae;obtain⟨rfl,ie,lx,rfl⟩:=xx h4;obtain⟨hv,vs,mi,_⟩:=xfm hs ho hm hx;rcases mi.2 with⟨rfl,hz⟩|⟨g,cap,cur,rfl,_⟩
   ·omega
   ·have qqt:(0≤n∧n<(m:Int)):=⟨h0,aa⟩
    refine⟨.pointer (some ⟨g,0+n.toNat * ie.size,none⟩),qjt,?_⟩;exact .optr o m ie.size n.toNat 0 g 0 m cap hv
  ·exact iq.elim
 ·exact iq.elim
theorem xy8{T:TypeId}{x i:AV}{u v:Value}(hx:Rel c x u)(hi:Rel c i v)(iq:(xcb P T x i).side) :
  ∃r,(Instr.index T u v).run P w=.ok r w∧Rel c (xcb P T x i).val r:=by
 unfold xcb at iq⊢;split at iq
 ·rename_i s k n hk;obtain⟨h0,ib⟩:=iq;obtain rfl:=hi.val_inv;obtain rfl:=hx.val_inv;obtain⟨i',d,z,h1,h2,h3,h4,h5,_⟩:=lj hk ae;obtain rfl:=xcv h4;have hb:(if 0≤n then s[n.toNat]? else none)=some (xay s n):=by
   have h1:s.data.size=s.size:=rfl;have qt1:n.toNat<s.data.size:=by rw[h1];exact ib
   rw[if_pos h0];show(if h:n.toNat<s.size then some s[n.toNat]else none)=_;rw[dif_pos ib];congr 1;show s.data[n.toNat]=_;simp[xay,List.getD,fm qt1]
  exact⟨_,by simp[Instr.index,asIntOf,po h2,hb],.val _⟩
 ·rename_i len e sz cs k n hk;obtain⟨h0,ib,l9,rfl,ho,hag⟩:=iq;obtain rfl:=hi.val_inv;obtain⟨i',d,z,h1,h2,h3,h4,h5,_⟩:=lj hk ae;obtain⟨rfl,ie,lx,jq⟩:=xaa h4;obtain⟨i2,d2,z2,g1,g2,g3,g4,g5,_⟩:=lj rfl ho;have ha:=xne g2 (by rw[g4];exact ho) w;rw[g4,hag]at ha;have qqt:(0≤n∧n<(len:Int)):=⟨h0,aa⟩
  cases hx with
  |data hd=>cases hd
  |agg _ vs hl m7 hr =>
   have hlv:n.toNat<vs.size:=aa;refine⟨vs[n.toNat],?_,hr n.toNat _ _ (by rw[fg,da l9,f9]) (by simp[hlv])⟩;simp[Instr.index,asIntOf,po h2,qqt,z8 lx,jq,part,ha,hlv]
 ·exact iq.elim
theorem jjk{T:TypeId}{x:AV}{u:Value}(hs:HSim c h w)(hx:Rel c x u)(iq:(qwk P T x h).side)(ty:TypeId) :
  ∃r,(Builtin.len_ #[T] ty #[u]).run P w=.ok r w∧Rel c (qwk P T x h).val r:=by
 have jr:(Builtin.len_ #[T] ty #[u]).run P w=(do
   match ←underlying T,u with
   | .string,.string s=>pure (goInt s.size)
   | .array n _,_=>pure (goInt n)
   | .pointer arr,_ =>
    let .array n _ ←underlying arr|stuck "len: pointer to array expected"
    pure (goInt n)
   | .slice _,.slice _ n _=>pure (goInt n)
   | .map _ _,.map none| .chan _ _,.chan none=>pure (goInt 0)
   | .map _ _,.map (some r) =>
    let .map entries _ ←getObj r|stuck "len: map expected"
    pure (goInt entries.size)
   | .chan _ _,.chan (some r) =>
    let .chan _ buf _ _ _ timer ←getObj r|stuck "len: channel expected"
    pure (goInt (if timer then 0 else buf.size))
   |_,_=>stuck "len: string, array, pointer to array, slice, map or channel expected":Sem Value).run P w:=by
  rfl
 rw[jr];unfold qwk at iq⊢;split at iq
 ·rename_i e sz rows hk;obtain⟨i',d,z,h1,h2,h3,h4,h5,_⟩:=lj hk ae;obtain⟨rfl,ie,lx,rfl⟩:=xx h4;have hd:=hx.slice_inv;cases hd with
  |nil=>exact⟨.int .i64 0,qfq,.val _⟩
  |empty a=>exact⟨.int .i64 0,qfq,.val _⟩
  |slice rows b off cap sz g u6 hB hc hD hr=>exact⟨.int .i64 rows.length,qfq,.val _⟩
 ·rename_i e sz hk;obtain⟨i',d,z,h1,h2,h3,h4,h5,_⟩:=lj hk ae;obtain⟨rfl,ie,lx,rfl⟩:=xx h4;cases hx with
  |data h=>cases h
  |nils=>exact⟨.int .i64 0,qfq,.val _⟩
 ·rename_i e sz o m hk;split at iq
  ·rename_i e' kl rows ho;simp only[ho];obtain⟨i',d,z,h1,h2,h3,h4,h5,_⟩:=lj hk ae;obtain⟨rfl,ie,lx,rfl⟩:=xx h4;obtain⟨hv,vs,mi,_⟩:=xag hs ho iq hx;have hm:rows.length=m:=iq;rcases mi.2 with⟨rfl,hz⟩|⟨g,cap,cur,rfl,_⟩
   ·exact⟨.int .i64 0,qfq,by rw[hm,hz];exact .val _⟩
   ·exact⟨.int .i64 m,qfq,by rw[hm];exact .val _⟩
  ·rename_i e' kl rows ho;simp only[ho];obtain⟨i',d,z,h1,h2,h3,h4,h5,_⟩:=lj hk ae;obtain⟨rfl,ie,lx,rfl⟩:=xx h4;obtain⟨hv,vs,mi,_⟩:=xfm hs ho iq hx;have hm:rows.length=m:=iq;rcases mi.2 with⟨rfl,hz⟩|⟨g,cap,cur,rfl,_⟩
   ·exact⟨.int .i64 0,qfq,by rw[hm,hz];exact .val _⟩
   ·exact⟨.int .i64 m,qfq,by rw[hm];exact .val _⟩
  ·exact iq.elim
 ·rename_i s hk;obtain⟨i',d,z,h1,h2,h3,h4,h5,_⟩:=lj hk ae;obtain rfl:=xcv h4;obtain rfl:=hx.val_inv;exact⟨.int .i64 s.size,qfq,.val _⟩
 ·rename_i y n e sz hk;obtain⟨i',d,z,h1,h2,h3,h4,h5,_⟩:=lj hk ae;obtain⟨rfl,ie,lx,rfl⟩:=xaa h4;exact⟨.int .i64 n,qfq,.val _⟩
 ·exact iq.elim
end
end Go.Abs
